/- The abstract walk: a contract of the library that sorts a row, as a contract on what is owned. No condition. -/
import Derived.Test.YtegohioalgikjaaVg
import Derived.Shelf.SlSortCmp.InsertionK
set_option linter.unusedVariables false
set_option linter.unusedSimpArgs false
set_option linter.unusedSectionVars false
namespace Go.Vm
open Go Go.RowKit Go.Sort Go.Proofs

theorem grow_of_bel {W W' : World} (h : Bel W.heap.size W W') : ∃ q os, W' = grow (W.drewN q) os := by
  refine ⟨W'.drawn - W.drawn, W'.heap.extract W.heap.size W'.heap.size, ?_⟩
  obtain ⟨h1, h2, h3, h4, h5, h6⟩ := h
  have e : W'.heap = W.heap ++ W'.heap.extract W.heap.size W'.heap.size := by
    apply Array.ext_getElem?
    intro i
    by_cases hi : i < W.heap.size
    · rw [Array.getElem?_append_left hi]; exact h6 i hi
    · rw [Array.getElem?_append_right (by omega), Array.getElem?_extract]
      by_cases hi2 : i < W'.heap.size
      · rw [if_pos (by omega), show W.heap.size + (i - W.heap.size) = i by omega]
      · rw [if_neg (by omega), Array.getElem?_eq_none (by omega)]
  obtain ⟨hp, tp, dr, o, out⟩ := W'
  obtain ⟨hp0, tp0, dr0, o0, out0⟩ := W
  simp only [grow, World.drewN] at *
  subst h1 h2 h3
  rw [← e, show dr0 + (dr - dr0) = dr by omega]

section
variable {α : Type} [Inhabited α] {enc : α → List Value} {k : Nat}
theorem flat_get? (hk : ∀ x, (enc x).length = k) (k0 : 0 < k) : ∀ (l : List α) (t : Nat), t < l.length * k → ((l.map enc).flatten)[t]? = (enc (l.getD (t / k) default))[t % k]?
  | [], t, h => by simp at h
  | x :: l, t, h => by
    simp only [List.map_cons, List.flatten_cons]
    by_cases ht : t < k
    · rw [List.getElem?_append_left (by rw [hk]; exact ht), Nat.div_eq_of_lt ht, Nat.mod_eq_of_lt ht]; rfl
    · rw [List.getElem?_append_right (by rw [hk]; omega), hk]
      have h2 : t - k < l.length * k := by simp only [List.length_cons, Nat.add_mul, Nat.one_mul] at h; omega
      rw [flat_get? hk k0 l (t - k) h2]
      have e1 : t / k = (t - k) / k + 1 := by rw [Nat.div_eq t k, if_pos ⟨k0, by omega⟩]
      have e2 : t % k = (t - k) % k := by rw [Nat.mod_eq_sub_mod (by omega)]
      rw [e1, e2]; simp
theorem flat_len (hk : ∀ x, (enc x).length = k) : ∀ (l : List α), ((l.map enc).flatten).length = l.length * k
  | [] => by simp
  | x :: l => by simp only [List.map_cons, List.flatten_cons, List.length_append, flat_len hk l, hk, List.length_cons, Nat.add_mul, Nat.one_mul]; omega
theorem flatK_list (hk : ∀ x, (enc x).length = k) (k0 : 0 < k) (d : Array α) : (flatK enc k d).toList = (d.toList.map enc).flatten := by
  apply List.ext_getElem?
  intro t
  by_cases ht : t < d.size * k
  · rw [flat_get? hk k0 _ t (by simpa using ht)]
    have h1 := get_flatK enc k d t ht
    have hs : t < (flatK enc k d).size := by simpa using ht
    rw [getElem!_pos _ t hs] at h1
    rw [Array.getElem?_toList, Array.getElem?_eq_getElem hs, h1]
    have hd : t / k < d.size := Nat.div_lt_of_lt_mul (by rw [Nat.mul_comm]; exact ht)
    have e3 : d[t / k]! = d.toList.getD (t / k) default := by
      rw [getElem!_pos d _ hd, List.getD_eq_getElem?_getD, Array.getElem?_toList, Array.getElem?_eq_getElem hd]; rfl
    have hm : t % k < (enc (d.toList.getD (t / k) default)).length := by rw [hk]; exact Nat.mod_lt _ k0
    rw [e3, getElem!_pos (enc (d.toList.getD (t / k) default)) (t % k) hm, List.getElem?_eq_getElem hm]
  · rw [List.getElem?_eq_none (by simp; omega), List.getElem?_eq_none (by rw [flat_len hk]; simp; omega)]
theorem setMany_all (vs : List Value) (F : Array Value) (h : vs.length = F.size) : setMany F 0 vs = vs.toArray := by
  refine ext_get! (by simp [h]) fun t ht => ?_
  have ht' : t < F.size := by simpa using ht
  rw [get_setMany _ _ _ t ht', if_pos (by omega), Nat.sub_zero]
  have h1 : t < vs.length := by omega
  rw [getElem!_pos vs t h1, getElem!_pos vs.toArray t (by simpa using h1)]; simp
theorem holdsK_of {W : World} {g ty n : Nat} {cur : Array Value} {d : Array α} (hk : ∀ x, (enc x).length = k) (k0 : 0 < k) (hg : W.heap[g]? = some (.cells cur ty (0, 0))) (hd : d.size = n) (hx : cur.toList.take (n * k) = (d.toList.map enc).flatten) : HoldsK enc k W g 0 d := by
  intro j hj
  rw [Nat.zero_add]
  refine ⟨?_, frozen_zero hg j⟩
  rw [cells_row hg]
  have h1 : (flatK enc k d).toList[j]? = some (flatK enc k d)[j]! := by rw [Array.getElem?_toList, Array.getElem?_eq_getElem hj, getElem!_pos _ j hj]
  rw [flatK_list hk k0, ← hx, List.getElem?_take] at h1
  split at h1
  · rwa [Array.getElem?_toList] at h1
  · cases h1
theorem sortWorld_row {W : World} {g ty n cap : Nat} {cur : Array Value} {d d' : Array α} (hk : ∀ x, (enc x).length = k) (k0 : 0 < k) (hg : W.heap[g]? = some (.cells cur ty (0, 0))) (hc : cur.size = cap * k) (hn : n ≤ cap) (hm : cap ≤ maxLen) (hd : d.size = n) (hd' : d'.size = n)
    (hH : HoldsK enc k W g 0 d) (m : Nat) (os : Array Obj) :
    (sortWorldK enc k W g 0 m d' os).ownsRow 0 ty k (.slice (some ⟨g, 0, none⟩) n cap) n ((d'.toList.map enc).flatten) ∧ BelowX (fun b => b = g) W (sortWorldK enc k W g 0 m d' os) := by
  have hlt : g < W.heap.size := (Array.getElem?_eq_some_iff.1 hg).1
  have hl : (flatK enc k d').toList.length = n * k := by rw [Array.length_toList, size_flatK, hd']
  have e1 : putRowK enc k (Sort.ahead W m) g 0 d' = (Sort.ahead W m).setCells g 0 (flatK enc k d').toList := by
    have hH2 : HoldsK enc k (Sort.ahead W m) g 0 d := hH
    conv => rhs; rw [← putRow_self id (Sort.ahead W m) g 0 (flatK enc k d) hH2]
    have := setCells_putRow (Sort.ahead W m) g 0 (flatK enc k d').toList 0 (flatK enc k d) (by rw [hl, size_flatK, hd]; omega)
    rw [this, setMany_all _ _ (by rw [hl, size_flatK, hd])]
    rfl
  have hg2 : (Sort.ahead W m).heap[g]? = some (.cells cur ty (0, 0)) := hg
  obtain ⟨c1, a1, a2, a3⟩ := heap_setCells (W := Sort.ahead W m) (cur := cur) (flatK enc k d').toList 0 hg2 (by rw [hl, hc, Nat.zero_add]; exact Nat.mul_le_mul_right _ hn)
  have hgb := grownBy_setCells g (flatK enc k d').toList 0 (Sort.ahead W m)
  have hsz : ((Sort.ahead W m).setCells g 0 (flatK enc k d').toList).heap.size = W.heap.size := by rw [← e1, size_putRowK]; rfl
  have hdr : ((Sort.ahead W m).setCells g 0 (flatK enc k d').toList).drawn = W.drawn + m := by rw [← e1]; rfl
  unfold sortWorldK
  rw [e1]
  have hin : ∀ b, b < W.heap.size → (grow ((Sort.ahead W m).setCells g 0 (flatK enc k d').toList) os).heap[b]? = ((Sort.ahead W m).setCells g 0 (flatK enc k d').toList).heap[b]? := fun b hb => by
    show (_ ++ os)[b]? = _
    rw [Array.getElem?_append_left (by rw [hsz]; exact hb)]
  refine ⟨⟨by rw [flat_len hk, Array.length_toList, hd'], .inr ⟨g, cap, c1, rfl, Nat.zero_le _, ?_, hn, hm, by rw [a2, hc], ?_⟩⟩, ⟨hgb.os, hgb.tape, hgb.output, ?_, ?_, fun b hb hne => ?_⟩⟩
  · rw [hin g hlt]; exact a1
  · rw [a3, List.take_zero, List.nil_append, flatK_list hk k0, List.take_append]
    have hl2 := hl
    rw [flatK_list hk k0] at hl2
    rw [hl2, Nat.sub_self, List.take_zero, List.append_nil, List.take_of_length_le (by omega)]
  · show W.heap.size ≤ (_ ++ os).size
    rw [Array.size_append, hsz]; omega
  · show W.drawn ≤ ((Sort.ahead W m).setCells g 0 (flatK enc k d').toList).drawn
    rw [hdr]; omega
  · rw [hin b hb]; exact hgb.block b hb (by simpa using hne)
end

theorem intsFn_rz {fr : Fr} {W : World} {ok : Nat → Prop} {ν : Nat → Value} {h : Nat → Option Blk} {sem : List Dat → List Dat → Prop} : ∀ (ks : List Int) {us : List Value}, Ts.rz fr W ok ν h (ks.map (fun i => .c (.int .i64 i)) ++ [.fn sem]) us → ∃ u, us = ks.map (Value.int .i64) ++ [u] ∧ FnRz fr.P fr.W0 fr.X sem u
  | [], us, hu => by
    simp only [List.map_nil, List.nil_append, Ts.rz, T.rz] at hu
    obtain ⟨u, _, rfl, h1, rfl⟩ := hu
    exact ⟨u, rfl, h1⟩
  | k :: ks, us, hu => by
    simp only [List.map_cons, List.cons_append, Ts.rz, T.rz, C.rz] at hu
    obtain ⟨v, us', rfl, ⟨rfl, _⟩, h2⟩ := hu
    obtain ⟨u, rfl, h3⟩ := intsFn_rz ks h2
    exact ⟨u, rfl, h3⟩
/-- .. of an empty row. -/
theorem satG_sort0 {P : Program} {f ty sz : Nat} {sem : List Dat → List Dat → Prop} (hf : FnOk P f) (raw : ∀ (A : Option Addr) (cap : Nat) (u : Value) (W : World), Calls P f #[.slice A 0 cap, u] W fun e w' => e = .returned (.tuple #[]) ∧ w' = W) :
    SatG P f false [.ref 1, .fn sem] [(1, .arr true ty sz [])] (.tup []) [(1, .arr true ty sz [])] := by
  refine ⟨hf, fun W ok X Y vs ν F N γ hok hdp hh hts => ?_⟩
  have hb := hh.heap 1 (.arr true ty sz []) rfl
  simp only [Blk.rz, Fr.B] at hb
  obtain ⟨xs, ho, _⟩ := hb
  simp only [Ts.rz, T.rz] at hts
  obtain ⟨v1, _, rfl, ⟨rfl, _⟩, u, _, rfl, _, rfl⟩ := hts
  have hv : ∃ A cap, ν 1 = .slice A 0 cap := by
    rcases ho.2 with ⟨h, _⟩ | ⟨g, cap, cur, h, _⟩
    · exact ⟨_, _, h⟩
    · exact ⟨_, _, h⟩
  obtain ⟨A, cap, hv⟩ := hv
  rw [hv]
  refine (raw A cap u W).mono ?_
  rintro e W' ⟨rfl, rfl⟩
  exact ⟨⟨rfl, rfl, rfl, Nat.le_refl _, Nat.le_refl _, fun _ _ _ => rfl⟩, _, ν, F, rfl, by simp only [T.rz, Ts.rz]; exact ⟨[], rfl, rfl⟩, hh, fun _ _ => rfl⟩
/-- THE CONTRACT of a function that sorts a row by a function value, out of the kit's. -/
theorem satG_sortK {P : Program} {f ty sz n : Nat} {ks : List Int} {es : List (List C)} {sem : List Dat → List Dat → Prop} {p : List Nat} (hf : FnOk P f) (hsz : 0 < sz) (hln : es.length = n) [Inhabited (Fin n)] (cf : Fin n → Fin n → Int) (hp : p.Perm (List.range n))
    (hsem : ∀ i j : Fin n, sem [(true, Cs.strip (es.getD i [])), (true, Cs.strip (es.getD j []))] [(false, [.int .i64 (cf i j)])])
    (raw : ∀ (enc : Fin n → List Value) (g : Nat) (cb : Array Value) (blk cap : Nat) (W : World), (∀ args w, (callFunc g args).run P w = .ok (.enter g args) w) → (∀ x, (enc x).length = sz) → (∀ x, ∀ v ∈ enc x, v.oneCell' = true) →
      CmpLays P g cb enc sz cf blk 0 n W → HoldsK enc sz W blk 0 (Array.ofFn (fun i : Fin n => i)) → blk < W.heap.size → n ≤ maxLen →
      Calls P f (.slice (some ⟨blk, 0, none⟩) n cap :: (ks.map (Value.int .i64) ++ [.func (.func g) #[] cb])).toArray W fun e w' => e = .returned (.tuple #[]) ∧ ∃ (d' : Array (Fin n)) (m : Nat) (os : Array Obj), d'.toList.map (fun i => i.val) = p ∧ w' = sortWorldK enc sz W blk 0 m d' os) :
    SatG P f false (.ref 1 :: (ks.map (fun i => .c (.int .i64 i)) ++ [.fn sem])) [(1, .arr true ty sz es)] (.tup []) [(1, .arr true ty sz (p.map fun i => es.getD i []))] := by
  subst hln
  refine ⟨hf, fun W ok X Y vs ν F N γ hok hdp hh hts => ?_⟩
  have hb := hh.heap 1 (.arr true ty sz es) rfl
  simp only [Blk.rz, Fr.B] at hb
  obtain ⟨xs, ho, he⟩ := hb
  obtain ⟨L, hLe, hLv, hLf, hLok⟩ := Es.rz_els he
  have hn : L.length = es.length := by rw [← hLe, List.length_map]
  have topg : ∀ g, (ν 1).ownBlock = some g → topOf (fun κ => lk κ [(1, Blk.arr true ty sz es)]) ν 1 = some g := fun g hg => by simp [topOf, lk, topB, hg]
  have hfp := Es.rz_fp _ _ _ _ he
  have hX : ∀ g, (ν 1).ownBlock = some g → X g := fun g hg => by
    have := hh.n1 1 g (topg g hg)
    rcases this with h | h
    · have h : W.heap.size ≤ g := h; have := ownsRow_lt ho hg; omega
    · exact h
  have hXF : ∀ b ∈ F 1, (ν 1).ownBlock ≠ some b := fun b hb h => hh.d2 1 1 b hb (topg b h)
  have top' : ∀ (es' : List (List C)) κ b, topOf (fun κ => lk κ [(1, Blk.arr true ty sz es')]) ν κ = some b → κ = 1 ∧ (ν 1).ownBlock = some b := by
    intro es' κ b h
    simp only [topOf, lk] at h
    split at h
    · rename_i e; subst e; exact ⟨rfl, h⟩
    · simp [topB] at h
  simp only [Ts.rz, T.rz] at hts
  obtain ⟨v1, us, rfl, ⟨rfl, hk1⟩, hus⟩ := hts
  obtain ⟨u, rfl, hfn⟩ := intsFn_rz ks hus
  obtain ⟨g, caps, rfl, hcall⟩ := hfn
  have hpos : 0 < es.length := (default : Fin es.length).pos
  rcases ho.2 with ⟨_, h0⟩ | ⟨q, cap, cur, hνq, _, hq, hnc, hm, hcs, hx⟩
  · omega
  have hown : (ν 1).ownBlock = some q := by rw [hνq]; rfl
  let enc : Fin es.length → List Value := fun i => (L.getD i.val default).us
  have hmem : ∀ i : Fin es.length, L.getD i.val default ∈ L := fun i => by
    have hi : i.val < L.length := by rw [hn]; exact i.isLt
    rw [List.getD_eq_getElem?_getD, List.getElem?_eq_getElem hi]; exact List.getElem_mem hi
  have hek : ∀ x, (enc x).length = sz := fun x => by
    have h1 := hLok _ (hmem x)
    rw [show (enc x).length = (L.getD x.val default).e.length from Cs.rz_length _ _ _ h1.2]; exact h1.1
  have he1 : ∀ x, ∀ v ∈ enc x, v.oneCell' = true := fun x => Cs.rz_one _ _ _ (hLok _ (hmem x)).2
  let d0 : Array (Fin es.length) := Array.ofFn (fun i : Fin es.length => i)
  have hmapL : ∀ d : List (Fin es.length), (d.map enc).flatten = elsV (pick L (d.map fun i => i.val)) := fun d => by
    simp only [elsV, pick, List.map_map, Function.comp_def, enc]
  have hd0v : d0.toList.map (fun i => i.val) = List.range L.length := by
    refine List.ext_getElem (by simp [d0, hn]) fun i h1 h2 => ?_
    simp [d0]
  have hd0 : (d0.toList.map enc).flatten = xs := by
    rw [hmapL, hd0v, pick_range, hLv]
  have hd0s : d0.size = es.length := by simp [d0]
  have hH : HoldsK enc sz W q 0 d0 := holdsK_of hek hsz hq hd0s (by rw [hx, hd0])
  have hkp : ∀ W', BelowX (fun b => b = q) W W' → ∀ b ∈ F 1, W'.heap[b]? = W.heap[b]? := fun W' hB b hb => hB.block b (hfp b hb).2 (fun h => hXF b hb (by rw [hown, h]))
  have hmono : ∀ W', BelowX (fun b => b = q) W W' → BelowX X W W' := fun W' hB => ⟨hB.os, hB.tape, hB.output, hB.size, hB.drawn, fun b hb hXb => hB.block b hb fun h => hXb (by rw [h]; exact hX q hown)⟩
  have cmp : ∀ W', BelowX (fun b => b = q) W W' → ∀ i j : Fin es.length, FnOk P g ∧ Calls P g (#[.agg (enc i).toArray, .agg (enc j).toArray] ++ caps) W' fun e w' => e = .returned (.int .i64 (cf i j)) ∧ ∃ q os', w' = grow (W'.drewN q) os' := by
    intro W' hB i j
    have rd : ∀ i : Fin es.length, Cs.rz W' (fun b => b ∈ F 1) 0 (Cs.strip (es.getD i.val [])) (enc i) [] := fun i => by
      have h1 := hLok _ (hmem i)
      have hsub : ∀ b ∈ (L.getD i.val default).fs, b ∈ F 1 := fun b hb => by rw [← hLf]; exact elsF_mem.2 ⟨_, hmem i, hb⟩
      have h2 := Cs.rz_move (W' := W') (ok' := fun b => b ∈ F 1) (fun b hb => hb.elim) (Nat.le_refl 0) _ _ _ (fun b hb => hkp W' hB b (hsub b hb)) h1.2
      have h3 : Cs.rz W' (fun b => b ∈ F 1) 0 (Cs.strip (L.getD i.val default).e) (L.getD i.val default).us [] := Cs.rz_strip _ _ _ hsub h2
      have e : (L.getD i.val default).e = es.getD i.val [] := by
        have hi : i.val < L.length := by rw [hn]; exact i.isLt
        have e0 : ∀ j : Nat, es.getD j [] = (L.map (·.e)).getD j [] := fun j => by rw [hLe]
        rw [e0, List.getD_eq_getElem?_getD, List.getD_eq_getElem?_getD, List.getElem?_map, List.getElem?_eq_getElem hi]; rfl
      rw [← e]; exact h3
    have := hcall W' (hmono W' hB) (fun b => b ∈ F 1) _ [.agg (enc i).toArray, .agg (enc j).toArray] _ (hsem i j) (by
      simp only [Dats.rz, Dat.rz, if_true]
      exact ⟨_, _, [], [], rfl, rfl, ⟨enc i, rd i, rfl⟩, _, _, [], [], rfl, rfl, ⟨enc j, rd j, rfl⟩, rfl, rfl⟩) (fun b hb => Nat.lt_of_lt_of_le (hfp b hb).2 hB.size)
    refine ⟨this.1, this.2.mono ?_⟩
    rintro e W'' ⟨hb1, v, rfl, hres⟩
    refine ⟨?_, grow_of_bel hb1⟩
    obtain ⟨vs2, fp, rfl, hd2, _, _⟩ := hres
    simp only [Dats.rz, Dat.rz, Bool.false_eq_true, if_false] at hd2
    obtain ⟨u, us, f1, f2, rfl, rfl, ⟨ws, hw, rfl⟩, rfl, rfl⟩ := hd2
    simp only [Cs.rz] at hw
    obtain ⟨u', us', f1', f2', he2, _, h4, _⟩ := hw
    simp only [List.cons.injEq] at he2
    obtain ⟨rfl, _⟩ := he2
    simp only [C.rz] at h4
    show Ending.returned u = _
    rw [h4.1]
  have hfok : FnOk P g := (cmp W ⟨rfl, rfl, rfl, Nat.le_refl _, Nat.le_refl _, fun _ _ _ => rfl⟩ default default).1
  have hrow := fun (d' : Array (Fin es.length)) (hd' : d'.size = es.length) m os => sortWorld_row (d' := d') hek hsz hq hcs hnc hm hd0s hd' hH m os
  have h4 := raw enc g caps q cap W (fun args w => run_enter hfok) hek he1 (fun m os dk hdk x y => (cmp _ (hrow dk hdk m os).2 x y).2) hH ((Array.getElem?_eq_some_iff.1 hq).1) (by omega)
  rw [← hνq] at h4
  refine h4.mono ?_
  rintro e W' ⟨rfl, d', m, os, hd', rfl⟩
  have hds : d'.size = es.length := by
    have := congrArg List.length hd'
    rw [List.length_map, Array.length_toList, hp.length_eq, List.length_range] at this
    exact this
  obtain ⟨ho', hB⟩ := hrow d' hds m os
  rw [hmapL, hd'] at ho'
  generalize sortWorldK enc sz W q 0 m d' os = W' at ho' hB
  have hp' : (p ++ []).Perm (List.range L.length) := by rw [List.append_nil, hn]; exact hp
  have hpl : ∀ i ∈ p, i < L.length := fun i hi => by have := hp.mem_iff.1 hi; rw [hn]; exact List.mem_range.1 this
  have hok' : ∀ x ∈ pick L p, x.ok W (fun _ => False) 0 sz := fun x hx => hLok x (pick_mem hp' hx)
  have hsub : ∀ b ∈ elsF (pick L p), b ∈ F 1 := fun b hb => by
    obtain ⟨x, hx, hb⟩ := elsF_mem.1 hb
    rw [← hLf]; exact elsF_mem.2 ⟨x, pick_mem hp' hx, hb⟩
  have hkeep : ∀ b ∈ F 1, W'.heap[b]? = W.heap[b]? := hkp W' hB
  have hel := els_rz (L := pick L p) (W := W') (ok := fun _ => False) (B := 0) (sz := sz) (fun x hx => ⟨(hok' x hx).1, Cs.rz_move (fun b hb => hb.elim) (Nat.le_refl 0) x.e x.us x.fs (fun b hb => hkeep b (hsub b (elsF_mem.2 ⟨x, hx, hb⟩))) (hok' x hx).2⟩)
  rw [pick_e L p es hLe hpl] at hel
  refine ⟨hmono W' hB, .tuple #[], ν, fun κ => if κ = 1 then elsF (pick L p) else [], rfl, ?_, ⟨?_, ?_, ?_, ?_, ?_, ?_, ?_, ?_⟩, fun _ _ => rfl⟩
  · simp only [T.rz, Ts.rz]; exact ⟨[], rfl, rfl⟩
  · intro κ blk hb
    simp only [lk] at hb
    split at hb
    · rename_i e; subst e
      simp only [Option.some.injEq] at hb; subst hb
      simp only [Blk.rz, Fr.B, if_pos]
      refine ⟨_, ?_, hel⟩
      have e2 : (List.map (fun i => es.getD i []) p).length = es.length := by rw [List.length_map, hp.length_eq, List.length_range]
      rw [e2, hνq]; exact ho'
    · cases hb
  · intro κ hb
    have hne : κ ≠ 1 := by rintro rfl; simp [lk] at hb
    exact if_neg hne
  · exact fun κ κ' b hne h1 h2 => hne ((top' _ κ b h1).1.trans (top' _ κ' b h2).1.symm)
  · intro κ κ' b h1 h2
    by_cases hκ : κ = 1
    · subst hκ
      simp only [if_pos] at h1
      exact hXF b (hsub b h1) (top' _ κ' b h2).2
    · simp only [if_neg hκ] at h1; cases h1
  · intro κ
    show (if κ = 1 then elsF (pick L p) else []).Nodup
    split
    · exact pick_nodup hp' (by rw [hLf]; exact hh.d3 1)
    · exact List.nodup_nil
  · intro κ κ' b hne h1 h2
    by_cases hκ : κ = 1
    · subst hκ
      simp only [if_neg (fun e => hne (Eq.symm e) : ¬ κ' = 1)] at h2
      cases h2
    · simp only [if_neg hκ] at h1; cases h1
  · intro κ b h1
    exact .inr (hX b (top' _ κ b h1).2)
  · intro κ b h1
    by_cases hκ : κ = 1
    · subst hκ
      simp only [if_pos] at h1
      exact hh.n2 1 b (hsub b h1)
    · simp only [if_neg hκ] at h1; cases h1
/-- The same of a row whose elements are not its own. -/
theorem satG_sortKF {P : Program} {f ty sz n : Nat} {ks : List Int} {es : List (List C)} {sem : List Dat → List Dat → Prop} {p : List Nat} (hf : FnOk P f) (hsz : 0 < sz) (hln : es.length = n) [Inhabited (Fin n)] (cf : Fin n → Fin n → Int) (hp : p.Perm (List.range n))
    (hsem : ∀ i j : Fin n, sem [(true, Cs.strip (es.getD i [])), (true, Cs.strip (es.getD j []))] [(false, [.int .i64 (cf i j)])])
    (raw : ∀ (enc : Fin n → List Value) (g : Nat) (cb : Array Value) (blk cap : Nat) (W : World), (∀ args w, (callFunc g args).run P w = .ok (.enter g args) w) → (∀ x, (enc x).length = sz) → (∀ x, ∀ v ∈ enc x, v.oneCell' = true) →
      CmpLays P g cb enc sz cf blk 0 n W → HoldsK enc sz W blk 0 (Array.ofFn (fun i : Fin n => i)) → blk < W.heap.size → n ≤ maxLen →
      Calls P f (.slice (some ⟨blk, 0, none⟩) n cap :: (ks.map (Value.int .i64) ++ [.func (.func g) #[] cb])).toArray W fun e w' => e = .returned (.tuple #[]) ∧ ∃ (d' : Array (Fin n)) (m : Nat) (os : Array Obj), d'.toList.map (fun i => i.val) = p ∧ w' = sortWorldK enc sz W blk 0 m d' os) :
    SatG P f false (.ref 1 :: (ks.map (fun i => .c (.int .i64 i)) ++ [.fn sem])) [(1, .arr false ty sz es)] (.tup []) [(1, .arr false ty sz (p.map fun i => es.getD i []))] := by
  subst hln
  refine ⟨hf, fun W ok X Y vs ν F N γ hok hdp hh hts => ?_⟩
  have hb := hh.heap 1 (.arr false ty sz es) rfl
  simp only [Blk.rz, Fr.B] at hb
  obtain ⟨xs, ho, he, hF1⟩ := hb
  generalize hOK : okOf ⟨P, W, ok, N, γ, X, Y⟩ W (fun κ => lk κ [(1, Blk.arr false ty sz es)]) ν = OK at he
  obtain ⟨L, hLe, hLv, hLf, hLok⟩ := Es.rz_els he
  have hn : L.length = es.length := by rw [← hLe, List.length_map]
  have topg : ∀ g, (ν 1).ownBlock = some g → topOf (fun κ => lk κ [(1, Blk.arr false ty sz es)]) ν 1 = some g := fun g hg => by simp [topOf, lk, topB, hg]
  have hX : ∀ g, (ν 1).ownBlock = some g → X g := fun g hg => by
    have := hh.n1 1 g (topg g hg)
    rcases this with h | h
    · have h : W.heap.size ≤ g := h; have := ownsRow_lt ho hg; omega
    · exact h
  have hFs : ∀ x ∈ L, x.fs = [] := fun x hx => List.eq_nil_iff_forall_not_mem.2 fun b hb => by
    have : b ∈ elsF L := elsF_mem.2 ⟨x, hx, hb⟩
    rw [hLf] at this; cases this
  have hOKt : ∀ b, OK b → b < W.heap.size ∧ (ν 1).ownBlock ≠ some b := fun b hb => by
    rw [← hOK] at hb
    exact ⟨hb.2.1, fun h => hb.2.2 1 (topg b h)⟩
  have top' : ∀ (es' : List (List C)) κ b, topOf (fun κ => lk κ [(1, Blk.arr false ty sz es')]) ν κ = some b → κ = 1 ∧ (ν 1).ownBlock = some b := by
    intro es' κ b h
    simp only [topOf, lk] at h
    split at h
    · rename_i e; subst e; exact ⟨rfl, h⟩
    · simp [topB] at h
  simp only [Ts.rz, T.rz] at hts
  obtain ⟨v1, us, rfl, ⟨rfl, hk1⟩, hus⟩ := hts
  obtain ⟨u, rfl, hfn⟩ := intsFn_rz ks hus
  obtain ⟨g, caps, rfl, hcall⟩ := hfn
  have hpos : 0 < es.length := (default : Fin es.length).pos
  rcases ho.2 with ⟨_, h0⟩ | ⟨q, cap, cur, hνq, _, hq, hnc, hm, hcs, hx⟩
  · omega
  have hown : (ν 1).ownBlock = some q := by rw [hνq]; rfl
  let enc : Fin es.length → List Value := fun i => (L.getD i.val default).us
  have hmem : ∀ i : Fin es.length, L.getD i.val default ∈ L := fun i => by
    have hi : i.val < L.length := by rw [hn]; exact i.isLt
    rw [List.getD_eq_getElem?_getD, List.getElem?_eq_getElem hi]; exact List.getElem_mem hi
  have hek : ∀ x, (enc x).length = sz := fun x => by
    have h1 := hLok _ (hmem x)
    rw [show (enc x).length = (L.getD x.val default).e.length from Cs.rz_length _ _ _ h1.2]; exact h1.1
  have he1 : ∀ x, ∀ v ∈ enc x, v.oneCell' = true := fun x => Cs.rz_one _ _ _ (hLok _ (hmem x)).2
  let d0 : Array (Fin es.length) := Array.ofFn (fun i : Fin es.length => i)
  have hmapL : ∀ d : List (Fin es.length), (d.map enc).flatten = elsV (pick L (d.map fun i => i.val)) := fun d => by
    simp only [elsV, pick, List.map_map, Function.comp_def, enc]
  have hd0v : d0.toList.map (fun i => i.val) = List.range L.length := by
    refine List.ext_getElem (by simp [d0, hn]) fun i h1 h2 => ?_
    simp [d0]
  have hd0 : (d0.toList.map enc).flatten = xs := by
    rw [hmapL, hd0v, pick_range, hLv]
  have hd0s : d0.size = es.length := by simp [d0]
  have hH : HoldsK enc sz W q 0 d0 := holdsK_of hek hsz hq hd0s (by rw [hx, hd0])
  have hkp : ∀ W', BelowX (fun b => b = q) W W' → ∀ b, OK b → W'.heap[b]? = W.heap[b]? := fun W' hB b hb => hB.block b (hOKt b hb).1 (fun h => (hOKt b hb).2 (by rw [hown, h]))
  have hmono : ∀ W', BelowX (fun b => b = q) W W' → BelowX X W W' := fun W' hB => ⟨hB.os, hB.tape, hB.output, hB.size, hB.drawn, fun b hb hXb => hB.block b hb fun h => hXb (by rw [h]; exact hX q hown)⟩
  have cmp : ∀ W', BelowX (fun b => b = q) W W' → ∀ i j : Fin es.length, FnOk P g ∧ Calls P g (#[.agg (enc i).toArray, .agg (enc j).toArray] ++ caps) W' fun e w' => e = .returned (.int .i64 (cf i j)) ∧ ∃ q os', w' = grow (W'.drewN q) os' := by
    intro W' hB i j
    have rd : ∀ i : Fin es.length, Cs.rz W' OK 0 (Cs.strip (es.getD i.val [])) (enc i) [] := fun i => by
      have h1 := hLok _ (hmem i)
      have hfs := hFs _ (hmem i)
      have h2 := Cs.rz_move (W' := W') (ok' := OK) (fun b hb => ⟨hb, hkp W' hB b hb⟩) (Nat.le_refl _) _ _ _ (fun b hb => by rw [hfs] at hb; cases hb) h1.2
      have h3 : Cs.rz W' OK 0 (Cs.strip (L.getD i.val default).e) (L.getD i.val default).us [] := Cs.rz_strip _ _ _ (fun b hb => by rw [hfs] at hb; cases hb) h2
      have e : (L.getD i.val default).e = es.getD i.val [] := by
        have hi : i.val < L.length := by rw [hn]; exact i.isLt
        have e0 : ∀ j : Nat, es.getD j [] = (L.map (·.e)).getD j [] := fun j => by rw [hLe]
        rw [e0, List.getD_eq_getElem?_getD, List.getD_eq_getElem?_getD, List.getElem?_map, List.getElem?_eq_getElem hi]; rfl
      rw [← e]; exact h3
    have := hcall W' (hmono W' hB) OK _ [.agg (enc i).toArray, .agg (enc j).toArray] _ (hsem i j) (by
      simp only [Dats.rz, Dat.rz, if_true]
      exact ⟨_, _, [], [], rfl, rfl, ⟨enc i, rd i, rfl⟩, _, _, [], [], rfl, rfl, ⟨enc j, rd j, rfl⟩, rfl, rfl⟩) (fun b hb => Nat.lt_of_lt_of_le (hOKt b hb).1 hB.size)
    refine ⟨this.1, this.2.mono ?_⟩
    rintro e W'' ⟨hb1, v, rfl, hres⟩
    refine ⟨?_, grow_of_bel hb1⟩
    obtain ⟨vs2, fp, rfl, hd2, _, _⟩ := hres
    simp only [Dats.rz, Dat.rz, Bool.false_eq_true, if_false] at hd2
    obtain ⟨u, us, f1, f2, rfl, rfl, ⟨ws, hw, rfl⟩, rfl, rfl⟩ := hd2
    simp only [Cs.rz] at hw
    obtain ⟨u', us', f1', f2', he2, _, h4, _⟩ := hw
    simp only [List.cons.injEq] at he2
    obtain ⟨rfl, _⟩ := he2
    simp only [C.rz] at h4
    show Ending.returned u = _
    rw [h4.1]
  have hfok : FnOk P g := (cmp W ⟨rfl, rfl, rfl, Nat.le_refl _, Nat.le_refl _, fun _ _ _ => rfl⟩ default default).1
  have hrow := fun (d' : Array (Fin es.length)) (hd' : d'.size = es.length) m os => sortWorld_row (d' := d') hek hsz hq hcs hnc hm hd0s hd' hH m os
  have h4 := raw enc g caps q cap W (fun args w => run_enter hfok) hek he1 (fun m os dk hdk x y => (cmp _ (hrow dk hdk m os).2 x y).2) hH ((Array.getElem?_eq_some_iff.1 hq).1) (by omega)
  rw [← hνq] at h4
  refine h4.mono ?_
  rintro e W' ⟨rfl, d', m, os, hd', rfl⟩
  have hds : d'.size = es.length := by
    have := congrArg List.length hd'
    rw [List.length_map, Array.length_toList, hp.length_eq, List.length_range] at this
    exact this
  obtain ⟨ho', hB⟩ := hrow d' hds m os
  rw [hmapL, hd'] at ho'
  generalize sortWorldK enc sz W q 0 m d' os = W' at ho' hB
  have hp' : (p ++ []).Perm (List.range L.length) := by rw [List.append_nil, hn]; exact hp
  have hpl : ∀ i ∈ p, i < L.length := fun i hi => by have := hp.mem_iff.1 hi; rw [hn]; exact List.mem_range.1 this
  have etop : topOf (fun κ => lk κ [((1 : Nat), Blk.arr false ty sz (p.map fun i => es.getD i []))]) ν = topOf (fun κ => lk κ [((1 : Nat), Blk.arr false ty sz es)]) ν := by
    funext κ
    simp only [topOf, lk]
    by_cases hκ : κ = 1 <;> simp [hκ, topB]
  have hOK' : ∀ b, OK b → okOf ⟨P, W, ok, N, γ, X, Y⟩ W' (fun κ => lk κ [((1 : Nat), Blk.arr false ty sz (p.map fun i => es.getD i []))]) ν b := fun b hb => by
    rw [← hOK] at hb
    exact ⟨hb.1, Nat.lt_of_lt_of_le hb.2.1 hB.size, fun κ => by rw [etop]; exact hb.2.2 κ⟩
  have hel := els_rz (L := pick L p) (W := W') (ok := okOf ⟨P, W, ok, N, γ, X, Y⟩ W' (fun κ => lk κ [((1 : Nat), Blk.arr false ty sz (p.map fun i => es.getD i []))]) ν) (B := Fr.B ⟨P, W, ok, N, γ, X, Y⟩) (sz := sz) (fun x hx => ⟨(hLok x (pick_mem hp' hx)).1, Cs.rz_move (fun b hb => ⟨hOK' b hb, hkp W' hB b hb⟩) (Nat.le_refl _) x.e x.us x.fs (fun b hb => by rw [hFs x (pick_mem hp' hx)] at hb; cases hb) (hLok x (pick_mem hp' hx)).2⟩)
  rw [pick_e L p es hLe hpl] at hel
  have hnil : elsF (pick L p) = [] := List.eq_nil_iff_forall_not_mem.2 fun b hb => by
    obtain ⟨x, hx, hb⟩ := elsF_mem.1 hb
    rw [hFs x (pick_mem hp' hx)] at hb; cases hb
  rw [hnil] at hel
  refine ⟨hmono W' hB, .tuple #[], ν, fun _ => [], rfl, ?_, ⟨?_, fun _ _ => rfl, ?_, fun κ κ' b h1 => (by cases h1), fun _ => List.nodup_nil, fun κ κ' b _ h1 => (by cases h1), ?_, fun κ b h1 => (by cases h1)⟩, fun _ _ => rfl⟩
  · simp only [T.rz, Ts.rz]; exact ⟨[], rfl, rfl⟩
  · intro κ blk hb
    simp only [lk] at hb
    split at hb
    · rename_i e; subst e
      simp only [Option.some.injEq] at hb; subst hb
      simp only [Blk.rz]
      refine ⟨_, ?_, hel, trivial⟩
      have e2 : (List.map (fun i => es.getD i []) p).length = es.length := by rw [List.length_map, hp.length_eq, List.length_range]
      rw [e2, hνq]; exact ho'
    · cases hb
  · exact fun κ κ' b hne h1 h2 => hne ((top' _ κ b h1).1.trans (top' _ κ' b h2).1.symm)
  · intro κ b h1
    exact .inr (hX b (top' _ κ b h1).2)
end Go.Vm
