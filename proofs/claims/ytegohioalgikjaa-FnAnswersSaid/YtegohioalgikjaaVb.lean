/- The abstract walk, second part: rows, appends and calls. No condition. -/
import Derived.Test.YtegohioalgikjaaVa
set_option linter.unusedVariables false
set_option linter.unusedSimpArgs false
namespace Go.Vm
open Go Go.RowKit

/-! ### lists -/
def putL {α : Type} (cells : List α) (off : Nat) (vs : List α) : List α := cells.take off ++ vs ++ cells.drop (off + vs.length)
theorem fold_set : ∀ (vs : List Value) (off k : Nat) (cells : Array Value), off + k + vs.length ≤ cells.size →
    ((vs.zipIdx k).foldl (fun cs p => cs.setIfInBounds (off + p.2) p.1) cells) = (putL cells.toList (off + k) vs).toArray
  | [], off, k, cells, h => by simp [putL]
  | v :: vs, off, k, cells, h => by
    simp only [List.length_cons] at h
    simp only [List.zipIdx_cons, List.foldl_cons]
    rw [fold_set vs off (k + 1) _ (by simp; omega)]
    unfold putL
    congr 1
    have hk : off + k < cells.toList.length := by simp; omega
    rw [Array.toList_setIfInBounds, List.set_eq_take_append_cons_drop, if_pos hk, ← Nat.add_assoc]
    have e1 : (cells.toList.take (off + k)).length = off + k := by rw [List.length_take]; omega
    rw [List.take_append, e1, List.take_of_length_le (by omega), List.drop_append, e1]
    simp only [show off + k + 1 - (off + k) = 1 by omega, List.take_succ_cons, List.take_zero, show off + k + 1 + vs.length - (off + k) = vs.length + 1 by omega, List.drop_succ_cons, List.drop_drop, List.length_cons]
    rw [List.drop_of_length_le (by omega)]
    simp [show off + k + 1 + vs.length = off + k + (vs.length + 1) by omega]
theorem fold_cells (v : Value) (off : Nat) (cells : Array Value) (h : off + v.cells.size ≤ cells.size) :
    (v.cells.zipIdx.foldl (fun cs (c, j) => cs.setIfInBounds (off + j) c) cells) = (putL cells.toList off v.cells.toList).toArray := by
  have := fold_set v.cells.toList off 0 cells (by simpa using h)
  rw [← Array.foldl_toList]
  simpa using this
theorem putL_length {α : Type} {cells vs : List α} {off : Nat} (h : off + vs.length ≤ cells.length) : (putL cells off vs).length = cells.length := by
  simp [putL, List.length_take]; omega

/-- A struct's cells, or a row's, filled part by part. -/
def buildT (place : Nat → Option (Nat × Nat)) (cells : List T) : List (Nat × T) → Option (List T)
  | [] => some cells
  | (i, t) :: r => match place i, unT t with
    | some (off, size), some ts => if ts.length = size ∧ off + size ≤ cells.length then buildT place (putL cells off ts) r else none
    | _, _ => none

section
variable {fr : Fr} {st st' : St} {a : Act} {W W' : World} {ν ν' : Nat → Value} {F F' : Nat → List Nat} {o : Oper} {e : Eff} {L : Nat → Option TyI}
  {ok : Nat → Prop} {h : Nat → Option Blk}

theorem putL_rz {ts vs : List T} {us ws : List Value} {off : Nat} (h1 : Ts.rz fr W ok ν h ts us) (h2 : Ts.rz fr W ok ν h vs ws) : Ts.rz fr W ok ν h (putL ts off vs) (putL us off ws) := by
  unfold putL
  rw [← Ts.rz_length _ _ h2]
  exact Ts.rz_append _ _ _ _ (Ts.rz_append _ _ _ _ (Ts.rz_take off _ _ h1) h2) (Ts.rz_drop _ _ _ h1)

theorem build_rz (hr : Rel fr st a W ν F) {place : Nat → Option (Nat × Nat)} : ∀ (parts : List (Nat × Operand)) (cells out : List T) (us : List Value), Ts.rz fr W (okOf fr W st.h ν) ν st.h cells us → (∀ u ∈ us, u.oneCell' = true) →
    buildT place cells (parts.map fun p => (p.1, opd st.s p.2)) = some out →
    ∃ ws, Instr.fill place us.toArray (parts.map fun p => (p.1, a.eval p.2)) = some ws.toArray ∧ Ts.rz fr W (okOf fr W st.h ν) ν st.h out ws ∧ (∀ u ∈ ws, u.oneCell' = true) ∧ out.length = cells.length
  | [], cells, out, us, hc, h1, hb => by
    simp only [List.map_nil, buildT, Option.some.injEq] at hb
    subst hb
    exact ⟨us, rfl, hc, h1, rfl⟩
  | (i, x) :: parts, cells, out, us, hc, h1, hb => by
    simp only [List.map_cons, buildT] at hb
    split at hb
    · rename_i off size ts hp hu
      split at hb
      · rename_i hl
        obtain ⟨hx, h1x⟩ := unT_rz hr hu (hr.opd x)
        have hlx := Ts.rz_length _ _ hx
        have hlc := Ts.rz_length _ _ hc
        obtain ⟨ws, hf, hw, h1w, hlw⟩ := build_rz hr parts (putL cells off ts) out (putL us off (a.eval x).cells.toList) (putL_rz hc hx) (by
          intro u hu
          unfold putL at hu
          rcases List.mem_append.1 hu with hu | hu
          · rcases List.mem_append.1 hu with hu | hu
            · exact h1 u (List.mem_of_mem_take hu)
            · exact h1x u hu
          · exact h1 u (List.mem_of_mem_drop hu)) hb
        have hcs : (a.eval x).cells.size = size := by rw [← Array.length_toList]; omega
        refine ⟨ws, ?_, hw, h1w, by rw [hlw]; exact putL_length (by omega)⟩
        have hfc := fold_cells (a.eval x) off us.toArray (by simp; omega)
        have hno : (decide ((a.eval x).cells.size ≠ size) || decide (us.toArray.size < off + (a.eval x).cells.size)) = false := by
          simp [hcs]; omega
        simp only [List.map_cons, Instr.fill, hp, gt_iff_lt, hno, Bool.false_eq_true, if_false, hfc]
        exact hf
      · cases hb
    · cases hb

/-- A struct out of its fields. -/
def placesT (L : Nat → Option TyI) (fs : List (Nat × Nat)) : Nat → Option (Nat × Nat) := fun i => match fs[i]? with
  | some (off, t) => (L t).map fun j => (off, j.size)
  | none => none
theorem run_places {P : Program} (hL : LOk P L) (W : World) : ∀ (fa : List Field), (∀ f ∈ fa, (L f.type).isSome = true) → ∃ ps : List (Nat × Nat),
    (fa.mapM (m := Sem) fun f => do pure (f.offset, ← sizeOf f.type)).run P W = .ok ps W ∧ ps.map some = fa.map fun f => (L f.type).map fun j => (f.offset, j.size)
  | [], _ => ⟨[], rfl, rfl⟩
  | f :: fa, hf => by
    obtain ⟨ps, h1, h2⟩ := run_places hL W fa (fun g hg => hf g (by simp [hg]))
    have := hf f (by simp)
    cases hj : L f.type with
    | none => simp [hj] at this
    | some j =>
      refine ⟨(f.offset, j.size) :: ps, ?_, by simp [h2, hj]⟩
      rw [List.mapM_cons]
      simp only [Sem.run_bind, Sem.run_pure, (hL _ _ hj).size, Result.andThen_ok, h1]
theorem step_build {t : Nat} {parts : Array (Nat × Operand)} {i : TyI} {fs : List (Nat × Nat)} {out : List T} (ho : o.op = .build t parts) (hL : LOk fr.P L) (ht : TyOk fr.P t i) (hk : i.kind = .struct fs) (hfs : ∀ p ∈ fs, (L p.2).isSome = true)
    (h1 : ∀ u ∈ i.zv.cells.toList, u.oneCell' = true) (hb : buildT (placesT L fs) (i.zv.cells.toList.map constT) (parts.toList.map fun p => (p.1, opd st.s p.2)) = some out) (hd : ∀ d, o.dst = some d → d < fr.N) :
    StepO fr o st ⟨.agg out, [], []⟩ :=
  .of_value fun st' a W ν F e1 e2 hr => by
    have hops : (parts.toList.map fun p => (p.1, opd st'.s p.2)) = parts.toList.map fun p => (p.1, opd st.s p.2) :=
      List.map_congr_left fun p hp => by rw [e1 p.2 (by simp only [ho, Op.operands]; simpa using ⟨p.1, by simpa using hp⟩)]
    obtain ⟨fa, hu, hfa⟩ := ht.struct hk
    have hfs' : ∀ f ∈ fa.toList, (L f.type).isSome = true := fun f hf => hfs (f.offset, f.type) (by rw [← hfa]; exact List.mem_map.2 ⟨f, hf, rfl⟩)
    obtain ⟨ps, hps, hps2⟩ := run_places hL W fa.toList hfs'
    have hplace : (fun i => ps.toArray[i]?) = placesT L fs := by
      funext i
      have h3 := congrArg (fun l => l[i]?) hps2
      simp only [List.getElem?_map] at h3
      unfold placesT
      rw [← hfa, List.getElem?_map]
      cases hq : fa.toList[i]? with
      | none => rw [hq] at h3; simp at h3; simpa using h3
      | some f =>
        rw [hq] at h3
        simp only [Option.map_some] at h3 ⊢
        cases hp : ps[i]? with
        | none => rw [hp] at h3; simp at h3
        | some p => rw [hp] at h3; simp only [Option.map_some, Option.some.injEq] at h3; rw [← h3]; simpa using hp
    obtain ⟨ws, hf, hw, h1w, _⟩ := build_rz hr parts.toList (i.zv.cells.toList.map constT) out i.zv.cells.toList (zero_rz _) h1 (by rw [hops]; exact hb)
    refine ⟨.agg ws.toArray, W, ?_, hr.pure (by simp only [T.rz]; exact ⟨ws, rfl, h1w, hw⟩) hd⟩
    have hpa : (fa.mapM (m := Sem) fun f => do pure (f.offset, ← sizeOf f.type)).run fr.P W = .ok ps.toArray W := by
      rw [← Array.toArray_toList (xs := fa), List.mapM_toArray]
      simp only [Sem.run_bind, Sem.run_map, hps, Result.andThen_ok, Sem.run_pure]
    have hfl : Instr.fill (fun i => ps.toArray[i]?) i.zv.cells (parts.map fun p => (p.1, a.eval p.2)).toList = some ws.toArray := by
      rw [hplace]; simpa using hf
    simp only [execOp, ho, Instr.build, Sem.run_bind, ht.zero, Result.andThen_ok, run_underlying hu, hpa]
    simp only [hfl, Sem.run_pure, Sem.run_bind, Result.andThen_ok]
end
end Go.Vm

namespace Go.Vm
open Go Go.RowKit

def chunks (sz : Nat) : Nat → List C → List (List C)
  | 0, _ => []
  | n + 1, cs => cs.take sz :: chunks sz n (cs.drop sz)
theorem chunks_length (sz : Nat) : ∀ (n : Nat) (cs : List C), (chunks sz n cs).length = n
  | 0, _ => rfl
  | n + 1, cs => by simp [chunks, chunks_length sz n]

section
variable {fr : Fr} {st st' : St} {a : Act} {W W' : World} {ν ν' : Nat → Value} {F F' : Nat → List Nat} {o : Oper} {e : Eff} {L : Nat → Option TyI}
  {ok ok' : Nat → Prop} {h : Nat → Option Blk} {B : Nat}

theorem Cs.rz_split : ∀ (k : Nat) (cs : List C) (us : List Value) (fs : List Nat), Cs.rz W ok B cs us fs →
    ∃ f1 f2, fs = f1 ++ f2 ∧ Cs.rz W ok B (cs.take k) (us.take k) f1 ∧ Cs.rz W ok B (cs.drop k) (us.drop k) f2
  | 0, cs, us, fs, hc => ⟨[], fs, rfl, by simp [Cs.rz], hc⟩
  | k + 1, [], us, fs, hc => by simp only [Cs.rz] at hc; obtain ⟨rfl, rfl⟩ := hc; exact ⟨[], [], rfl, by simp [Cs.rz], by simp [Cs.rz]⟩
  | k + 1, c :: cs, us, fs, hc => by
    simp only [Cs.rz] at hc
    obtain ⟨u, us', f1, f2, rfl, rfl, h1, h2⟩ := hc
    obtain ⟨g1, g2, rfl, h3, h4⟩ := Cs.rz_split k cs us' f2 h2
    refine ⟨f1 ++ g1, g2, by simp, ?_, h4⟩
    simp only [List.take_succ_cons, Cs.rz]
    exact ⟨u, _, f1, g1, rfl, rfl, h1, h3⟩
theorem Es.of_Cs (sz : Nat) : ∀ (n : Nat) (cs : List C) (us : List Value) (fs : List Nat), cs.length = n * sz → Cs.rz W ok B cs us fs → Es.rz W ok B sz (chunks sz n cs) us fs
  | 0, cs, us, fs, hl, hc => by
    have : cs = [] := List.eq_nil_of_length_eq_zero (by simpa using hl)
    subst this
    simpa only [Cs.rz, chunks, Es.rz] using hc
  | n + 1, cs, us, fs, hl, hc => by
    rw [Nat.succ_mul] at hl
    obtain ⟨f1, f2, rfl, h1, h2⟩ := Cs.rz_split sz cs us fs hc
    simp only [chunks, Es.rz]
    exact ⟨us.take sz, us.drop sz, f1, f2, (List.take_append_drop sz us).symm, rfl, by rw [List.length_take]; omega, h1, Es.of_Cs sz n _ _ _ (by rw [List.length_drop]; omega) h2⟩
theorem absL_length {deep : Bool} : ∀ {ts : List T} {cts : List (Nat × Nat)} {cs : List C} {ks : List Nat}, absL h deep cts ts = some (cs, ks) → cs.length = ts.length
  | [], cts, cs, ks, ha => by simp [(absL_nil ha).1]
  | t :: ts, cts, cs, ks, ha => by
    obtain ⟨c, k, cs', ks', h1, h2, rfl, rfl⟩ := absL_cons ha
    simp [absL_length h2]

/-- A new row over cells that are given away. -/
theorem Rel.newRow (hr : Rel fr st a W ν F) {κ : Nat} (hκ : st.h κ = none) {d : Bool} {cts : List (Nat × Nat)} {ts : List T} {cs : List C} {ks : List Nat} {us : List Value} {ty sz n : Nat}
    (hts : Ts.rz fr W (okOf fr W st.h ν) ν st.h ts us) (ha : absL st.h d cts ts = some (cs, ks)) (hnd : ks.Nodup) (hl : ts.length = n * sz) (hm : n ≤ maxLen) {dst : Option Nat} {supp : List Nat} (hd : ∀ d, dst = some d → d < fr.N) :
    RelE fr (app st dst ⟨.ref κ, supp, (κ, .arr d ty sz (chunks sz n cs)) :: deads ks⟩) (a.put dst (.slice (some ⟨W.heap.size, 0, none⟩) n n)) (W.alloc (.cells us.toArray ty)) := by
  have hks := absL_keys ha
  have hlc := absL_length ha
  have hlu := Ts.rz_length _ _ hts
  have hκks : κ ∉ ks := fun hk => by have := hks κ hk; simp [hκ] at this
  have hsz : W.heap.size < (W.alloc (.cells us.toArray ty)).heap.size := by simp
  have hblk : ∀ b, b < W.heap.size → (W.alloc (.cells us.toArray ty)).heap[b]? = W.heap[b]? := fun b hb => heap_alloc_old W _ b hb
  have hown : (W.alloc (.cells us.toArray ty)).ownsRow fr.B ty sz (.slice (some ⟨W.heap.size, 0, none⟩) n n) (chunks sz n cs).length us := by
    rw [chunks_length]
    exact ⟨by omega, .inr ⟨W.heap.size, n, us.toArray, rfl, Nat.zero_le _, heap_alloc_new W _, Nat.le_refl _, hm, by simp only [List.size_toArray]; omega, by
      rw [show us.toArray.toList = us from rfl, List.take_of_length_le (by omega)]⟩⟩
  cases d with
  | true =>
    have h1 := absL_deep hr ha hts
    have h2 := Cs.rz_move (W' := W.alloc (.cells us.toArray ty)) (ok' := fun _ => False) (fun b hb => hb.elim) (Nat.le_refl _) cs us _ (fun b hb => hblk b (by
      obtain ⟨k, hk, hb⟩ := List.mem_flatMap.1 hb; exact (hr.ownK_lt hb).2)) h1
    refine hr.setArr (fs := ks.flatMap (ownK ν F st.h)) (xs := us) hκks hks (by simp [hκ]) (Chg.alloc W _) (by simp) (fun b hb => .inl ?_) (fun b hb => .inr ?_) (hr.ownKs_nodup hnd) (fun b hb => ?_) hown
      (by simpa using Es.of_Cs sz n cs us _ (by omega) h2) (.inl ⟨rfl, rfl⟩) hd
    · simp [Value.ownBlock] at hb; omega
    · obtain ⟨k, hk, hb⟩ := List.mem_flatMap.1 hb
      exact ⟨k, .inr hk, mem_ownK hb⟩
    · obtain ⟨k, hk, hb⟩ := List.mem_flatMap.1 hb
      have := (hr.ownK_lt hb).2
      simp [Value.ownBlock]; omega
  | false =>
    have h1 := absL_flat hr ha hts
    refine hr.setArr (fs := []) (xs := us) hκks hks (by simp [hκ]) (Chg.alloc W _) (by simp) (fun b hb => .inl ?_) (by simp) (by simp) (by simp) hown ?_ (.inl ⟨rfl, rfl⟩) hd
    · simp [Value.ownBlock] at hb; omega
    · simp only [Bool.false_eq_true, if_false, and_true]
      refine Es.of_Cs sz n cs us _ (by omega) (Cs.rz_move (fun b hb => ?_) (Nat.le_refl _) cs us [] (by simp) h1)
      rcases hb with hb | ⟨k, hk, hb⟩
      · exact ⟨⟨by have := hb.2.1; simp [Value.ownBlock]; omega, by have := hb.2.1; omega, .inl hb⟩, hblk b hb.2.1⟩
      · have h3 := (hr.ownK_lt hb).2
        exact ⟨⟨by simp [Value.ownBlock]; omega, by omega, .inr (.inr ⟨k, .inr hk, mem_ownK hb⟩)⟩, hblk b h3⟩

theorem absC_agree {deep : Bool} {ct : Nat × Nat} {t : T} (hk : ∀ κ, κ ∈ keysT t → st'.h κ = st.h κ) : absC st'.h deep ct t = absC st.h deep ct t := by
  cases t with
  | ref κ => have := hk κ (by simp [keysT]); simp only [absC, this]
  | c x => cases x with
    | sl tag sz es => cases tag <;> rfl
    | _ => rfl
  | ca x => cases x with
    | sl tag sz es => cases tag <;> rfl
    | _ => rfl
  | _ => rfl
theorem absL_agree {deep : Bool} : ∀ {ts : List T} {cts : List (Nat × Nat)}, (∀ κ, κ ∈ ts.flatMap keysT → st'.h κ = st.h κ) → absL st'.h deep cts ts = absL st.h deep cts ts
  | [], cts, _ => rfl
  | t :: ts, cts, hk => by
    simp only [absL]
    rw [absC_agree fun κ hκ => hk κ (by simp [hκ]), absL_agree fun κ hκ => hk κ (by simp [hκ])]

def placesR (size : Nat) : Nat → Option (Nat × Nat) := fun i => some (i * size, size)
theorem step_buildSlice {t el len κ : Nat} {parts : Array (Nat × Operand)} {i j : TyI} {ts : List T} {d : Bool} {cs : List C} {ks : List Nat} (ho : o.op = .buildSlice t len parts) (ht : TyOk fr.P t i) (hk : i.kind = .slice el) (hj : TyOk fr.P el j)
    (hz : j.zv.cells.size = j.size) (h1 : ∀ u ∈ j.zv.cells.toList, u.oneCell' = true) (hle : len * j.size ≤ 16777216) (hs0 : 0 < j.size) (hκ : st.h κ = none)
    (hb : buildT (placesR j.size) ((List.replicate len (j.zv.cells.toList.map constT)).flatten) (parts.toList.map fun p => (p.1, opd st.s p.2)) = some ts)
    (ha : absL st.h d ((List.replicate len j.cts).flatten) ts = some (cs, ks)) (hnd : ks.Nodup) (hd : ∀ d, o.dst = some d → d < fr.N) :
    StepO fr o st ⟨.ref κ, ts.flatMap keysT, (κ, .arr d el j.size (chunks j.size len cs)) :: deads ks⟩ :=
  .of_value fun st' a W ν F e1 e2 hr => by
    have hops : (parts.toList.map fun p => (p.1, opd st'.s p.2)) = parts.toList.map fun p => (p.1, opd st.s p.2) :=
      List.map_congr_left fun p hp => by rw [e1 p.2 (by simp only [ho, Op.operands]; simpa using ⟨p.1, by simpa using hp⟩)]
    have hκ' : st'.h κ = none := by rw [e2 κ (.inr (by simp [lk]))]; exact hκ
    have ha' : absL st'.h d ((List.replicate len j.cts).flatten) ts = some (cs, ks) := by rw [absL_agree fun k hk => e2 k (.inl hk)]; exact ha
    have hu := ht.slice hk
    have hz1 : ∀ n, (List.replicate n j.zv.cells.toList).flatten.length = n * j.size := by
      intro n; induction n with
      | zero => simp
      | succ n ih => rw [List.replicate_succ, List.flatten_cons, List.length_append, ih, Array.length_toList, hz, Nat.succ_mul]; omega
    have hzr : ∀ n, Ts.rz fr W (okOf fr W st'.h ν) ν st'.h ((List.replicate n (j.zv.cells.toList.map constT)).flatten) ((List.replicate n j.zv.cells.toList).flatten) := by
      intro n; induction n with
      | zero => simp [Ts.rz]
      | succ n ih => rw [List.replicate_succ, List.replicate_succ, List.flatten_cons, List.flatten_cons]; exact Ts.rz_append _ _ _ _ (zero_rz _) ih
    obtain ⟨ws, hf, hw, h1w, hlw⟩ := build_rz hr parts.toList _ ts _ (hzr len) (by
      intro u hu
      obtain ⟨l, hl, hu⟩ := List.mem_flatten.1 hu
      rw [List.eq_of_mem_replicate hl] at hu; exact h1 u hu) (by rw [hops]; exact hb)
    have hlt : ts.length = len * j.size := by rw [hlw]; have := Ts.rz_length _ _ (hzr len); rw [hz1] at this; omega
    have hlm : len ≤ maxLen := by
      have := Nat.le_mul_of_pos_right len hs0
      simp only [maxLen]; omega
    have hzero : ((Array.range (len * j.size)).map (j.zv.cells[· % j.zv.cells.size]!)) = ((List.replicate len j.zv.cells.toList).flatten).toArray := by
      apply Array.ext'
      apply List.ext_getElem
      · simp [hz]
      · intro q hq1 hq2
        simp at hq1
        have : 0 < j.zv.cells.size := by omega
        simp only [Array.toList_map, Array.toList_range, List.getElem_map, List.getElem_range]
        have hm : q % j.zv.cells.size < j.zv.cells.size := Nat.mod_lt _ this
        rw [getElem!_pos j.zv.cells _ hm]
        have key : ∀ n q, q < n * j.size → ((List.replicate n j.zv.cells.toList).flatten)[q]? = j.zv.cells.toList[q % j.size]? := by
          intro n
          induction n with
          | zero => intro q hq; simp at hq
          | succ n ih =>
            intro q hq
            rw [List.replicate_succ, List.flatten_cons]
            by_cases hlt : q < j.size
            · rw [List.getElem?_append_left (by simpa [hz] using hlt), Nat.mod_eq_of_lt hlt]
            · rw [List.getElem?_append_right (by simp [hz]; omega)]
              simp only [Array.length_toList, hz]
              rw [ih (q - j.size) (by rw [Nat.succ_mul] at hq; omega)]
              congr 1
              rw [← Nat.mod_eq_sub_mod (by omega)]
        have h3 := key len q hq1
        rw [List.getElem?_eq_getElem hq2] at h3
        rw [← hz] at h3
        rw [List.getElem?_eq_getElem (by simpa using hm)] at h3
        simp only [Option.some.injEq] at h3
        rw [h3]; simp
    refine ⟨.slice (some ⟨W.heap.size, 0, none⟩) len len, W.alloc (.cells ws.toArray el), ?_, ?_⟩
    · have hgt : ¬ (len * j.size > 2 ^ 24) := by omega
      have hfl : Instr.fill (fun i => some (i * j.size, j.size)) ((List.replicate len j.zv.cells.toList).flatten).toArray (parts.map fun p => (p.1, a.eval p.2)).toList = some ws.toArray := by
        show Instr.fill (placesR j.size) _ _ = _
        simpa using hf
      by_cases h0 : len * j.size = 0
      · have hlen : len = 0 := by rcases Nat.mul_eq_zero.1 h0 with h | h <;> omega
        subst hlen
        have hfl0 : Instr.fill (fun i => some (i * j.size, j.size)) #[] (parts.map fun p => (p.1, a.eval p.2)).toList = some ws.toArray := by simpa using hfl
        simp only [execOp, ho, Instr.buildSlice, Sem.run_bind, run_underlying hu, Result.andThen_ok, hj.size, Sem.run_ite, hgt, if_false, h0, if_true, Sem.run_pure]
        have he : (Array.range 0).map (fun x => (#[] : Array Value)[x % (#[] : Array Value).size]!) = #[] := by simp
        rw [he]
        simp only [hfl0]
        simp [newRow]
      · simp only [execOp, ho, Instr.buildSlice, Sem.run_bind, run_underlying hu, Result.andThen_ok, hj.size, Sem.run_ite, hgt, if_false, h0, hj.zero, Sem.run_pure]
        rw [hzero]
        simp only [hfl]
        simp [newRow]
    · exact hr.newRow hκ' hw ha' hnd hlt hlm hd
end
end Go.Vm

namespace Go.Vm
open Go Go.RowKit

/-- No slices in it. -/
def C.scal : C → Bool
  | .sl .. => false
  | _ => true
def Es.scal (es : List (List C)) : Prop := ∀ e ∈ es, ∀ c ∈ e, C.scal c = true

section
variable {fr : Fr} {st st' : St} {a : Act} {W W' : World} {ν ν' : Nat → Value} {F F' : Nat → List Nat} {o : Oper} {e : Eff} {L : Nat → Option TyI}
  {ok ok' : Nat → Prop} {h : Nat → Option Blk} {B B' : Nat}

theorem Cs.rz_scal : ∀ (cs : List C) (us : List Value) (fs : List Nat), (∀ c ∈ cs, C.scal c = true) → Cs.rz W ok B cs us fs → fs = [] ∧ Cs.rz W' ok' B' cs us []
  | [], us, fs, _, hr => by simp only [Cs.rz] at hr ⊢; exact ⟨hr.2, hr.1, trivial⟩
  | c :: cs, us, fs, hs, hr => by
    simp only [Cs.rz] at hr ⊢
    obtain ⟨u, us', f1, f2, rfl, rfl, h1, h2⟩ := hr
    obtain ⟨rfl, h3⟩ := Cs.rz_scal cs us' f2 (fun c hc => hs c (by simp [hc])) h2
    have hc := hs c (by simp)
    cases c with
    | sl => simp [C.scal] at hc
    | int k n => simp only [C.rz] at h1 ⊢; obtain ⟨rfl, rfl⟩ := h1; exact ⟨rfl, _, us', [], [], rfl, rfl, ⟨rfl, rfl⟩, h3⟩
    | bool b => simp only [C.rz] at h1 ⊢; obtain ⟨rfl, rfl⟩ := h1; exact ⟨rfl, _, us', [], [], rfl, rfl, ⟨rfl, rfl⟩, h3⟩
    | val x => simp only [C.rz] at h1 ⊢; obtain ⟨⟨rfl, h4⟩, rfl⟩ := h1; exact ⟨rfl, _, us', [], [], rfl, rfl, ⟨⟨rfl, h4⟩, rfl⟩, h3⟩
theorem Es.rz_scal {sz : Nat} : ∀ (es : List (List C)) (us : List Value) (fs : List Nat), Es.scal es → Es.rz W ok B sz es us fs → fs = [] ∧ Es.rz W' ok' B' sz es us []
  | [], us, fs, _, hr => by simp only [Es.rz] at hr ⊢; exact ⟨hr.2, hr.1, trivial⟩
  | e :: es, us, fs, hs, hr => by
    simp only [Es.rz] at hr ⊢
    obtain ⟨x1, x2, f1, f2, rfl, rfl, hl, h1, h2⟩ := hr
    obtain ⟨rfl, h3⟩ := Cs.rz_scal (W' := W') (ok' := ok') (B' := B') e x1 f1 (hs e (by simp)) h1
    obtain ⟨rfl, h4⟩ := Es.rz_scal es x2 f2 (fun e he => hs e (by simp [he])) h2
    exact ⟨rfl, x1, x2, [], [], rfl, rfl, hl, h3, h4⟩

theorem step_makeFunc {f : Nat} {cap : Array Operand} (ho : o.op = .makeFunc (.func f) #[] cap) (hd : ∀ d, o.dst = some d → d < fr.N) : StepO fr o st ⟨.clo f (cap.toList.map (opd st.s)), [], []⟩ :=
  .of_value fun st' a W ν F e1 e2 hr => by
    have hm : cap.toList.map (Vm.opd st'.s) = cap.toList.map (Vm.opd st.s) := List.map_congr_left fun x hx => e1 x (by simpa [ho, Op.operands] using hx)
    refine ⟨.func (.func f) #[] (cap.map a.eval), W, by simp [execOp, ho, Instr.makeFunc], hr.pure ?_ hd⟩
    simp only [T.rz]
    refine ⟨cap.toList.map a.eval, by congr 1; apply Array.ext'; simp, ?_⟩
    rw [← hm]
    have : ∀ l : List Operand, Ts.rz fr W (okOf fr W st'.h ν) ν st'.h (l.map (Vm.opd st'.s)) (l.map a.eval) := by
      intro l; induction l with
      | nil => simp [Ts.rz]
      | cons x l ih => simp only [List.map_cons, Ts.rz]; exact ⟨_, _, rfl, hr.opd x, ih⟩
    exact this _

theorem step_field {t f off ft : Nat} {x : Operand} {i j : TyI} {fs : List (Nat × Nat)} {xs : List T} (ho : o.op = .field t x f) (hx : opd st.s x = .agg xs) (ht : TyOk fr.P t i) (hk : i.kind = .struct fs)
    (hf : fs[f]? = some (off, ft)) (hj : TyOk fr.P ft j) (hja : j.kind ≠ .array) (h1s : j.kind.agg = false → j.size = 1) (hs : off + j.size ≤ xs.length) (hd : ∀ d, o.dst = some d → d < fr.N) :
    StepO fr o st ⟨packT j ((xs.drop off).take j.size), [], []⟩ :=
  .of_value fun st' a W ν F e1 e2 hr => by
    have ex := e1 x (by simp [ho, Op.operands])
    have hv := hr.opd x
    rw [ex, hx] at hv
    simp only [T.rz] at hv
    obtain ⟨us, hv, h1, hts⟩ := hv
    obtain ⟨fa, hu, hfa⟩ := ht.struct hk
    have hf' : ∃ fl, fa[f]? = some fl ∧ fl.offset = off ∧ fl.type = ft := by
      rw [← hfa, List.getElem?_map] at hf
      cases hq : fa.toList[f]? with
      | none => simp [hq] at hf
      | some fl => simp only [hq, Option.map_some, Option.some.injEq, Prod.mk.injEq] at hf; exact ⟨fl, by simpa using hq, hf⟩
    obtain ⟨fl, hfl, rfl, rfl⟩ := hf'
    have hl := Ts.rz_length _ _ hts
    refine ⟨pack j ((us.drop fl.offset).take j.size), W, ?_, hr.pure (packT_rz (fun u hu => h1 u (List.mem_of_mem_drop (List.mem_of_mem_take hu))) (Ts.rz_take _ _ _ (Ts.rz_drop _ _ _ hts))) hd⟩
    unfold pack
    cases ha : j.kind.agg with
    | true =>
      simp [execOp, ho, Instr.field, hv, run_underlying hu, hfl, asAgg, part, hj.agg hja, ha, hj.size]
    | false =>
      have h1s' := h1s ha
      have hlt : fl.offset < us.length := by omega
      have e2 : (us.drop fl.offset).take j.size = [us[fl.offset]] := by
        rw [h1s', List.drop_eq_getElem_cons hlt]; rfl
      simp [execOp, ho, Instr.field, hv, run_underlying hu, hfl, asAgg, part, hj.agg hja, ha, e2, hlt]

theorem step_extract {x : Operand} {n : Nat} {xs : List T} {t : T} (ho : o.op = .extract x n) (hx : opd st.s x = .tup xs) (ht : xs[n]? = some t) (hd : ∀ d, o.dst = some d → d < fr.N) : StepO fr o st ⟨t, [], []⟩ :=
  .of_value fun st' a W ν F e1 e2 hr => by
    have ex := e1 x (by simp [ho, Op.operands])
    have hv := hr.opd x
    rw [ex, hx] at hv
    simp only [T.rz] at hv
    obtain ⟨us, hv, hts⟩ := hv
    have key : ∀ (n : Nat) (xs : List T) (us : List Value), Ts.rz fr W (okOf fr W st'.h ν) ν st'.h xs us → xs[n]? = some t → ∃ u, us[n]? = some u ∧ T.rz fr W (okOf fr W st'.h ν) ν st'.h t u := by
      intro n
      induction n with
      | zero => intro xs us h1 h2; cases xs with
        | nil => simp at h2
        | cons y ys => simp only [Ts.rz] at h1; obtain ⟨u, us', rfl, h3, h4⟩ := h1; simp at h2; subst h2; exact ⟨u, rfl, h3⟩
      | succ n ih => intro xs us h1 h2; cases xs with
        | nil => simp at h2
        | cons y ys => simp only [Ts.rz] at h1; obtain ⟨u, us', rfl, h3, h4⟩ := h1; exact ih ys us' h4 (by simpa using h2)
    obtain ⟨u, hu, hr'⟩ := key n xs us hts ht
    exact ⟨u, W, by simp [execOp, ho, Instr.extract, hv, hu], hr.pure hr' hd⟩

theorem step_indexOpn {t el κ : Nat} {x y : Operand} {ty sz : Nat} {pre post : List (List C)} {mid : List T} {k : IntKind} {n : Int} {i j : TyI} (ho : o.op = .indexAddr t x y) (hx : opd st.s x = .ref κ) (hb : st.h κ = some (.opn ty sz pre mid post)) (hy : opd st.s y = .c (.int k n))
    (ht : TyOk fr.P t i) (hk : i.kind = .slice el) (hj : TyOk fr.P el j) (hsz : j.size = sz) (h0 : 0 ≤ n) (hn : n < pre.length + 1 + post.length) (hd : ∀ d, o.dst = some d → d < fr.N) : StepO fr o st ⟨.ep κ sz n.toNat 0, [κ], []⟩ :=
  .of_value fun st' a W ν F e1 e2 hr => by
    have ex := e1 x (by simp [ho, Op.operands])
    have ey := e1 y (by simp [ho, Op.operands])
    have hv := hr.opd x
    rw [ex, hx] at hv
    have vy := rz_int (by rw [← hy, ← ey]; exact hr.opd y)
    have hb' : st'.h κ = some (.opn ty sz pre mid post) := by rw [e2 κ (.inl (by simp))]; exact hb
    simp only [T.rz] at hv
    have hblk := hr.heap κ _ hb'
    simp only [Blk.rz] at hblk
    obtain ⟨xs, ms, ys, f1, f2, h1, _⟩ := hblk
    obtain ⟨A, c, hνκ, hc, hm, hs, hor⟩ := ownsRow_maxLen h1
    rcases hor with h00 | ⟨g, rfl, hg⟩
    · omega
    · have hu := ht.slice hk
      refine ⟨.pointer (some ⟨g, n.toNat * sz, none⟩), W, ?_, hr.pure ?_ hd⟩
      · have : 0 ≤ n ∧ n < ((pre.length + 1 + post.length : Nat) : Int) := ⟨h0, by omega⟩
        have h3 : n < (pre.length : Int) + 1 + (post.length : Int) := by omega
        simp [execOp, ho, hv.1, hνκ, vy, Instr.indexAt, run_underlying hu, asIntOf, this, hj.size, add_plain, hsz, h0, h3]
      · simp only [T.rz]
        exact ⟨hv.2, g, _, c, hνκ, by simp⟩
/-- The address of an element of a row of one's own. -/
theorem step_indexRef {t el κ : Nat} {x y : Operand} {d : Bool} {ty sz : Nat} {es : List (List C)} {k : IntKind} {n : Int} {i j : TyI} (ho : o.op = .indexAddr t x y) (hx : opd st.s x = .ref κ) (hb : st.h κ = some (.arr d ty sz es)) (hy : opd st.s y = .c (.int k n))
    (ht : TyOk fr.P t i) (hk : i.kind = .slice el) (hj : TyOk fr.P el j) (hsz : j.size = sz) (h0 : 0 ≤ n) (hn : n < es.length) (hd : ∀ d, o.dst = some d → d < fr.N) : StepO fr o st ⟨.ep κ sz n.toNat 0, [κ], []⟩ :=
  .of_value fun st' a W ν F e1 e2 hr => by
    have ex := e1 x (by simp [ho, Op.operands])
    have ey := e1 y (by simp [ho, Op.operands])
    have hv := hr.opd x
    rw [ex, hx] at hv
    have vy := rz_int (by rw [← hy, ← ey]; exact hr.opd y)
    have hb' : st'.h κ = some (.arr d ty sz es) := by rw [e2 κ (.inl (by simp))]; exact hb
    simp only [T.rz] at hv
    obtain ⟨xs, h1, h2, h3⟩ := hr.arr_own hb'
    obtain ⟨A, c, hνκ, hc, hm, hs, hor⟩ := ownsRow_maxLen h1
    rcases hor with h00 | ⟨g, rfl, hg⟩
    · omega
    · have hu := ht.slice hk
      refine ⟨.pointer (some ⟨g, n.toNat * sz, none⟩), W, ?_, hr.pure ?_ hd⟩
      · have : 0 ≤ n ∧ n < (es.length : Int) := ⟨h0, hn⟩
        simp [execOp, ho, hv.1, hνκ, vy, Instr.indexAt, run_underlying hu, asIntOf, this, hj.size, add_plain, hsz]
      · simp only [T.rz]
        exact ⟨hv.2, g, es.length, c, hνκ, by simp⟩
theorem step_indexFro {t el κ : Nat} {x y : Operand} {sz : Nat} {es : List (List C)} {k : IntKind} {n : Int} {e : List C} {i j : TyI} (ho : o.op = .indexAddr t x y) (hx : opd st.s x = .ref κ) (hb : st.h κ = some (.fro sz es)) (hy : opd st.s y = .c (.int k n))
    (ht : TyOk fr.P t i) (hk : i.kind = .slice el) (hj : TyOk fr.P el j) (hsz : j.size = sz) (h0 : 0 ≤ n) (he : es[n.toNat]? = some e) (hd : ∀ d, o.dst = some d → d < fr.N) : StepO fr o st ⟨.pv e, [κ], []⟩ :=
  .of_value fun st' a W ν F e1 e2 hr => by
    have ex := e1 x (by simp [ho, Op.operands])
    have ey := e1 y (by simp [ho, Op.operands])
    have hv0 := hr.opd x
    rw [ex, hx] at hv0
    have vy := rz_int (by rw [← hy, ← ey]; exact hr.opd y)
    have hb' : st'.h κ = some (.fro sz es) := by rw [e2 κ (.inl (by simp))]; exact hb
    simp only [T.rz] at hv0
    have hblk := hr.heap κ _ hb'
    simp only [Blk.rz, C.rz] at hblk
    obtain ⟨_, _, A, c, xs, hv, hc, hm, hs, hcell, hes⟩ := hblk
    rw [← hv0.1] at hv
    have hne : es ≠ [] := by rintro rfl; simp at he
    have hlt : n.toNat < es.length := (List.getElem?_eq_some_iff.1 he).1
    obtain ⟨b, p, rfl, hbk, hx'⟩ := hcell hne
    obtain ⟨ys, gs, hy', hl, hgs, hi⟩ := Es.rz_get es xs [] n.toNat e hes he
    have hgs' : gs = [] := by cases gs with | nil => rfl | cons g _ => exact absurd (hgs g (by simp)) (by simp)
    subst hgs'
    subst hsz
    have hu := ht.slice hk
    refine ⟨.pointer (some ⟨b, p + n.toNat * j.size, none⟩), W, ?_, hr.pure ?_ hd⟩
    · have : 0 ≤ n ∧ n < (es.length : Int) := by omega
      simp [execOp, ho, hv, vy, Instr.indexAt, run_underlying hu, asIntOf, this, hj.size, add_plain]
    · simp only [T.rz]
      exact ⟨b, p + n.toNat * j.size, ys, rfl, hbk, hy', fun q u hu => by rw [Nat.add_assoc]; exact hx' _ u (hi q u hu)⟩

/-! ### cutting -/
def bndT (d : Int) : Option T → Option Int
  | none => some d
  | some (.c (.int _ n)) => some n
  | _ => none
theorem run_bound {P : Program} {k : IntKind} {n : Int} {y : Nat} {code : BoundsCode} (h0 : 0 ≤ n) (h1 : n ≤ y) : (Instr.sliceBound (.int k n) y code).run P W = .ok n.toNat W := by
  have : 0 ≤ n ∧ n ≤ (y : Int) := ⟨h0, h1⟩
  simp [Instr.sliceBound, asIntOf, this]
theorem run_sliceAt {P : Program} {t el : Nat} {i j : TyI} (ht : TyOk P t i) (hk : i.kind = .slice el) (hj : TyOk P el j) {A : Option Addr} {n c : Nat} (hn : n ≤ c) {lo hi : Option Value} {l r : Int}
    (hlo : (lo = none ∧ l = 0) ∨ ∃ k, lo = some (.int k l)) (hhi : (hi = none ∧ r = n) ∨ ∃ k, hi = some (.int k r)) (h0 : 0 ≤ l) (h1 : l ≤ r) (h2 : r ≤ n) :
    (Instr.sliceAt t (.slice A n c) lo hi none).run P W = .ok (.slice (if c = l.toNat then A else A.map (·.add (l.toNat * j.size))) (r.toNat - l.toNat) (c - l.toNat)) W := by
  have hu := ht.slice hk
  have hh : (match hi with
    | some v => Instr.sliceBound v c .sliceAcap
    | none => (pure n : Sem Nat)).run P W = .ok r.toNat W := by
    rcases hhi with ⟨rfl, rfl⟩ | ⟨k, rfl⟩
    · simp
    · exact run_bound (by omega) (by omega)
  have hl : (match lo with
    | some v => Instr.sliceBound v r.toNat .sliceB
    | none => (pure 0 : Sem Nat)).run P W = .ok l.toNat W := by
    rcases hlo with ⟨rfl, rfl⟩ | ⟨k, rfl⟩
    · simp
    · exact run_bound h0 (by omega)
  rcases hlo with ⟨rfl, rfl⟩ | ⟨k, rfl⟩ <;> rcases hhi with ⟨rfl, rfl⟩ | ⟨k', rfl⟩ <;>
    simp only [Instr.sliceAt, Sem.run_bind, run_underlying hu, Result.andThen_ok, Instr.slice, Instr.sliceBounds, Sem.run_pure, hh, hl, hj.size, if_true, Option.isSome_none, Bool.false_eq_true, if_false] <;> simp_all [Sem.run_bind, hj.size]
theorem C.rz_cut {sz : Nat} {es : List (List C)} {A : Option Addr} {n c : Nat} {l r : Nat} (hv : C.rz W ok 0 (.sl none sz es) (.slice A n c) []) (h1 : l ≤ r) (h2 : r ≤ es.length) :
    n = es.length ∧ n ≤ c ∧ C.rz W ok 0 (.sl none sz ((es.drop l).take (r - l))) (.slice (if c = l then A else A.map (·.add (l * sz))) (r - l) (c - l)) [] := by
  simp only [C.rz] at hv
  obtain ⟨_, A', c', xs, he, hc, hm, hs, hcell, hes⟩ := hv
  simp only [Value.slice.injEq] at he
  obtain ⟨rfl, rfl, rfl⟩ := he
  refine ⟨rfl, hc, ?_⟩
  have hlen : ((es.drop l).take (r - l)).length = r - l := by rw [List.length_take, List.length_drop]; omega
  simp only [C.rz]
  rw [hlen]
  refine ⟨trivial, _, _, (xs.drop (l * sz)).take ((r - l) * sz), rfl, by omega, by omega, ⟨?_, ?_⟩, ?_, Es.rz_take _ _ _ (Es.rz_drop l es xs hes)⟩
  · intro hA
    have : A = none := by split at hA; exact hA; simpa using hA
    have := hs.1 this; omega
  · trivial
  · intro hne
    have hlr : l < r := by
      rcases Nat.lt_or_ge l r with h | h
      · exact h
      · exfalso; apply hne
        rw [show r - l = 0 by omega]; rfl
    obtain ⟨b, p, rfl, hb, hx⟩ := hcell (by rintro rfl; simp at h2; omega)
    refine ⟨b, p + l * sz, ?_, hb, fun i u hu => ?_⟩
    · rw [if_neg (by omega)]; simp [add_plain]
    · rw [List.getElem?_take] at hu
      split at hu
      · rw [List.getElem?_drop] at hu
        rw [Nat.add_assoc]; exact hx _ u hu
      · cases hu

theorem step_slice {t el : Nat} {x : Operand} {lo hi : Option Operand} {sz : Nat} {es : List (List C)} {l r : Int} {i j : TyI} (ho : o.op = .slice t x lo hi none) (hx : opd st.s x = .c (.sl none sz es)) (ht : TyOk fr.P t i) (hk : i.kind = .slice el)
    (hj : TyOk fr.P el j) (hsz : j.size = sz) (hl : bndT 0 (lo.map (opd st.s)) = some l) (hr' : bndT es.length (hi.map (opd st.s)) = some r) (h0 : 0 ≤ l) (h1 : l ≤ r) (h2 : r ≤ es.length) (hd : ∀ d, o.dst = some d → d < fr.N) :
    StepO fr o st ⟨.c (.sl none sz ((es.drop l.toNat).take (r.toNat - l.toNat))), [], []⟩ :=
  .of_value fun st' a W ν F e1 e2 hr => by
    have ex := e1 x (by simp [ho, Op.operands])
    have hv := hr.opd x
    rw [ex, hx] at hv
    simp only [T.rz] at hv
    obtain ⟨A, c, hA⟩ := lenT_rz (t := .c (.sl none sz es)) hr (n := es.length) rfl (by simp only [T.rz]; exact hv)
    rw [hA] at hv
    obtain ⟨hn, hc, hcut⟩ := C.rz_cut (l := l.toNat) (r := r.toNat) hv (by omega) (by omega)
    have hb : ∀ (d : Int) (q : Option Operand) (n : Int), (∀ y, q = some y → y ∈ o.op.operands.toList) → bndT d (q.map (opd st.s)) = some n → (q.map a.eval = none ∧ n = d) ∨ ∃ k, q.map a.eval = some (.int k n) := by
      intro d q n hq hb
      cases q with
      | none => simp [bndT] at hb; exact .inl ⟨rfl, hb.symm⟩
      | some y =>
        have ey := e1 y (hq y rfl)
        simp only [Option.map_some] at hb
        cases hy : opd st.s y with
        | c z =>
          cases z with
          | int k m =>
            rw [hy] at hb; simp only [bndT, Option.some.injEq] at hb; subst hb
            exact .inr ⟨k, by simp [rz_int (by rw [← hy, ← ey]; exact hr.opd y)]⟩
          | _ => rw [hy] at hb; simp [bndT] at hb
        | _ => rw [hy] at hb; simp [bndT] at hb
    have hlo := hb 0 lo l (by intro y hy; subst hy; simp [ho, Op.operands]) hl
    have hhi := hb es.length hi r (by intro y hy; subst hy; simp [ho, Op.operands]) hr'
    have hrun := run_sliceAt (W := W) (A := A) ht hk hj hc hlo hhi h0 h1 h2
    refine ⟨_, W, ?_, hr.pure (by simp only [T.rz]; rw [hsz] at hrun; exact hcut) hd⟩
    simp only [execOp, ho, hA, Option.map_none, Sem.run_bind, hrun, Result.andThen_ok, Sem.run_pure, hsz]
end
end Go.Vm

namespace Go.Vm
open Go Go.RowKit

section
variable {fr : Fr} {st st' : St} {a : Act} {W W' : World} {ν ν' : Nat → Value} {F F' : Nat → List Nat} {o : Oper} {e : Eff} {L : Nat → Option TyI}
  {ok ok' : Nat → Prop} {h : Nat → Option Blk} {B B' : Nat}

def flat (d : Bool) (es : List (List C)) : List (List C) := if d then Es.strip es else es
theorem flat_length (d : Bool) (es : List (List C)) : (flat d es).length = es.length := by cases d <;> simp [flat, Es.strip_length]

theorem bnd_rz (hr : Rel fr st' a W ν F) (e1 : ∀ x, x ∈ o.op.operands.toList → opd st'.s x = opd st.s x) {d : Int} {q : Option Operand} {n : Int} (hq : ∀ y, q = some y → y ∈ o.op.operands.toList)
    (hb : bndT d (q.map (opd st.s)) = some n) : (q.map a.eval = none ∧ n = d) ∨ ∃ k, q.map a.eval = some (.int k n) := by
  cases q with
  | none => simp [bndT] at hb; exact .inl ⟨rfl, hb.symm⟩
  | some y =>
    have ey := e1 y (hq y rfl)
    simp only [Option.map_some] at hb
    cases hy : opd st.s y with
    | c z =>
      cases z with
      | int k m =>
        rw [hy] at hb; simp only [bndT, Option.some.injEq] at hb; subst hb
        exact .inr ⟨k, by simp [rz_int (by rw [← hy, ← ey]; exact hr.opd y)]⟩
      | _ => rw [hy] at hb; simp [bndT] at hb
    | _ => rw [hy] at hb; simp [bndT] at hb

/-- A row is given up for reading: nobody writes it any more. -/
theorem Rel.freeze (hr : Rel fr st a W ν F) {κ : Nat} {d : Bool} {ty sz : Nat} {es : List (List C)} (hb : st.h κ = some (.arr d ty sz es)) {dst : Option Nat} {t : T} {v : Value} {supp : List Nat}
    (ht : ∀ ok : Nat → Prop, (∀ b, okOf fr W st.h ν b → ok b) → C.rz W ok 0 (.sl none sz (flat d es)) (ν κ) [] → T.rz fr W ok ν (mrg st.h [(κ, .fro sz (flat d es))]) t v) (hd : ∀ d, dst = some d → d < fr.N) :
    RelE fr (app st dst ⟨t, supp, [(κ, .fro sz (flat d es))]⟩) (a.put dst v) W := by
  let M : List (Nat × Blk) := [(κ, .fro sz (flat d es))]
  let F' : Nat → List Nat := fun k => if k = κ then [] else F k
  obtain ⟨xs, h1, h2, h3⟩ := hr.arr_own hb
  have hM : ∀ k, (lk k M).isSome = true ↔ k = κ := fun k => lk_one
  have topκ : topOf (mrg st.h M) ν κ = none := by rw [topOf_mrg_one]; rfl
  have hFκ : F' κ = [] := if_pos rfl
  have hok : ∀ b, (okOf fr W st.h ν b ∨ b ∈ ownK ν F st.h κ) → okOf fr W (mrg st.h M) ν b := by
    intro b hb'
    have h4 : (fr.ok0 b ∨ fr.New b) ∧ b < W.heap.size := by
      rcases hb' with hb' | hb'
      · exact ⟨hb'.1, hb'.2.1⟩
      · exact ⟨.inr (hr.ownK_lt hb').1, (hr.ownK_lt hb').2⟩
    refine ⟨h4.1, h4.2, fun k hk => ?_⟩
    by_cases hkκ : k = κ
    · subst hkκ; rw [topκ] at hk; cases hk
    · have : topOf st.h ν k = some b := by simpa [topOf, mrg, M, lk, hkκ] using hk
      rcases hb' with hb' | hb'
      · exact hb'.2.2 k this
      · exact hr.ownK_apart (Ne.symm hkκ) hb' (by simp [ownK, this])
  have hc : C.rz W (okOf fr W (mrg st.h M) ν) 0 (.sl none sz (flat d es)) (ν κ) [] := by
    refine C.rz_share (e := ty) (B := fr.B) (xs := xs) (by rw [flat_length]; exact h1) ?_ (fun b hb => hok b (.inr (by simp [ownK, h3, hb])))
    cases d with
    | true =>
      simp only [if_true] at h2
      exact Es.rz_strip sz es xs (F κ) (fun b hb => hok b (.inr (by simp [ownK, hb]))) (Es.rz_move (fun b hb => hb.elim) (Nat.le_refl _) sz es xs (F κ) (fun _ _ => rfl) h2)
    | false =>
      simp only [Bool.false_eq_true, if_false] at h2
      exact Es.rz_base _ _ _ (Es.rz_move (fun b hb => ⟨hok b (.inl hb), rfl⟩) (Nat.le_refl _) sz es xs [] (by simp) h2.1)
  refine ⟨ν, F', hr.step (M := M) (X := []) (Chg.refl W) (by simp) (fun _ _ => rfl) ?_ ?_ ?_ ?_ ?_ ?_ ?_ ?_ (ht _ (fun b hb => hok b (.inl hb)) hc) hd⟩
  · intro k hk
    have : k ≠ κ := by rintro rfl; simp [M, lk] at hk
    exact if_neg this
  · intro k b hk hb'; rw [hM] at hk; subst hk; rw [topκ] at hb'; cases hb'
  · intro k b hk hb'; rw [hM] at hk; subst hk; rw [hFκ] at hb'; cases hb'
  · intro k k' b hne hk hk'; rw [hM] at hk hk'; exact absurd (hk.trans hk'.symm) hne
  · intro k k' b hk hk' hb'; rw [hM] at hk; subst hk; rw [hFκ] at hb'; cases hb'
  · intro k hk; rw [hM] at hk; subst hk; rw [hFκ]; exact List.nodup_nil
  · intro k k' b hne hk hk'; rw [hM] at hk hk'; exact absurd (hk.trans hk'.symm) hne
  · intro k blk hk
    have : k = κ := (hM k).1 (by rw [hk]; rfl)
    subst this
    simp only [M, lk, if_true, Option.some.injEq] at hk
    subst hk
    simp only [Blk.rz]
    exact ⟨hFκ, hc⟩

theorem step_sliceRef {t el κ : Nat} {x : Operand} {lo hi : Option Operand} {d : Bool} {ty sz : Nat} {es : List (List C)} {l r : Int} {i j : TyI} (ho : o.op = .slice t x lo hi none) (hx : opd st.s x = .ref κ) (hb : st.h κ = some (.arr d ty sz es)) (ht : TyOk fr.P t i)
    (hk : i.kind = .slice el) (hj : TyOk fr.P el j) (hsz : j.size = sz) (hl : bndT 0 (lo.map (opd st.s)) = some l) (hr' : bndT es.length (hi.map (opd st.s)) = some r) (h0 : 0 ≤ l) (h1 : l ≤ r) (h2 : r ≤ es.length) (hd : ∀ d, o.dst = some d → d < fr.N) :
    StepO fr o st ⟨.c (.sl none sz (((flat d es).drop l.toNat).take (r.toNat - l.toNat))), [], [(κ, .fro sz (flat d es))]⟩ :=
  .of_value fun st' a W ν F e1 e2 hr => by
    have ex := e1 x (by simp [ho, Op.operands])
    have hv := hr.opd x
    rw [ex, hx] at hv
    simp only [T.rz] at hv
    have hb' : st'.h κ = some (.arr d ty sz es) := by rw [e2 κ (.inr (by simp [lk]))]; exact hb
    obtain ⟨xs, g1, g2, g3⟩ := hr.arr_own hb'
    obtain ⟨A, c, hνκ, hc, hm, hs, hor⟩ := ownsRow_maxLen g1
    have hlo := bnd_rz hr e1 (q := lo) (by intro y hy; subst hy; simp [ho, Op.operands]) hl
    have hhi := bnd_rz hr e1 (q := hi) (by intro y hy; subst hy; simp [ho, Op.operands]) hr'
    have hrun := run_sliceAt (W := W) (A := A) ht hk hj hc hlo hhi h0 h1 h2
    rw [hsz] at hrun
    have hrun2 : (execOp a.eval o).run fr.P W = .ok (.value (.slice (if c = l.toNat then A else A.map (·.add (l.toNat * sz))) (r.toNat - l.toNat) (c - l.toNat))) W := by
      simp only [execOp, ho, hv.1, hνκ, Option.map_none, Sem.run_bind, hrun, Result.andThen_ok, Sem.run_pure]
    refine ⟨_, W, hrun2, hr.freeze hb' (fun ok' hok' hcz => ?_) hd⟩
    rw [hνκ] at hcz
    simp only [T.rz]
    exact (C.rz_cut (l := l.toNat) (r := r.toNat) hcz (by omega) (by rw [flat_length]; omega)).2.2
theorem step_sliceFro {t el κ : Nat} {x : Operand} {lo hi : Option Operand} {sz : Nat} {es : List (List C)} {l r : Int} {i j : TyI} (ho : o.op = .slice t x lo hi none) (hx : opd st.s x = .ref κ) (hb : st.h κ = some (.fro sz es)) (ht : TyOk fr.P t i)
    (hk : i.kind = .slice el) (hj : TyOk fr.P el j) (hsz : j.size = sz) (hl : bndT 0 (lo.map (opd st.s)) = some l) (hr' : bndT es.length (hi.map (opd st.s)) = some r) (h0 : 0 ≤ l) (h1 : l ≤ r) (h2 : r ≤ es.length) (hd : ∀ d, o.dst = some d → d < fr.N) :
    StepO fr o st ⟨.c (.sl none sz ((es.drop l.toNat).take (r.toNat - l.toNat))), [κ], []⟩ :=
  .of_value fun st' a W ν F e1 e2 hr => by
    have ex := e1 x (by simp [ho, Op.operands])
    have hv := hr.opd x
    rw [ex, hx] at hv
    simp only [T.rz] at hv
    have hb' : st'.h κ = some (.fro sz es) := by rw [e2 κ (.inl (by simp))]; exact hb
    have hblk := hr.heap κ _ hb'
    simp only [Blk.rz] at hblk
    have hcz := hblk.2
    obtain ⟨A, c, hA⟩ : ∃ A c, ν κ = .slice A es.length c := by simp only [C.rz] at hcz; obtain ⟨_, A, c, xs, h, _⟩ := hcz; exact ⟨A, c, h⟩
    rw [hA] at hcz
    obtain ⟨hn, hc, hcut⟩ := C.rz_cut (l := l.toNat) (r := r.toNat) hcz (by omega) (by omega)
    have hlo := bnd_rz hr e1 (q := lo) (by intro y hy; subst hy; simp [ho, Op.operands]) hl
    have hhi := bnd_rz hr e1 (q := hi) (by intro y hy; subst hy; simp [ho, Op.operands]) hr'
    have hrun := run_sliceAt (W := W) (A := A) ht hk hj hc hlo hhi h0 h1 h2
    rw [hsz] at hrun
    refine ⟨_, W, ?_, hr.pure (by simp only [T.rz]; exact hcut) hd⟩
    simp only [execOp, ho, hv.1, hA, Option.map_none, Sem.run_bind, hrun, Result.andThen_ok, Sem.run_pure]
theorem step_sliceNil {t el : Nat} {x : Operand} {lo hi : Option Operand} {l r : Int} {i j : TyI} (ho : o.op = .slice t x lo hi none) (hx : opd st.s x = .nilS) (ht : TyOk fr.P t i)
    (hk : i.kind = .slice el) (hj : TyOk fr.P el j) (hl : bndT 0 (lo.map (opd st.s)) = some l) (hr' : bndT 0 (hi.map (opd st.s)) = some r) (h0 : 0 ≤ l) (h1 : l ≤ r) (h2 : r ≤ 0) (hd : ∀ d, o.dst = some d → d < fr.N) :
    StepO fr o st ⟨.nilS, [], []⟩ :=
  .of_value fun st' a W ν F e1 e2 hr => by
    have ex := e1 x (by simp [ho, Op.operands])
    have hv := hr.opd x
    rw [ex, hx] at hv
    simp only [T.rz] at hv
    have hlo := bnd_rz hr e1 (q := lo) (by intro y hy; subst hy; simp [ho, Op.operands]) hl
    have hhi := bnd_rz hr e1 (q := hi) (by intro y hy; subst hy; simp [ho, Op.operands]) hr'
    have hrun := run_sliceAt (W := W) (A := none) (n := 0) (c := 0) (lo := lo.map a.eval) (hi := hi.map a.eval) ht hk hj (Nat.le_refl _) hlo (by simpa only [Int.ofNat_zero] using hhi) h0 h1 (by simpa using h2)
    have el0 : l.toNat = 0 := by omega
    have er0 : r.toNat = 0 := by omega
    rw [el0, er0] at hrun
    refine ⟨.slice none 0 0, W, ?_, hr.pure (by simp [T.rz]) hd⟩
    simp only [execOp, ho, hv, Option.map_none, Sem.run_bind, hrun, Result.andThen_ok, Sem.run_pure]
    simp

/-! ### append -/
/-- Where what is appended comes from: all owned?, the elements, the key that is given away. -/
def srcT (h : Nat → Option Blk) (scal : Bool) : T → Option (Bool × Option Nat × List (List C) × List Nat)
  | .nilS => some (true, none, [], [])
  | .c (.sl none sz es) => some (scal, some sz, es, [])
  | .nn sz es => some (scal, some sz, es, [])
  | .ref κ => match h κ with
    | some (.arr d _ sz es) => some (d, some sz, es, [κ])
    | some (.fro sz es) => some (scal, some sz, es, [])
    | _ => none
  | _ => none
/-- What is appended to. -/
def dstT (h : Nat → Option Blk) : T → Option (Bool × Option (Nat × Nat) × List (List C) × List Nat)
  | .nilS => some (true, none, [], [])
  | .ref κ => match h κ with
    | some (.arr d ty sz es) => some (d, some (ty, sz), es, [κ])
    | _ => none
  | _ => none
def joinE (d d' : Bool) (es es' : List (List C)) : List (List C) := if d && d' then es ++ es' else flat d es ++ flat d' es'

theorem dst_rz (hr : Rel fr st a W ν F) {t : T} {d : Bool} {ts : Option (Nat × Nat)} {es : List (List C)} {ks : List Nat} {v : Value} (hd : dstT st.h t = some (d, ts, es, ks)) (hv : T.rz fr W (okOf fr W st.h ν) ν st.h t v) {ty sz : Nat}
    (hts : ∀ p, ts = some p → p = (ty, sz)) :
    ∃ xs, W.ownsRow fr.B ty sz v es.length xs ∧ (if d then Es.rz W (fun _ => False) fr.B sz es xs (ks.flatMap F) else Es.rz W (okOf fr W st.h ν) fr.B sz es xs [] ∧ ks.flatMap F = []) ∧
      (∀ b, v.ownBlock = some b → ∃ k ∈ ks, topOf st.h ν k = some b) ∧ (∀ k ∈ ks, (st.h k).isSome = true) ∧ ks.length ≤ 1 ∧ (∀ k ∈ ks, topOf st.h ν k = v.ownBlock) := by
  unfold dstT at hd
  split at hd
  · simp only [Option.some.injEq, Prod.mk.injEq] at hd
    obtain ⟨rfl, rfl, rfl, rfl⟩ := hd
    simp only [T.rz] at hv; subst hv
    exact ⟨[], World.ownsRow_nil _ _ _ _, by simp [Es.rz], by simp [Value.ownBlock], by simp, by simp, by simp⟩
  · rename_i κ
    split at hd
    · rename_i d' ty' sz' es' hk
      simp only [Option.some.injEq, Prod.mk.injEq] at hd
      obtain ⟨rfl, rfl, rfl, rfl⟩ := hd
      have := hts _ rfl
      simp only [Prod.mk.injEq] at this
      obtain ⟨rfl, rfl⟩ := this
      obtain ⟨xs, h1, h2, h3⟩ := hr.arr_own hk
      simp only [T.rz] at hv
      rw [hv.1]
      exact ⟨xs, h1, by simpa using h2, fun b hb => ⟨κ, by simp, by rw [h3]; exact hb⟩, by simp [hk], by simp, by simp [h3]⟩
    · cases hd
  · cases hd
theorem src_rz (hr : Rel fr st a W ν F) {t : T} {scal d : Bool} {z : Option Nat} {es : List (List C)} {ks : List Nat} {v : Value} (hs : srcT st.h scal t = some (d, z, es, ks)) (hv : T.rz fr W (okOf fr W st.h ν) ν st.h t v) {sz : Nat}
    (hz : ∀ p, z = some p → p = sz) (hsc : scal = true → ks = [] → Es.scal es) :
    ∃ A c xs, v = .slice A es.length c ∧ (A = none → c = 0) ∧ True ∧ (es ≠ [] → ∃ b o, A = some ⟨b, o, none⟩ ∧ ∀ i u, xs[i]? = some u → W.cell? ⟨b, o + i, none⟩ = some u) ∧
      (if d then Es.rz W (fun _ => False) fr.B sz es xs (ks.flatMap F) else Es.rz W (okOf fr W st.h ν) fr.B sz es xs [] ∧ ks.flatMap F = []) ∧ (∀ k ∈ ks, (st.h k).isSome = true) ∧ ks.length ≤ 1 := by
  have view : ∀ (sz : Nat) (es : List (List C)), C.rz W (okOf fr W st.h ν) 0 (.sl none sz es) v [] → (scal = true → Es.scal es) →
      ∃ A c xs, v = .slice A es.length c ∧ (A = none → c = 0) ∧ True ∧ (es ≠ [] → ∃ b o, A = some ⟨b, o, none⟩ ∧ ∀ i u, xs[i]? = some u → W.cell? ⟨b, o + i, none⟩ = some u) ∧
      (if scal then Es.rz W (fun _ => False) fr.B sz es xs (([] : List Nat).flatMap F) else Es.rz W (okOf fr W st.h ν) fr.B sz es xs [] ∧ ([] : List Nat).flatMap F = []) := by
    intro sz es hc hsc
    simp only [C.rz] at hc
    obtain ⟨_, A, c, xs, hv, hc, hm, hs, hcell, hes⟩ := hc
    refine ⟨A, c, xs, hv, hs.1, hs.2, fun hne => ?_, ?_⟩
    · obtain ⟨b, o, hA, _, hx⟩ := hcell hne; exact ⟨b, o, hA, hx⟩
    · cases scal with
      | true => simpa using (Es.rz_scal es xs [] (hsc rfl) hes).2
      | false => simpa using Es.rz_base sz es xs hes
  unfold srcT at hs
  split at hs
  · simp only [Option.some.injEq, Prod.mk.injEq] at hs
    obtain ⟨rfl, rfl, rfl, rfl⟩ := hs
    simp only [T.rz] at hv; subst hv
    exact ⟨none, 0, [], rfl, by simp, by simp, by simp, by simp [Es.rz], by simp, by simp⟩
  · rename_i sz' es'
    simp only [Option.some.injEq, Prod.mk.injEq] at hs
    obtain ⟨rfl, rfl, rfl, rfl⟩ := hs
    have := hz _ rfl
    subst this
    simp only [T.rz] at hv
    obtain ⟨A, c, xs, h1, h2, h3, h4, h5⟩ := view sz' es' hv (fun h => hsc h rfl)
    exact ⟨A, c, xs, h1, h2, h3, h4, h5, by simp, by simp⟩
  · rename_i sz' es'
    simp only [Option.some.injEq, Prod.mk.injEq] at hs
    obtain ⟨rfl, rfl, rfl, rfl⟩ := hs
    have := hz _ rfl
    subst this
    simp only [T.rz] at hv
    obtain ⟨A, c, xs, h1, h2, h3, h4, h5⟩ := view sz' es' hv.1 (fun h => hsc h rfl)
    exact ⟨A, c, xs, h1, h2, h3, h4, h5, by simp, by simp⟩
  · rename_i κ
    split at hs
    · rename_i d' ty' sz' es' hk
      simp only [Option.some.injEq, Prod.mk.injEq] at hs
      obtain ⟨rfl, rfl, rfl, rfl⟩ := hs
      have := hz _ rfl
      subst this
      obtain ⟨xs, h1, h2, h3⟩ := hr.arr_own hk
      simp only [T.rz] at hv
      rw [hv.1]
      obtain ⟨A, c, hA, hc, hm, hs, hor⟩ := ownsRow_maxLen h1
      refine ⟨A, c, xs, hA, hs.1, hs.2, fun hne => ?_, by simpa using h2, by simp [hk], by simp⟩
      rcases hor with h0 | ⟨g, hg1, hg2⟩
      · exact absurd (List.eq_nil_of_length_eq_zero h0) hne
      · refine ⟨g, 0, hg1, fun i u hu => ?_⟩
        have := h1.cells hg2 i u hu
        rwa [add_plain] at this
    · rename_i sz' es' hk
      simp only [Option.some.injEq, Prod.mk.injEq] at hs
      obtain ⟨rfl, rfl, rfl, rfl⟩ := hs
      have := hz _ rfl
      subst this
      have hblk := hr.heap κ _ hk
      simp only [Blk.rz] at hblk
      simp only [T.rz] at hv
      rw [← hv.1] at hblk
      obtain ⟨A, c, xs, h1, h2, h3, h4, h5⟩ := view sz' es' hblk.2 (fun h => hsc h rfl)
      exact ⟨A, c, xs, h1, h2, h3, h4, h5, by simp, by simp⟩
    · cases hs
  · cases hs
end
end Go.Vm

namespace Go.Vm
open Go Go.RowKit

theorem viewStore_drawn {P : Program} {w w' : World} {a k : Addr} {u : TypeId} {v : Value} {at_ : Bool} {l : List Addr} (h : w.viewStore P a u k v at_ = .ok (w', l)) : w'.drawn = w.drawn := by
  unfold World.viewStore at h
  simp only [bind, Except.bind, pure, Except.pure, throw, throwThe, MonadExceptOf.throw] at h
  repeat' split at h
  all_goals first
    | (simp only [Except.ok.injEq, Prod.mk.injEq] at h; rw [← h.1]; done)
    | (simp at h; done)
theorem farStore_drawn {P : Program} {w w' : World} {a : Addr} {v : Value} {at_ : Bool} {l : List Addr} (h : w.farStore P a v at_ = .ok (w', l)) : w'.drawn = w.drawn := by
  unfold World.farStore at h
  split at h
  · split at h
    · rename_i h1; simp only [Except.ok.injEq] at h; subst h; exact viewStore_drawn h1
    · cases h
  · cases h
theorem ask_drawn {α : Type} : ∀ (s : Ask α) (w : World), w.drawn ≤ (w.ask s).2.drawn
  | .done a, w => Nat.le_refl _
  | .ask what range k, w => by
    simp only [World.ask]
    split
    · exact ask_drawn _ _
    · exact Nat.le_trans (Nat.le_succ w.drawn) (ask_drawn _ { w with drawn := w.drawn + 1 })
theorem sys_drawn (w : World) (c : Sys) : w.drawn ≤ (w.sys c).2.drawn := by
  unfold World.sys
  have := ask_drawn (Kernel.perform c w.os) w
  split
  · exact Nat.le_refl _
  · rename_i h; rw [h] at this; exact this
theorem run_drawn {P : Program} {α : Type} {s : Sem α} {w w' : World} {x : α} (h : s.run P w = .ok x w') : w.drawn ≤ w'.drawn := by
  induction s generalizing w x w' with
  | pure a => simp only [Sem.run, Result.ok.injEq] at h; rw [h.2]; exact Nat.le_refl _
  | load m a k ih =>
    simp only [Sem.run] at h
    split at h
    · (have := ih _ h; exact this)
    · split at h
      · (have := ih _ h; exact this)
      · cases h
  | store m a v k ih =>
    cases v
    case agg => simp [Sem.run] at h
    case tuple => simp [Sem.run] at h
    all_goals
      simp only [Sem.run] at h
      split at h
      · split at h
        · cases h
        · have := ih h; exact this
      · split at h
        · rename_i h1; have := ih h; rw [farStore_drawn h1] at this; exact this
        · cases h
  | new o k ih => simp only [Sem.run] at h; (have := ih _ h; exact this)
  | shape r k ih => simp only [Sem.run] at h; (have := ih _ h; exact this)
  | freeze a n k ih => simp only [Sem.run] at h; have := ih h; unfold World.freeze at this; split at this <;> exact this
  | frozen a k ih => simp only [Sem.run] at h; (have := ih _ h; exact this)
  | getObj r k ih =>
    simp only [Sem.run] at h
    split at h
    · cases h
    · (have := ih _ h; exact this)
    · cases h
  | setObj r o k ih =>
    simp only [Sem.run] at h
    split at h
    · cases h
    · (have := ih h; exact this)
    · cases h
  | choose q k ih =>
    simp only [Sem.run] at h
    split at h
    · (have := ih _ h; exact this)
    · have := ih _ h; exact Nat.le_trans (Nat.le_succ w.drawn) this
  | sys c k ih => simp only [Sem.run] at h; exact Nat.le_trans (sys_drawn w c) (ih _ h)
  | program k ih => simp only [Sem.run] at h; (have := ih _ h; exact this)
  | mark m k ih => simp only [Sem.run] at h; (have := ih h; exact this)
  | halt h' => simp [Sem.run] at h

section
variable {fr : Fr} {st st' : St} {a : Act} {W W' : World} {ν ν' : Nat → Value} {F F' : Nat → List Nat} {o : Oper} {e : Eff} {L : Nat → Option TyI}
  {ok ok' ok2 : Nat → Prop} {h : Nat → Option Blk} {B B' : Nat}

theorem flat_rz {d : Bool} {sz : Nat} {es : List (List C)} {xs : List Value} {fs : List Nat} (hes : if d then Es.rz W (fun _ => False) B sz es xs fs else Es.rz W ok B sz es xs [] ∧ fs = [])
    (hok : ∀ b, ok b → ok2 b ∧ W'.heap[b]? = W.heap[b]?) (hfs : ∀ b ∈ fs, ok2 b ∧ W'.heap[b]? = W.heap[b]?) : Es.rz W' ok2 B sz (flat d es) xs [] := by
  cases d with
  | true =>
    simp only [if_true] at hes
    exact Es.rz_strip sz es xs fs (fun b hb => (hfs b hb).1) (Es.rz_move (fun b hb => hb.elim) (Nat.le_refl _) sz es xs fs (fun b hb => (hfs b hb).2) hes)
  | false =>
    simp only [Bool.false_eq_true, if_false] at hes
    exact Es.rz_move hok (Nat.le_refl _) sz es xs [] (by simp) hes.1

theorem joinE_length (d d' : Bool) (es es' : List (List C)) : (joinE d d' es es').length = es.length + es'.length := by
  unfold joinE; split <;> simp [flat_length]

theorem run_append_any {P : Program} {t ty el : Nat} {i j : TyI} {B : Nat} (ht : TyOk P t i) (hk : i.kind = .slice el) (hj : TyOk P el j) (hz : j.zv.cells.size = j.size) (hs0 : 0 < j.size) {v : Value} {n : Nat} {xs : List Value} (hown : W.ownsRow B el j.size v n xs)
    {A : Option Addr} {m c : Nat} {news : List Value} (hA : A = none → c = 0) (hsp : True) (hne : 0 < m → ∃ b o, A = some ⟨b, o, none⟩ ∧ ∀ i u, news[i]? = some u → W.cell? ⟨b, o + i, none⟩ = some u)
    (hl : news.length = m * j.size) (h1 : ∀ u ∈ news, u.oneCell' = true) (hb : (n + m) * j.bytes ≤ 140737488355328) (hb0 : 0 < j.bytes) (hB : B ≤ W.heap.size) :
    ∃ v' W', (Builtin.append_ #[t, t] ty #[v, .slice A m c]).run P W = .ok v' W' ∧ W'.ownsRow B el j.size v' (n + m) (xs ++ news) ∧ W.grownBy W' v.ownBlock ∧ (v'.ownBlock = v.ownBlock ∨ v'.ownBlock = some W.heap.size) := by
  obtain ⟨x, hx, hx1, hx2, hx3⟩ := hj.info'
  have hu := ht.slice hk
  have hm : n + m ≤ maxLen := by
    have := Nat.le_mul_of_pos_right (n + m) hb0
    simp only [maxLen]; omega
  cases A with
  | none =>
    have hm0 : m = 0 := by
      rcases Nat.eq_zero_or_pos m with h | h
      · exact h
      · obtain ⟨b, o, h2, _⟩ := hne h; cases h2
    subst hm0
    have hc0 := hA rfl
    subst hc0
    have hn0 : news = [] := List.eq_nil_of_length_eq_zero (by simpa using hl)
    subst hn0
    refine ⟨v, W, run_append_owned_none (P := P) (w := W) B t ty el x j.size hu hx v n xs hown, by simpa using hown, ⟨rfl, rfl, rfl, Nat.le_refl _, fun _ _ _ => rfl⟩, .inl rfl⟩
  | some ad =>
    have hnews : ∀ q u, news[q]? = some u → W.cell? (ad.add q) = some u := by
      intro q u hq
      have hmp : 0 < m := by
        rcases Nat.eq_zero_or_pos m with h | h
        · subst h
          have : news = [] := List.eq_nil_of_length_eq_zero (by simpa using hl)
          subst this; simp at hq
        · exact h
      obtain ⟨b, o, h2, h3⟩ := hne hmp
      simp only [Option.some.injEq] at h2
      subst h2
      rw [add_plain]; exact h3 q u hq
    obtain ⟨v', W', g1, g2, g3, _, g4⟩ := run_append_own_at (P := P) W B t ty el x j.zv j.size j.bytes hu hx hx3 hx1 hx2 hz hs0 v n xs hown ad m c news hl hnews h1 hm hb hB
    exact ⟨v', W', g1, g2, g3, g4⟩

theorem step_append {t el κ : Nat} {x y : Operand} {i j : TyI} {d d' scal : Bool} {ts : Option (Nat × Nat)} {z : Option Nat} {es es' : List (List C)} {ks ks' : List Nat}
    (ho : o.op = .call { callee := .builtin .append, args := #[x, y], argTypes := #[t, t] }) (hx : dstT st.h (opd st.s x) = some (d, ts, es, ks)) (hy : srcT st.h scal (opd st.s y) = some (d', z, es', ks'))
    (ht : TyOk fr.P t i) (hk : i.kind = .slice el) (hj : TyOk fr.P el j) (hz : j.zv.cells.size = j.size) (hs0 : 0 < j.size) (hts : ∀ p, ts = some p → p = (el, j.size)) (hzz : ∀ p, z = some p → p = j.size)
    (hsc : scal = true → ks' = [] → Es.scal es') (hb : (es.length + es'.length) * j.bytes ≤ 140737488355328) (hb0 : 0 < j.bytes) (hκ : st.h κ = none) (hnd : (ks ++ ks').Nodup) (hd : ∀ d, o.dst = some d → d < fr.N) :
    StepO fr o st ⟨.ref κ, keysT (opd st.s x) ++ keysT (opd st.s y), (κ, .arr (d && d') el j.size (joinE d d' es es')) :: deads (ks ++ ks')⟩ :=
  .of_value fun st' a W ν F e1 e2 hr => by
    have ex := e1 x (by simp [ho, Op.operands, Call.operands])
    have ey := e1 y (by simp [ho, Op.operands, Call.operands])
    have hκ' : st'.h κ = none := by rw [e2 κ (.inr (by simp [lk]))]; exact hκ
    have hx' : dstT st'.h (opd st.s x) = some (d, ts, es, ks) := by
      rw [← hx]
      cases hq : opd st.s x with
      | ref k => have := e2 k (.inl (by simp [hq, keysT])); simp only [dstT, this]
      | _ => rfl
    have hy' : srcT st'.h scal (opd st.s y) = some (d', z, es', ks') := by
      rw [← hy]
      cases hq : opd st.s y with
      | ref k => have := e2 k (.inl (by simp [hq, keysT])); simp only [srcT, this]
      | c x => cases x with
        | sl tag sz es => cases tag <;> rfl
        | _ => rfl
      | _ => rfl
    have vx := hr.opd x
    have vy := hr.opd y
    rw [ex] at vx
    rw [ey] at vy
    obtain ⟨xs, g1, g2, g3, g4, g5, g6⟩ := dst_rz hr hx' vx hts
    obtain ⟨A, c, xs', p1, p2, p3, p4, p5, p6, p7⟩ := src_rz hr hy' vy hzz hsc
    have hxs' : xs'.length = es'.length * j.size ∧ ∀ u ∈ xs', u.oneCell' = true := by
      cases d' with
      | true => simp only [if_true] at p5; exact ⟨Es.rz_length _ _ _ p5, Es.rz_one _ _ _ p5⟩
      | false => simp only [Bool.false_eq_true, if_false] at p5; exact ⟨Es.rz_length _ _ _ p5.1, Es.rz_one _ _ _ p5.1⟩
    obtain ⟨v', W', r1, r2, r3, r4⟩ := run_append_any (ty := o.type) ht hk hj hz hs0 g1 p2 p3 (fun hm => p4 (by rintro rfl; simp at hm)) hxs'.1 hxs'.2 hb hb0 (Nat.zero_le _)
    refine ⟨v', W', ?_, ?_⟩
    · simp only [execOp, ho, resolve, invoke, builtin, Sem.run_bind, Sem.run_pure, Result.andThen_ok, List.map_toArray, List.map_cons, List.map_nil, p1, r1]
    have hC : Chg W W' (a.eval x).ownBlock.toList := ⟨r3.os, r3.tape, r3.output, r3.size, run_drawn r1, fun b hb hbx => r3.block b hb (fun e => hbx (by simp [← e]))⟩
    have hkk : ∀ k ∈ ks ++ ks', (st'.h k).isSome = true := fun k hk => by
      rcases List.mem_append.1 hk with hk | hk
      · exact g4 k hk
      · exact p6 k hk
    have hκks : κ ∉ ks ++ ks' := fun hk => by have := hkk κ hk; simp [hκ'] at this
    have same : ∀ b, b < W.heap.size → (∀ k ∈ ks, topOf st'.h ν k ≠ some b) → W'.heap[b]? = W.heap[b]? := fun b hb hbk =>
      hC.block b hb (fun hm => by
        have hm' : (a.eval x).ownBlock = some b := by simpa using hm
        obtain ⟨k, hk1, hk2⟩ := g3 b hm'
        exact hbk k hk1 hk2)
    have vtop : ∀ b, v'.ownBlock = some b → W.heap.size ≤ b ∨ ∃ k ∈ ks, topOf st'.h ν k = some b := fun b hb => by
      rcases r4 with r4 | r4
      · exact .inr (g3 b (by rw [← r4]; exact hb))
      · rw [r4] at hb; simp at hb; exact .inl (by omega)
    have Fok : ∀ b, b ∈ (ks ++ ks').flatMap F → v'.ownBlock ≠ some b ∧ b < W.heap.size ∧ W'.heap[b]? = W.heap[b]? := fun b hb => by
      obtain ⟨k, hk1, hk2⟩ := List.mem_flatMap.1 hb
      have hlt := (hr.F_lt hk2).2
      refine ⟨fun hv => ?_, hlt, same b hlt fun k' _ ht => hr.d2 k k' b hk2 ht⟩
      rcases vtop b hv with h | ⟨k', _, ht⟩
      · omega
      · exact hr.d2 k k' b hk2 ht
    have hFnd : ((ks ++ ks').flatMap F).Nodup := by
      have := hr.ownKs_nodup hnd
      have sub : ∀ l : List Nat, (l.flatMap F).Sublist (l.flatMap (ownK ν F st'.h)) := by
        intro l; induction l with
        | nil => simp
        | cons k l ih => rw [List.flatMap_cons, List.flatMap_cons]; exact List.Sublist.append (List.sublist_append_right _ _) ih
      exact (sub _).nodup this
    cases hdd : d && d' with
    | true =>
      simp only [Bool.and_eq_true] at hdd
      obtain ⟨rfl, rfl⟩ := hdd
      simp only [if_true] at g2 p5
      refine hr.setArr (fs := (ks ++ ks').flatMap F) (xs := xs ++ xs') hκks hkk (by simp [hκ']) hC (fun b hb => ?_) (fun b hb => ?_) (fun b hb => ?_) hFnd (fun b hb => (Fok b hb).1) (by rw [joinE_length]; exact r2) ?_ (.inl ⟨rfl, rfl⟩) hd
      · obtain ⟨k, hk1, hk2⟩ := g3 b (by simpa using hb); exact ⟨k, .inr (by simp [hk1]), hk2⟩
      · rcases vtop b hb with h | ⟨k, hk1, hk2⟩
        · exact .inl h
        · exact .inr ⟨k, .inr (by simp [hk1]), hk2⟩
      · obtain ⟨k, hk1, hk2⟩ := List.mem_flatMap.1 hb; exact .inr ⟨k, .inr hk1, .inr hk2⟩
      · simp only [if_true, joinE, Bool.and_self]
        rw [List.flatMap_append]
        exact Es.rz_append _ _ _ _ _ _ (Es.rz_move (fun b hb => hb.elim) (Nat.le_refl _) _ _ _ _ (fun b hb => (Fok b (by simp only [List.flatMap_append]; exact List.mem_append_left _ hb)).2.2) g2)
          (Es.rz_move (fun b hb => hb.elim) (Nat.le_refl _) _ _ _ _ (fun b hb => (Fok b (by simp only [List.flatMap_append]; exact List.mem_append_right _ hb)).2.2) p5)
    | false =>
      have okk : ∀ b, okOf fr W st'.h ν b → (v'.ownBlock ≠ some b ∧ b < W'.heap.size ∧ (okOf fr W st'.h ν b ∨ W.heap.size ≤ b ∨ ∃ k, (k = κ ∨ k ∈ ks ++ ks') ∧ (topOf st'.h ν k = some b ∨ b ∈ F k))) ∧ W'.heap[b]? = W.heap[b]? := by
        intro b hb
        refine ⟨⟨fun hv => ?_, Nat.lt_of_lt_of_le hb.2.1 r3.size, .inl hb⟩, same b hb.2.1 fun k _ => hb.2.2 k⟩
        rcases vtop b hv with h | ⟨k, _, hk⟩
        · have := hb.2.1; omega
        · exact hb.2.2 k hk
      have fsk : ∀ (l : List Nat), (∀ k ∈ l, k ∈ ks ++ ks') → ∀ b ∈ l.flatMap F, (v'.ownBlock ≠ some b ∧ b < W'.heap.size ∧ (okOf fr W st'.h ν b ∨ W.heap.size ≤ b ∨ ∃ k, (k = κ ∨ k ∈ ks ++ ks') ∧ (topOf st'.h ν k = some b ∨ b ∈ F k))) ∧ W'.heap[b]? = W.heap[b]? := by
        intro l hl b hb
        obtain ⟨k, hk1, hk2⟩ := List.mem_flatMap.1 hb
        obtain ⟨q1, q2, q3⟩ := Fok b (List.mem_flatMap.2 ⟨k, hl k hk1, hk2⟩)
        exact ⟨⟨q1, Nat.lt_of_lt_of_le q2 r3.size, .inr (.inr ⟨k, .inr (hl k hk1), .inr hk2⟩)⟩, q3⟩
      refine hr.setArr (fs := []) (xs := xs ++ xs') hκks hkk (by simp [hκ']) hC (fun b hb => ?_) (fun b hb => ?_) (by simp) (by simp) (by simp) (by rw [joinE_length]; exact r2) ?_ (.inl ⟨rfl, rfl⟩) hd
      · obtain ⟨k, hk1, hk2⟩ := g3 b (by simpa using hb); exact ⟨k, .inr (by simp [hk1]), hk2⟩
      · rcases vtop b hb with h | ⟨k, hk1, hk2⟩
        · exact .inl h
        · exact .inr ⟨k, .inr (by simp [hk1]), hk2⟩
      · simp only [Bool.false_eq_true, if_false, joinE, hdd, and_true]
        exact Es.rz_append _ _ _ _ [] [] (flat_rz g2 okk (fsk ks (by simp +contextual))) (flat_rz p5 okk (fsk ks' (by simp +contextual)))
end
end Go.Vm

namespace Go.Vm
open Go Go.RowKit

section
variable {fr : Fr} {st st' : St} {a : Act} {W W' : World} {ν ν' : Nat → Value} {F F' : Nat → List Nat} {o : Oper} {e : Eff} {L : Nat → Option TyI}
  {ok ok' ok2 : Nat → Prop} {h : Nat → Option Blk} {B B' : Nat}

theorem Cs.rz_put {e cs : List C} {us vs : List Value} {fe gs : List Nat} {off : Nat} (h1 : Cs.rz W ok B e us fe) (h2 : Cs.rz W ok B cs vs gs) :
    ∃ f1 f2 f3, fe = f1 ++ f2 ++ f3 ∧ Cs.rz W ok B (putL e off cs) (putL us off vs) (f1 ++ gs ++ f3) := by
  obtain ⟨f1, g, rfl, h3, h4⟩ := Cs.rz_split off e us fe h1
  obtain ⟨f2, f3, rfl, h5, h6⟩ := Cs.rz_split vs.length _ _ _ h4
  refine ⟨f1, f2, f3, by simp, ?_⟩
  unfold putL
  have hl := Cs.rz_length _ _ _ h2
  rw [← hl]
  rw [List.drop_drop, List.drop_drop] at h6
  exact Cs.rz_append _ _ _ _ _ _ (Cs.rz_append _ _ _ _ _ _ h3 h2) h6

theorem Es.rz_set {sz off : Nat} {cs : List C} {vs : List Value} {gs : List Nat} (h2 : Cs.rz W ok B cs vs gs) (hs : off + cs.length ≤ sz) : ∀ (es : List (List C)) (i : Nat) (xs : List Value) (fs : List Nat) (e : List C),
    Es.rz W ok B sz es xs fs → es[i]? = some e → ∃ f1 f2 f3, fs = f1 ++ f2 ++ f3 ∧ Es.rz W ok B sz (es.set i (putL e off cs)) (putL xs (i * sz + off) vs) (f1 ++ gs ++ f3)
  | [], i, xs, fs, e, h, he => by simp at he
  | c :: es, 0, xs, fs, e, h, he => by
    obtain rfl : c = e := by simpa using he
    simp only [Es.rz] at h
    obtain ⟨x1, x2, g1, g2, rfl, rfl, hl, h3, h4⟩ := h
    obtain ⟨f1, f2, f3, rfl, h5⟩ := Cs.rz_put (off := off) h3 h2
    have hx1 := Cs.rz_length _ _ _ h3
    have hv := Cs.rz_length _ _ _ h2
    refine ⟨f1, f2, f3 ++ g2, by simp, ?_⟩
    simp only [List.set_cons_zero, Es.rz]
    refine ⟨putL x1 off vs, x2, f1 ++ gs ++ f3, g2, ?_, by simp, ?_, h5, h4⟩
    · unfold putL
      rw [Nat.zero_mul, Nat.zero_add, List.take_append_of_le_length (by omega), List.drop_append_of_le_length (by omega)]
      simp
    · rw [putL_length (by omega)]; exact hl
  | c :: es, i + 1, xs, fs, e, h, he => by
    simp only [Es.rz] at h
    obtain ⟨x1, x2, g1, g2, rfl, rfl, hl, h3, h4⟩ := h
    obtain ⟨f1, f2, f3, rfl, h5⟩ := Es.rz_set h2 hs es i x2 g2 e h4 (by simpa using he)
    have hx1 := Cs.rz_length _ _ _ h3
    refine ⟨g1 ++ f1, f2, f3, by simp, ?_⟩
    simp only [List.set_cons_succ, Es.rz]
    refine ⟨x1, putL x2 (i * sz + off) vs, g1, f1 ++ gs ++ f3, ?_, by simp, hl, h3, h5⟩
    unfold putL
    rw [show (i + 1) * sz + off = x1.length + (i * sz + off) by rw [Nat.succ_mul]; omega, List.take_length_add_append, Nat.add_assoc, List.drop_length_add_append]
    simp

theorem ownsRow_put {W' : World} {B ty sz N b c p : Nat} {cur : Array Value} {xs vs : List Value} (hB : B ≤ b) (hxl : xs.length = N * sz) (hnc : N ≤ c) (hcm : c ≤ maxLen) (hcs : cur.size = c * sz) (htake : cur.toList.take (N * sz) = xs)
    (hp : p + vs.length ≤ N * sz) (hbn : W'.heap[b]? = some (.cells (cur.toList.take p ++ vs ++ cur.toList.drop (p + vs.length)).toArray ty (0, 0))) :
    W'.ownsRow B ty sz (.slice (some ⟨b, 0, none⟩) N c) N (putL xs p vs) := by
  have hle2 : N * sz ≤ c * sz := Nat.mul_le_mul_right _ hnc
  have hcl2 : cur.toList.length = cur.size := Array.length_toList
  refine ⟨by rw [putL_length (by omega)]; exact hxl, .inr ⟨b, c, _, rfl, hB, hbn, hnc, hcm, ?_, ?_⟩⟩
  · simp; omega
  · simp only [List.toList_toArray]
    rw [← htake]
    unfold putL
    have e0 : (cur.toList.take p).length = p := by rw [List.length_take, hcl2]; omega
    rw [List.append_assoc, List.append_assoc, List.take_append, e0, List.take_of_length_le (l := cur.toList.take p) (by omega), List.take_append]
    rw [List.take_of_length_le (l := vs) (by omega)]
    rw [List.take_take, Nat.min_eq_left (by omega), List.drop_take]
    congr 3
    omega
theorem putL_mid {α : Type} {xs ms ys vs : List α} {off : Nat} (h : off + vs.length ≤ ms.length) : putL (xs ++ (ms ++ ys)) (xs.length + off) vs = xs ++ (putL ms off vs ++ ys) := by
  unfold putL
  rw [List.take_append, show xs.length + off - xs.length = off by omega, List.take_of_length_le (l := xs) (by omega), List.take_append, show off - ms.length = 0 by omega, List.take_zero, List.append_nil]
  rw [List.drop_append, show xs.length + off + vs.length - xs.length = off + vs.length by omega, List.drop_eq_nil_of_le (as := xs) (by omega), List.nil_append, List.drop_append, show off + vs.length - ms.length = 0 by omega, List.drop_zero]
  simp [List.append_assoc]
theorem topB_opn {ν : Nat → Value} {κ ty sz : Nat} {pre post : List (List C)} {mid : List T} : topB ν κ (some (.opn ty sz pre mid post)) = (ν κ).ownBlock := rfl
theorem step_storeOpn {t κ sz q off : Nat} {x y : Operand} {i : TyI} {ty : Nat} {pre post : List (List C)} {mid ts : List T} (ho : o.op = .store t x y) (hx : opd st.s x = .ep κ sz q off)
    (hb : st.h κ = some (.opn ty sz pre mid post)) (hq : q = pre.length) (hy : unT (opd st.s y) = some ts)
    (ht : TyOk fr.P t i) (hl : ts.length = i.size) (hs : off + i.size ≤ sz) (hdst : o.dst = none) :
    StepO fr o st ⟨.un, [], [(κ, .opn ty sz pre (mid.take off ++ ts ++ mid.drop (off + i.size)) post)]⟩ :=
  .of_skip fun st' a W ν F e1 e2 hr => by
    subst hq
    have ex := e1 x (by simp [ho, Op.operands])
    have ey := e1 y (by simp [ho, Op.operands])
    have hb' : st'.h κ = some (.opn ty sz pre mid post) := by rw [e2 κ (.inr (by simp [lk]))]; exact hb
    have hv := hr.opd x
    rw [ex, hx] at hv
    simp only [T.rz] at hv
    obtain ⟨_, b, n, c, hνκ, hvx⟩ := hv
    have hblk := hr.heap κ _ hb'
    simp only [Blk.rz] at hblk
    obtain ⟨xs, ms, ys, f1, f2, g1, g2, g3, g4, g5, g6, hF⟩ := hblk
    have g1' := g1
    rw [hνκ] at g1'
    rcases g1'.2 with ⟨hn, _⟩ | ⟨g, cap, cur, hs1, hB, hh, hnc, hcm, hcs, htake⟩
    · cases hn
    simp only [Value.slice.injEq, Option.some.injEq, Addr.mk.injEq] at hs1
    obtain ⟨⟨rfl, _⟩, rfl, rfl⟩ := hs1
    have hvy := hr.opd y
    rw [ey] at hvy
    obtain ⟨hty, h1y⟩ := unT_rz hr hy hvy
    have hly := Ts.rz_length _ _ hty
    have hlm := Ts.rz_length _ _ g3
    have hlx := Es.rz_length _ _ _ g2
    have hsz : (a.eval y).cells.size = i.size := by rw [← Array.length_toList]; omega
    have hvl : (a.eval y).cells.toList.length = i.size := by rw [Array.length_toList]; exact hsz
    have hle : pre.length * sz + sz ≤ (pre.length + 1 + post.length) * sz := by rw [← Nat.succ_mul]; exact Nat.mul_le_mul_right _ (by omega)
    have hle2 : (pre.length + 1 + post.length) * sz ≤ c * sz := Nat.mul_le_mul_right _ hnc
    obtain ⟨W', hrun, hc, hbn⟩ := run_storeAt_cells ht b (pre.length * sz + off) (a.eval y) cur ty hh hsz (by omega) h1y
    have htop : topOf st'.h ν κ = some b := by rw [topOf, hb', topB_opn, hνκ]; rfl
    let blk : Blk := .opn ty sz pre (mid.take off ++ ts ++ mid.drop (off + i.size)) post
    let M : List (Nat × Blk) := [(κ, blk)]
    have htop' : topOf (mrg st'.h M) ν κ = some b := by rw [topOf_mrg_one]; show topB ν κ (some blk) = _; rw [topB_opn, hνκ]; rfl
    have hown := ownsRow_put (W' := W') (B := fr.B) (ty := ty) (sz := sz) (N := pre.length + 1 + post.length) (p := pre.length * sz + off) (vs := (a.eval y).cells.toList) hB g1.1 hnc hcm hcs htake (by omega) (by rw [hvl, ← hsz]; exact hbn)
    rw [← hνκ, show pre.length * sz + off = xs.length + off by omega, putL_mid (by omega)] at hown
    have hX : ∀ c' ∈ [b], ∃ k, (lk k M).isSome = true ∧ topOf st'.h ν k = some c' := fun c' hc' => by simp at hc'; subst hc'; exact ⟨κ, lk_one.2 rfl, htop⟩
    have hok := hr.ok_move (M := M) (ν' := ν) (F' := F) hc hX (fun _ _ => rfl)
      (fun k c' hk hc' => by
        rw [lk_one] at hk; subst hk
        rcases hc' with hc' | hc'
        · rw [htop'] at hc'; exact .inr ⟨k, lk_one.2 rfl, .inl (by rw [htop]; exact hc')⟩
        · exact .inr ⟨k, lk_one.2 rfl, .inr hc'⟩)
      (fun k c' hk hc' => by rw [lk_one] at hk; subst hk; rw [htop'] at hc'; exact .inr ⟨k, by rw [htop]; exact hc'⟩)
    have sameF : ∀ b' ∈ F κ, W'.heap[b']? = W.heap[b']? := fun b' hb2 => hc.block b' (hr.F_lt hb2).2 (fun hm => by simp at hm; subst hm; exact hr.d2 κ κ _ hb2 htop)
    refine ⟨W', by simp [execOp, ho, hvx, hrun], ν, F, hr.step (M := M) (X := [b]) hc hX (fun _ _ => rfl) (fun _ _ => rfl) ?_ ?_ ?_ ?_ ?_ ?_ ?_ ?_ (by simp [hdst])⟩
    · intro k c' hk hc'; rw [lk_one] at hk; subst hk; rw [htop'] at hc'; exact .inr ⟨k, lk_one.2 rfl, by rw [htop]; exact hc'⟩
    · intro k c' hk hc'; rw [lk_one] at hk; subst hk; exact .inr ⟨k, lk_one.2 rfl, .inr hc'⟩
    · intro k k' c' hne hk hk'; rw [lk_one] at hk hk'; exact absurd (hk.trans hk'.symm) hne
    · intro k k' c' hk hk' hc'; rw [lk_one] at hk hk'; subst hk hk'; rw [htop']; rintro ⟨rfl⟩; exact hr.d2 _ _ _ hc' htop
    · intro k hk; exact hr.d3 k
    · intro k k' c' hne hk hk'; rw [lk_one] at hk hk'; exact absurd (hk.trans hk'.symm) hne
    · intro k bl hk
      have : k = κ := lk_one.1 (by rw [hk]; rfl)
      subst this
      simp only [M, lk, if_true, Option.some.injEq] at hk
      subst hk
      show blk.rz fr W' _ ν _ k (F k)
      simp only [blk, Blk.rz]
      have mv : ∀ ts us, Ts.rz fr W (okOf fr W st'.h ν) ν st'.h ts us → Ts.rz fr W' (okOf fr W' (mrg st'.h M) ν) ν (mrg st'.h M) ts us := fun ts' us' hh => Ts.rz_move hok (fun _ _ => rfl) (fun k hk => mrg_isSome hk) ts' us' hh
      refine ⟨xs, putL ms off (a.eval y).cells.toList, ys, f1, f2, hown, Es.rz_move (fun b hb => hb.elim) (Nat.le_refl _) _ _ _ _ (fun b hb => sameF b (by rw [hF]; simp [hb])) g2, ?_, ?_, ?_,
        Es.rz_move (fun b hb => hb.elim) (Nat.le_refl _) _ _ _ _ (fun b hb => sameF b (by rw [hF]; simp [hb])) g6, hF⟩
      · unfold putL
        rw [hvl]
        exact Ts.rz_append _ _ _ _ (Ts.rz_append _ _ _ _ (Ts.rz_take off _ _ (mv _ _ g3)) (mv _ _ hty)) (Ts.rz_drop (off + i.size) _ _ (mv _ _ g3))
      · intro u hu
        unfold putL at hu
        rcases List.mem_append.1 hu with hu | hu
        · rcases List.mem_append.1 hu with hu | hu
          · exact g4 u (List.mem_of_mem_take hu)
          · exact h1y u hu
        · exact g4 u (List.mem_of_mem_drop hu)
      · simp; omega
    · simp [T.rz]
theorem step_storeEp {t κ sz q off : Nat} {x y : Operand} {i : TyI} {d : Bool} {ty : Nat} {es : List (List C)} {e : List C} {ts : List T} {cs : List C} {ks : List Nat} {cts : List (Nat × Nat)} (ho : o.op = .store t x y) (hx : opd st.s x = .ep κ sz q off)
    (hb : st.h κ = some (.arr d ty sz es)) (he : es[q]? = some e) (hy : unT (opd st.s y) = some ts) (ha : absL st.h d cts ts = some (cs, ks)) (hnd : ks.Nodup) (hκks : κ ∉ ks)
    (ht : TyOk fr.P t i) (hl : ts.length = i.size) (hs : off + i.size ≤ sz) (hdst : o.dst = none) :
    StepO fr o st ⟨.un, ts.flatMap keysT, (κ, .arr d ty sz (es.set q (putL e off cs))) :: deads ks⟩ :=
  .of_skip fun st' a W ν F e1 e2 hr => by
    have ex := e1 x (by simp [ho, Op.operands])
    have ey := e1 y (by simp [ho, Op.operands])
    have hb' : st'.h κ = some (.arr d ty sz es) := by rw [e2 κ (.inr (by simp [lk]))]; exact hb
    have ha' : absL st'.h d cts ts = some (cs, ks) := by rw [absL_agree fun k hk => e2 k (.inl hk)]; exact ha
    have hv := hr.opd x
    rw [ex, hx] at hv
    simp only [T.rz] at hv
    obtain ⟨_, b, n, c, hνκ, hvx⟩ := hv
    obtain ⟨xs, g1, g2, g3⟩ := hr.arr_own hb'
    have g1' := g1
    rw [hνκ] at g1'
    rcases g1'.2 with ⟨hn, _⟩ | ⟨g, cap, cur, hs1, hB, hh, hnc, hcm, hcs, htake⟩
    · cases hn
    simp only [Value.slice.injEq, Option.some.injEq, Addr.mk.injEq] at hs1
    obtain ⟨⟨rfl, _⟩, rfl, rfl⟩ := hs1
    have hvy := hr.opd y
    rw [ey] at hvy
    obtain ⟨hty, h1y⟩ := unT_rz hr hy hvy
    have hly := Ts.rz_length _ _ hty
    have hcl := absL_length ha'
    have hsz : (a.eval y).cells.size = i.size := by rw [← Array.length_toList]; omega
    have hq : q < es.length := (List.getElem?_eq_some_iff.1 he).1
    have hle : q * sz + sz ≤ es.length * sz := by rw [← Nat.succ_mul]; exact Nat.mul_le_mul_right _ hq
    have hle2 : es.length * sz ≤ c * sz := Nat.mul_le_mul_right _ hnc
    obtain ⟨W', hrun, hc, hbn⟩ := run_storeAt_cells ht b (q * sz + off) (a.eval y) cur ty hh hsz (by omega) h1y
    have htop : topOf st'.h ν κ = some b := by rw [g3, hνκ]; rfl
    refine ⟨W', by simp [execOp, ho, hvx, hrun], ?_⟩
    have hlen : (es.set q (putL e off cs)).length = es.length := by simp
    have hown : W'.ownsRow fr.B ty sz (ν κ) (es.set q (putL e off cs)).length (putL xs (q * sz + off) (a.eval y).cells.toList) := by
      rw [hlen, hνκ]
      have hxl : xs.length = es.length * sz := g1.1
      have hcl2 : cur.toList.length = cur.size := Array.length_toList
      have hvl : (a.eval y).cells.toList.length = (a.eval y).cells.size := Array.length_toList
      have hnn : q * sz + off + i.size ≤ es.length * sz := by omega
      generalize es.length = N at hnn hxl hle2 htake hnc ⊢
      refine ⟨by rw [putL_length (by omega)]; exact hxl, .inr ⟨b, c, _, rfl, hB, hbn, hnc, hcm, ?_, ?_⟩⟩
      · simp; omega
      · simp only [List.toList_toArray]
        rw [← htake]
        unfold putL
        have e0 : (cur.toList.take (q * sz + off)).length = q * sz + off := by rw [List.length_take, hcl2]; omega
        rw [List.append_assoc, List.append_assoc, List.take_append, e0, List.take_of_length_le (l := cur.toList.take (q * sz + off)) (by omega), List.take_append, hvl]
        rw [List.take_of_length_le (l := (a.eval y).cells.toList) (by omega)]
        rw [List.take_take, Nat.min_eq_left (by omega), List.drop_take]
        congr 3
        omega
    have hX : ∀ c' ∈ [b], ∃ k, (k = κ ∨ k ∈ ks) ∧ topOf st'.h ν k = some c' := fun c' hc' => by simp at hc'; subst hc'; exact ⟨κ, .inl rfl, htop⟩
    have hks := absL_keys ha'
    have sameF : ∀ k, ∀ b' ∈ F k, W'.heap[b']? = W.heap[b']? := fun k b' hb2 => hc.block b' (hr.F_lt hb2).2 (fun hm => by simp at hm; subst hm; exact hr.d2 k κ _ hb2 htop)
    have sameO : ∀ k, k ≠ κ → ∀ b' ∈ ownK ν F st'.h k, W'.heap[b']? = W.heap[b']? := fun k hk b' hb2 => hc.block b' (hr.ownK_lt hb2).2 (fun hm => by
      simp at hm; subst hm; exact hr.ownK_apart hk hb2 (by simp [ownK, htop]))
    cases d with
    | true =>
      simp only [if_true] at g2
      have h1 := absL_deep hr ha' hty
      have h2 := Cs.rz_move (W' := W') (ok' := fun _ => False) (fun b hb => hb.elim) (Nat.le_refl _) cs _ _ (fun b' hb2 => by
        obtain ⟨k, hk, hb3⟩ := List.mem_flatMap.1 hb2; exact sameO k (by rintro rfl; exact hκks hk) b' hb3) h1
      have h3 := Es.rz_move (W' := W') (ok' := fun _ => False) (fun b hb => hb.elim) (Nat.le_refl _) sz es xs _ (sameF κ) g2
      obtain ⟨f1, f2, f3, hF, h4⟩ := Es.rz_set (sz := sz) (off := off) h2 (by omega) es q xs (F κ) e h3 he
      have hnd1 := hr.d3 κ
      have hnd2 := hr.ownKs_nodup (ks := ks) hnd
      refine hr.setArr (d := true) (κ := κ) (ks := ks) (fs := f1 ++ ks.flatMap (ownK ν F st'.h) ++ f3) hκks hks (fun _ => rfl) hc hX (fun b' hb2 => .inr ⟨κ, .inl rfl, by rw [g3]; exact hb2⟩) (fun b' hb2 => .inr ?_) ?_ (fun b' hb2 => ?_) hown (by simpa using h4) (.inr rfl) (by simp [hdst])
      · rcases List.mem_append.1 hb2 with hb2 | hb2
        · rcases List.mem_append.1 hb2 with hb2 | hb2
          · exact ⟨κ, .inl rfl, .inr (by rw [hF]; simp [hb2])⟩
          · obtain ⟨k, hk, hb3⟩ := List.mem_flatMap.1 hb2; exact ⟨k, .inr hk, mem_ownK hb3⟩
        · exact ⟨κ, .inl rfl, .inr (by rw [hF]; simp [hb2])⟩
      · rw [hF] at hnd1
        have key : ∀ b', b' ∈ F κ → b' ∉ ks.flatMap (ownK ν F st'.h) := fun b' h5 h6 => by
          obtain ⟨k, hk, hb3⟩ := List.mem_flatMap.1 h6
          exact hr.ownK_apart (κ := κ) (κ' := k) (by rintro rfl; exact hκks hk) (by simp [ownK, h5]) hb3
        rw [List.nodup_append] at hnd1
        obtain ⟨n1, n2, n3⟩ := hnd1
        rw [List.nodup_append] at n1
        obtain ⟨n4, n5, n6⟩ := n1
        rw [List.nodup_append, List.nodup_append]
        refine ⟨⟨n4, hnd2, fun x hx y hy => ?_⟩, n2, fun x hx y hy => ?_⟩
        · rintro rfl; exact key x (by rw [hF]; simp [hx]) hy
        · rintro rfl
          rcases List.mem_append.1 hx with hx | hx
          · exact n3 x (by simp [hx]) x hy rfl
          · exact key x (by rw [hF]; simp [hy]) hx
      · have : (ν κ).ownBlock = some b := by rw [hνκ]; rfl
        rw [this]
        rintro ⟨rfl⟩
        rcases List.mem_append.1 hb2 with hb2 | hb2
        · rcases List.mem_append.1 hb2 with hb2 | hb2
          · exact hr.d2 κ κ b (by rw [hF]; simp [hb2]) htop
          · obtain ⟨k, hk, hb3⟩ := List.mem_flatMap.1 hb2
            exact hr.ownK_apart (κ := κ) (κ' := k) (by rintro rfl; exact hκks hk) (by simp [ownK, htop]) hb3
        · exact hr.d2 κ κ b (by rw [hF]; simp [hb2]) htop
    | false =>
      simp only [Bool.false_eq_true, if_false] at g2
      have hvb : (ν κ).ownBlock = some b := by rw [hνκ]; rfl
      have okk : ∀ b', okOf fr W st'.h ν b' → ((ν κ).ownBlock ≠ some b' ∧ b' < W'.heap.size ∧ (okOf fr W st'.h ν b' ∨ W.heap.size ≤ b' ∨ ∃ k, (k = κ ∨ k ∈ ks) ∧ (topOf st'.h ν k = some b' ∨ b' ∈ F k))) ∧ W'.heap[b']? = W.heap[b']? := by
        intro b' hb2
        have hne : (ν κ).ownBlock ≠ some b' := by rw [← g3]; exact hb2.2.2 κ
        exact ⟨⟨hne, Nat.lt_of_lt_of_le hb2.2.1 hc.size, .inl hb2⟩, hc.block b' hb2.2.1 (fun hm => by simp at hm; subst hm; exact hne hvb)⟩
      have h1 := absL_flat hr ha' hty
      have h2 := Cs.rz_move (W' := W') (ok' := fun b' => ((ν κ).ownBlock ≠ some b' ∧ b' < W'.heap.size ∧ (okOf fr W st'.h ν b' ∨ W.heap.size ≤ b' ∨ ∃ k, (k = κ ∨ k ∈ ks) ∧ (topOf st'.h ν k = some b' ∨ b' ∈ F k)))) (fun b' hb2 => by
        rcases hb2 with hb2 | ⟨k, hk, hb2⟩
        · exact okk b' hb2
        · have hkκ : k ≠ κ := by rintro rfl; exact hκks hk
          refine ⟨⟨fun hv => ?_, Nat.lt_of_lt_of_le (hr.ownK_lt hb2).2 hc.size, .inr (.inr ⟨k, .inr hk, mem_ownK hb2⟩)⟩, sameO k hkκ b' hb2⟩
          rw [hvb] at hv; simp at hv; subst hv
          exact hr.ownK_apart hkκ hb2 (by simp [ownK, htop])) (Nat.le_refl _) cs _ [] (by simp) h1
      have h3 := Es.rz_move (W' := W') okk (Nat.le_refl _) sz es xs [] (by simp) g2.1
      obtain ⟨f1, f2, f3, hF, h4⟩ := Es.rz_set (sz := sz) (off := off) h2 (by omega) es q xs [] e h3 he
      obtain ⟨rfl, rfl, rfl⟩ : f1 = [] ∧ f2 = [] ∧ f3 = [] := by simpa using hF.symm
      refine hr.setArr (κ := κ) (ks := ks) (fs := []) hκks hks (fun _ => rfl) hc hX (fun b' hb2 => .inr ⟨κ, .inl rfl, by rw [g3]; exact hb2⟩) (by simp) (by simp) (by simp) hown ?_ (.inr rfl) (by simp [hdst])
      simpa using h4

theorem Es.rz_replicate {cs : List C} {us : List Value} {sz : Nat} (hc : Cs.rz W ok B cs us []) (hl : cs.length = sz) : ∀ n, Es.rz W ok B sz (List.replicate n cs) (List.replicate n us).flatten []
  | 0 => by simp [Es.rz]
  | n + 1 => by
    rw [List.replicate_succ, List.replicate_succ, List.flatten_cons]
    simp only [Es.rz]
    exact ⟨_, _, [], [], rfl, rfl, hl, hc, Es.rz_replicate hc hl n⟩
theorem absC_const {ct : Nat × Nat} {u : Value} {c : C} {k : List Nat} (h : absC (fun _ => none) true ct (constT u) = some (c, k)) : C.rz W ok B c u [] := by
  unfold constT at h
  split at h
  · simp only [absC, Option.some.injEq, Prod.mk.injEq] at h; rw [← h.1]; simp [C.rz]
  · simp only [absC, Option.some.injEq, Prod.mk.injEq] at h; rw [← h.1]; simp [C.rz]
  · split at h
    · rename_i hh; obtain ⟨rfl, rfl⟩ := hh
      simp only [absC, if_true, Option.some.injEq, Prod.mk.injEq] at h
      rw [← h.1]
      simp only [C.rz]
      exact ⟨[], [], World.ownsRow_nil _ _ _ _, by simp [Value.ownBlock], by simp [Es.rz]⟩
    · cases h
  · split at h <;> cases h
  · cases h

theorem step_makeSlice {t el κ : Nat} {x y : Operand} {n : Nat} {k : IntKind} {i j : TyI} {cs : List C} (ho : o.op = .makeSlice t x y) (hx : opd st.s x = .c (.int k n)) (hy : opd st.s y = .c (.int k n)) (ht : TyOk fr.P t i) (hk : i.kind = .slice el) (hj : TyOk fr.P el j)
    (hz : j.zv.cells.size = j.size) (h1 : ∀ u ∈ j.zv.cells.toList, u.oneCell' = true) (hs0 : 0 < j.size) (hb0 : 0 < j.bytes) (hb : n * j.bytes ≤ 140737488355328) (hκ : st.h κ = none)
    (ha : absL (fun _ => none) true j.cts (j.zv.cells.toList.map constT) = some (cs, [])) (hd : ∀ d, o.dst = some d → d < fr.N) :
    StepO fr o st ⟨.ref κ, [], [(κ, .arr true el j.size (List.replicate n cs))]⟩ :=
  .of_value fun st' a W ν F e1 e2 hr => by
    have ex := e1 x (by simp [ho, Op.operands])
    have ey := e1 y (by simp [ho, Op.operands])
    have vx := rz_int (by rw [← hx, ← ex]; exact hr.opd x)
    have vy := rz_int (by rw [← hy, ← ey]; exact hr.opd y)
    have hκ' : st'.h κ = none := by rw [e2 κ (.inr (by simp [lk]))]; exact hκ
    have hu := ht.slice hk
    have hnb : n ≤ 140737488355328 := Nat.le_trans (Nat.le_mul_of_pos_right n hb0) hb
    have hnm : n ≤ maxLen := by simp only [maxLen]; omega
    have hw : IntKind.i64.wrap (n : Int) = n := IntWalk.i64_in _ (by omega)
    obtain ⟨x', hx', hx1, hx2, hx3⟩ := hj.info'
    let us : List Value := (List.replicate n j.zv.cells.toList).flatten
    have hus : us.length = n * j.size := by
      show (List.replicate n j.zv.cells.toList).flatten.length = n * j.size
      simp [hz]
    have hzero : ∀ z : Array Value, (n * j.size = 0 ∧ z = #[] ∨ z = j.zv.cells) → ((Array.range (n * j.size)).map (z[· % z.size]!)) = us.toArray := by
      intro z hz'
      by_cases h0 : n * j.size = 0
      · have : us = [] := List.eq_nil_of_length_eq_zero (by omega)
        rw [this, h0]; simp
      · have hzc : z = j.zv.cells := by rcases hz' with ⟨h, _⟩ | h; exact absurd h h0; exact h
        subst hzc
        apply Array.ext'
        apply List.ext_getElem
        · simp [hus]
        · intro q hq1 hq2
          simp at hq1
          have : 0 < j.zv.cells.size := by omega
          simp only [Array.toList_map, Array.toList_range, List.getElem_map, List.getElem_range]
          have hm : q % j.zv.cells.size < j.zv.cells.size := Nat.mod_lt _ this
          rw [getElem!_pos j.zv.cells _ hm]
          have key : ∀ n q, q < n * j.size → ((List.replicate n j.zv.cells.toList).flatten)[q]? = j.zv.cells.toList[q % j.size]? := by
            intro n
            induction n with
            | zero => intro q hq; simp at hq
            | succ n ih =>
              intro q hq
              rw [List.replicate_succ, List.flatten_cons]
              by_cases hlt : q < j.size
              · rw [List.getElem?_append_left (by simpa [hz] using hlt), Nat.mod_eq_of_lt hlt]
              · rw [List.getElem?_append_right (by simp [hz]; omega)]
                simp only [Array.length_toList, hz]
                rw [ih (q - j.size) (by rw [Nat.succ_mul] at hq; omega)]
                congr 1
                rw [← Nat.mod_eq_sub_mod (by omega)]
          have h3 := key n q hq1
          have h4 : us[q]? = j.zv.cells.toList[q % j.size]? := h3
          rw [List.getElem?_eq_getElem hq2, ← hz, List.getElem?_eq_getElem (by simpa using hm)] at h4
          simp only [Option.some.injEq] at h4
          show j.zv.cells[q % j.zv.cells.size] = us[q]
          rw [h4]; simp
    have hrz : Es.rz (W.alloc (.cells us.toArray el)) (fun _ => False) fr.B j.size (List.replicate n cs) us [] := by
      have hc1 : ∀ (ts : List Value) (cts : List (Nat × Nat)) (cs : List C), absL (fun _ => none) true cts (ts.map constT) = some (cs, []) → Cs.rz (W.alloc (.cells us.toArray el)) (fun _ => False) fr.B cs ts [] := by
        intro ts
        induction ts with
        | nil => intro cts cs h; obtain ⟨rfl, _⟩ := absL_nil h; simp [Cs.rz]
        | cons u ts ih =>
          intro cts cs h
          obtain ⟨c, k, cs', ks', h2, h3, rfl, hk'⟩ := absL_cons h
          obtain ⟨rfl, rfl⟩ : k = [] ∧ ks' = [] := by simpa using hk'.symm
          simp only [Cs.rz]
          refine ⟨u, ts, [], [], rfl, rfl, ?_, ih _ _ h3⟩
          exact absC_const h2
      have hcs := hc1 _ _ _ ha
      show Es.rz _ _ _ _ _ (List.replicate n j.zv.cells.toList).flatten []
      have hlc : cs.length = j.size := by have := Cs.rz_length _ _ _ hcs; simp [hz] at this; omega
      exact Es.rz_replicate hcs hlc n
    have hown : (W.alloc (.cells us.toArray el)).ownsRow fr.B el j.size (.slice (some ⟨W.heap.size, 0, none⟩) n n) (List.replicate n cs).length us := by
      rw [List.length_replicate]
      exact ⟨hus, .inr ⟨W.heap.size, n, us.toArray, rfl, Nat.zero_le _, heap_alloc_new W _, Nat.le_refl _, hnm, by simp only [List.size_toArray]; exact hus, by
        rw [show us.toArray.toList = us from rfl, List.take_of_length_le (by omega)]⟩⟩
    refine ⟨.slice (some ⟨W.heap.size, 0, none⟩) n n, W.alloc (.cells us.toArray el), ?_, ?_⟩
    · have hty : (typeInfo el).run fr.P W = .ok x' W := by simp [typeInfo, hx']
      have hbig : ¬ ((n : Int) < 0) := by omega
      have hbig2 : ¬ ((j.bytes : Int) * (n : Int) > 2 ^ 48) := by
        have h5 := Int.ofNat_le.mpr hb
        rw [Int.natCast_mul, Int.mul_comm] at h5
        intro h6
        have h7 := Int.lt_of_lt_of_le h6 h5
        revert h7
        decide
      simp only [execOp, ho, vx, vy, Instr.makeSlice, Sem.run_bind, run_underlying hu, Result.andThen_ok, asInt, asIntOf, Sem.run_pure, hty, hw, hx2]
      simp only [hbig, hbig2, decide_false, Bool.or_false, Bool.false_eq_true, Int.lt_irrefl, gt_iff_lt, if_false, Bool.or_self]
      by_cases h0 : n * j.size = 0
      · have := hzero #[] (.inl ⟨h0, rfl⟩)
        simp [hj.size, h0, newRow] at this ⊢
        rw [this]
      · have := hzero j.zv.cells (.inr rfl)
        simp [hj.size, h0, newRow, hj.zero]
        rw [this]
    · exact hr.setArr (κ := κ) (ks := []) (fs := []) (by simp) (by simp) (by simp [hκ']) (Chg.alloc W _) (by simp) (fun b hb => .inl (by simp [Value.ownBlock] at hb; omega)) (by simp) (by simp) (by simp) hown (by simpa using hrz) (.inl ⟨rfl, rfl⟩) hd
end
end Go.Vm

namespace Go.Vm
open Go Go.RowKit

inductive Arg where
  | d (x : Dat)
  | pv (xs : List C)
  | fn (sem : List Dat → List Dat → Prop)
def Arg.rz (P : Program) (W : World) (ok : Nat → Prop) : Arg → Value → Prop
  | .d x, v => Dat.rz W ok 0 x v []
  | .pv xs, v => ∃ b o us, v = .pointer (some ⟨b, o, none⟩) ∧ ok b ∧ Cs.rz W ok 0 xs us [] ∧ ∀ i u, us[i]? = some u → W.cell? ⟨b, o + i, none⟩ = some u
  | .fn sem, v => FnRz P W (fun _ => False) sem v
def Args.rz (P : Program) (W : World) (ok : Nat → Prop) : List Arg → List Value → Prop
  | [], vs => vs = []
  | a :: as', vs => ∃ v vs', vs = v :: vs' ∧ a.rz P W ok v ∧ Args.rz P W ok as' vs'

/-- THE CONTRACT of a function: called with these, it returns that; it writes to nothing that was there. 'own': all of what it returns is new and its own. -/
def Sat (P : Program) (f : Nat) (as' : List Arg) (own : Bool) (rs : List Dat) : Prop :=
  FnOk P f ∧ ∀ (W : World) (ok : Nat → Prop) (vs : List Value), (∀ b, ok b → b < W.heap.size) → Args.rz P W ok as' vs →
    Calls P f vs.toArray W fun e W' => Bel W.heap.size W W' ∧ ∃ v, e = .returned v ∧ ResRz W' ok W.heap.size own rs v

/-! ### results -/
def shpV : List Dat → List Value → List Value → Prop
  | [], us, vs => us = [] ∧ vs = []
  | d :: ds, us, vs => ∃ u1 u2 v vs', us = u1 ++ u2 ∧ vs = v :: vs' ∧ u1.length = d.2.length ∧ (if d.1 then v = .agg u1.toArray else u1 = [v]) ∧ shpV ds u2 vs'
def shpT : List Dat → List T → List T
  | [], _ => []
  | d :: ds, ts => (if d.1 then .agg (ts.take d.2.length) else ts.headD .un) :: shpT ds (ts.drop d.2.length)
def cellsD (ds : List Dat) : List C := ds.flatMap (·.2)
def openC (own : Bool) (κ : Nat) : C → T × List (Nat × Blk)
  | .sl (some e) sz es => (.ref κ, [(κ, .arr own e sz es)])
  | x => (.c x, [])
def openL (own : Bool) : Nat → List C → List T × List (Nat × Blk)
  | _, [] => ([], [])
  | κ, c :: cs => ((openC own κ c).1 :: (openL own (κ + 1048576) cs).1, (openC own κ c).2 ++ (openL own (κ + 1048576) cs).2)
def oneT : List T → T
  | [t] => t
  | ts => .tup ts
def resT (own : Bool) (κ : Nat) (rs : List Dat) : T := oneT (shpT rs (openL own κ (cellsD rs)).1)
def resM (own : Bool) (κ : Nat) (rs : List Dat) : List (Nat × Blk) := (openL own κ (cellsD rs)).2

section
variable {fr : Fr} {st st' : St} {a : Act} {W W' : World} {ν ν' : Nat → Value} {F F' : Nat → List Nat} {o : Oper} {e : Eff} {L : Nat → Option TyI}
  {ok ok' ok2 : Nat → Prop} {h : Nat → Option Blk} {B B' : Nat}

theorem Dats.flat : ∀ {ds : List Dat} {vs : List Value} {fp : List Nat}, Dats.rz W ok B ds vs fp → ∃ us, Cs.rz W ok B (cellsD ds) us fp ∧ shpV ds us vs
  | [], vs, fp, h => by simp only [Dats.rz] at h; obtain ⟨rfl, rfl⟩ := h; exact ⟨[], by simp [cellsD, Cs.rz], rfl, rfl⟩
  | d :: ds, vs, fp, h => by
    simp only [Dats.rz] at h
    obtain ⟨v, vs', f1, f2, rfl, rfl, ⟨us1, h1, h2⟩, h3⟩ := h
    obtain ⟨us2, h4, h5⟩ := Dats.flat h3
    refine ⟨us1 ++ us2, ?_, us1, us2, v, vs', rfl, rfl, Cs.rz_length _ _ _ h1, h2, h5⟩
    show Cs.rz W ok B (d.2 ++ cellsD ds) _ _
    exact Cs.rz_append _ _ _ _ _ _ h1 h4

theorem shpT_rz : ∀ {ds : List Dat} {ts : List T} {us vs : List Value}, shpV ds us vs → Ts.rz fr W ok ν h ts us → (∀ u ∈ us, u.oneCell' = true) → Ts.rz fr W ok ν h (shpT ds ts) vs
  | [], ts, us, vs, hs, ht, h1 => by simp only [shpV] at hs; rw [hs.2]; simp [shpT, Ts.rz]
  | d :: ds, ts, us, vs, hs, ht, h1 => by
    simp only [shpV] at hs
    obtain ⟨u1, u2, v, vs', rfl, rfl, hl, hv, hs'⟩ := hs
    have ht1 := Ts.rz_take d.2.length _ _ ht
    have ht2 := Ts.rz_drop d.2.length _ _ ht
    rw [← hl, List.take_left] at ht1
    rw [← hl, List.drop_left] at ht2
    simp only [shpT, Ts.rz]
    rw [← hl]
    refine ⟨v, vs', rfl, ?_, shpT_rz hs' ht2 (fun u hu => h1 u (by simp [hu]))⟩
    cases hd : d.1 with
    | true =>
      rw [hd] at hv; simp only [if_true] at hv ⊢
      simp only [T.rz]
      exact ⟨u1, hv, fun u hu => h1 u (by simp [hu]), ht1⟩
    | false =>
      rw [hd] at hv; simp only [Bool.false_eq_true, if_false] at hv ⊢
      subst hv
      cases ts with
      | nil => simp [T.rz]
      | cons t ts => simp only [List.singleton_append, Ts.rz] at ht; obtain ⟨u, us', he, h3, _⟩ := ht; simp only [List.cons.injEq] at he; rw [he.1]; exact h3

theorem oneT_rz {ts : List T} {vs : List Value} (ht : Ts.rz fr W ok ν h ts vs) : T.rz fr W ok ν h (oneT ts) (valOf vs) := by
  match ts, ht with
  | [], ht => simp only [Ts.rz] at ht; subst ht; simp only [oneT, valOf, T.rz]; exact ⟨[], rfl, by simp [Ts.rz]⟩
  | [t], ht => simp only [Ts.rz] at ht; obtain ⟨u, us', rfl, h1, rfl⟩ := ht; exact h1
  | t :: t' :: ts, ht =>
    have hl := Ts.rz_length _ _ ht
    match vs, hl with
    | u :: u' :: us, _ => simp only [oneT, valOf, T.rz]; exact ⟨_, rfl, ht⟩
    | [_], hl => simp at hl
    | [], hl => simp at hl

theorem lk_append (k : Nat) (l l' : List (Nat × Blk)) : lk k (l ++ l') = (lk k l).or (lk k l') := by
  induction l with
  | nil => simp [lk]
  | cons x l ih => simp only [List.cons_append, lk]; split <;> simp_all
theorem openL_lt {own : Bool} : ∀ {cs : List C} {κ k : Nat}, (lk k (openL own κ cs).2).isSome = true → κ ≤ k ∧ k < κ + 1048576 * cs.length
  | [], κ, k, h => by simp [openL, lk] at h
  | c :: cs, κ, k, h => by
    simp only [openL, lk_append] at h
    by_cases h1 : (lk k (openC own κ c).2).isSome = true
    · have : k = κ := by
        unfold openC at h1; split at h1
        · exact lk_one.1 h1
        · simp [lk] at h1
      subst this; simp
    · have h2 : (lk k (openL own (κ + 1048576) cs).2).isSome = true := by
        cases hq : lk k (openC own κ c).2 with
        | some _ => simp [hq] at h1
        | none => simpa [hq] using h
      have := openL_lt h2
      simp only [List.length_cons]; omega

/-- What new keys are given: their values, and what they hold within. -/
def OpenP (W : World) (B : Nat) (own : Bool) (okr : Nat → Prop) (κ : Nat) (cs : List C) (us : List Value) (fp : List Nat) : Prop :=
    ∃ (ν1 : Nat → Value) (F1 : Nat → List Nat), (∀ k, (lk k (openL own κ cs).2).isSome = true → ∃ b ty sz es xs, lk k (openL own κ cs).2 = some (.arr own ty sz es) ∧ W.ownsRow B ty sz (ν1 k) es.length xs ∧ Es.rz W okr B sz es xs (F1 k) ∧ b = (ν1 k)) ∧
      (∀ k b, (lk k (openL own κ cs).2).isSome = true → b ∈ (ν1 k).ownBlock.toList ++ F1 k → b ∈ fp) ∧
      (∀ k, (lk k (openL own κ cs).2).isSome = true → ((ν1 k).ownBlock.toList ++ F1 k).Nodup) ∧
      (∀ k k' b, k ≠ k' → (lk k (openL own κ cs).2).isSome = true → (lk k' (openL own κ cs).2).isSome = true → b ∈ (ν1 k).ownBlock.toList ++ F1 k → b ∉ (ν1 k').ownBlock.toList ++ F1 k') ∧
      (∀ (fr : Fr) (ν : Nat → Value) (h : Nat → Option Blk) (ok' : Nat → Prop), (∀ b, okr b → ok' b) → (∀ k, (lk k (openL own κ cs).2).isSome = true → ν k = ν1 k ∧ (h k).isSome = true) → Ts.rz fr W ok' ν h (openL own κ cs).1 us)
theorem open_rz {own : Bool} {okr : Nat → Prop} : ∀ {cs : List C} {us : List Value} {fp : List Nat} (κ : Nat), Cs.rz W okr B cs us fp → fp.Nodup → OpenP W B own okr κ cs us fp
  | [], us, fp, κ, h, hn => by
    simp only [Cs.rz] at h
    obtain ⟨rfl, rfl⟩ := h
    exact ⟨fun _ => undef, fun _ => [], by simp [openL, lk], by simp [openL, lk], by simp [openL, lk], by simp [openL, lk], by simp [openL, Ts.rz]⟩
  | c :: cs, us, fp, κ, h, hn => by
    simp only [Cs.rz] at h
    obtain ⟨u, us', f1, f2, rfl, rfl, h1, h2⟩ := h
    rw [List.nodup_append] at hn
    obtain ⟨n1, n2, n3⟩ := hn
    obtain ⟨ν1, F1, a1, a2, a3, a4, a5⟩ := open_rz (own := own) (κ + 1048576) h2 n2
    have plain : (openC own κ c) = (.c c, []) → (∀ (fr : Fr) (ν : Nat → Value) (h : Nat → Option Blk) (ok' : Nat → Prop), (∀ b, okr b → ok' b) → T.rz fr W ok' ν h (.c c) u) → OpenP W B own okr κ (c :: cs) (u :: us') (f1 ++ f2) := fun hp hT => by
      refine ⟨ν1, F1, ?_, ?_, ?_, ?_, ?_⟩
      · simp only [openL, hp, List.nil_append]; exact a1
      · simp only [openL, hp, List.nil_append]; exact fun k b hk hb => by simp [a2 k b hk hb]
      · simp only [openL, hp, List.nil_append]; exact a3
      · simp only [openL, hp, List.nil_append]; exact a4
      · simp only [openL, hp, List.nil_append]
        intro fr ν h ok' hok hk
        simp only [Ts.rz]
        exact ⟨u, us', rfl, hT fr ν h ok' hok, a5 fr ν h ok' hok hk⟩
    cases c with
    | int k n => exact plain rfl (fun fr ν h ok' hok => by simp only [C.rz] at h1; simp only [T.rz, C.rz]; exact ⟨h1.1, trivial⟩)
    | bool b => exact plain rfl (fun fr ν h ok' hok => by simp only [C.rz] at h1; simp only [T.rz, C.rz]; exact ⟨h1.1, trivial⟩)
    | val x => exact plain rfl (fun fr ν h ok' hok => by simp only [C.rz] at h1; simp only [T.rz, C.rz]; exact ⟨h1.1, trivial⟩)
    | sl tag sz es =>
      cases tag with
      | none =>
        have hf : f1 = [] := by simp only [C.rz] at h1; exact h1.1
        subst hf
        exact plain rfl (fun fr ν h ok' hok => by simp only [T.rz]; exact C.rz_base _ _ (C.rz_move (W' := W) (fun b hb => ⟨hok b hb, rfl⟩) (Nat.le_refl _) _ _ [] (by simp) h1))
      | some ty =>
        simp only [C.rz] at h1
        obtain ⟨xs, fs, ho, rfl, hes⟩ := h1
        have hne : ∀ k, (lk k (openL own (κ + 1048576) cs).2).isSome = true → k ≠ κ := fun k hk => by have := openL_lt hk; omega
        have hlk : ∀ k, lk k (openL own κ (.sl (some ty) sz es :: cs)).2 = if k = κ then some (.arr own ty sz es) else lk k (openL own (κ + 1048576) cs).2 := fun k => by
          simp only [openL, openC, lk_append, lk]
          split <;> simp
        have hs : ∀ k, (lk k (openL own κ (.sl (some ty) sz es :: cs)).2).isSome = true → k = κ ∨ (k ≠ κ ∧ (lk k (openL own (κ + 1048576) cs).2).isSome = true) := fun k hk => by
          rw [hlk] at hk
          by_cases hκ : k = κ
          · exact .inl hκ
          · rw [if_neg hκ] at hk; exact .inr ⟨hκ, hk⟩
        refine ⟨fun k => if k = κ then u else ν1 k, fun k => if k = κ then fs else F1 k, ?_, ?_, ?_, ?_, ?_⟩
        · intro k hk
          rcases hs k hk with rfl | ⟨hκ, hk'⟩
          · exact ⟨u, ty, sz, es, xs, by rw [hlk, if_pos rfl], by simpa using ho, by simpa using hes, by simp⟩
          · simp only [hlk, if_neg hκ]; exact a1 k hk'
        · intro k b hk hb
          rcases hs k hk with rfl | ⟨hκ, hk'⟩
          · simp only [if_true] at hb; exact List.mem_append_left _ hb
          · simp only [if_neg hκ] at hb; exact List.mem_append_right _ (a2 k b hk' hb)
        · intro k hk
          rcases hs k hk with rfl | ⟨hκ, hk'⟩
          · simpa using n1
          · simp only [if_neg hκ]; exact a3 k hk'
        · intro k k' b hne2 hk hk' hb hb'
          rcases hs k hk with rfl | ⟨hκ, hk1⟩ <;> rcases hs k' hk' with rfl | ⟨hκ', hk2⟩
          · exact hne2 rfl
          · simp only [if_true] at hb; simp only [if_neg hκ'] at hb'
            exact n3 b hb b (a2 k' b hk2 hb') rfl
          · simp only [if_true] at hb'; simp only [if_neg hκ] at hb
            exact n3 b hb' b (a2 k b hk1 hb) rfl
          · simp only [if_neg hκ] at hb; simp only [if_neg hκ'] at hb'
            exact a4 k k' b hne2 hk1 hk2 hb hb'
        · intro fr ν h ok' hok hk
          simp only [openL, openC, Ts.rz]
          refine ⟨u, us', rfl, ?_, a5 fr ν h ok' hok fun k hk' => ?_⟩
          · simp only [T.rz]
            have := hk κ (by rw [hlk, if_pos rfl]; rfl)
            simp only [if_true] at this
            exact ⟨this.1.symm, this.2⟩
          · have := hk k (by rw [hlk, if_neg (hne k hk')]; exact hk')
            simpa only [if_neg (hne k hk')] using this

theorem openL_mem' {own : Bool} : ∀ {cs : List C} {κ k : Nat} {d : Bool} {ty sz : Nat} {es : List (List C)}, lk k (openL own κ cs).2 = some (.arr d ty sz es) → ∃ tag, C.sl (some tag) sz es ∈ cs
  | [], κ, k, d, ty, sz, es, h => by simp [openL, lk] at h
  | c :: cs, κ, k, d, ty, sz, es, h => by
    simp only [openL, lk_append] at h
    cases hq : lk k (openC own κ c).2 with
    | some b =>
      simp only [hq, Option.some_or, Option.some.injEq] at h
      subst h
      unfold openC at hq
      split at hq
      · simp only [lk] at hq
        split at hq
        · simp only [Option.some.injEq, Blk.arr.injEq] at hq
          obtain ⟨_, _, rfl, rfl⟩ := hq
          exact ⟨_, List.mem_cons_self⟩
        · cases hq
      · simp [lk] at hq
    | none =>
      simp only [hq, Option.none_or] at h
      obtain ⟨tag, ht⟩ := openL_mem' h
      exact ⟨tag, by simp [ht]⟩
theorem openL_mem {own : Bool} {rs : List Dat} {κ k : Nat} {d : Bool} {ty sz : Nat} {es : List (List C)} (h : lk k (resM own κ rs) = some (.arr d ty sz es)) : ∃ d ∈ rs, ∃ tag, C.sl (some tag) sz es ∈ d.2 := by
  obtain ⟨tag, ht⟩ := openL_mem' h
  obtain ⟨d, hd, hm⟩ := List.mem_flatMap.1 ht
  exact ⟨d, hd, tag, hm⟩
/-- Behind a call that has returned: the new keys. -/
theorem Rel.opened (hr : Rel fr st a W ν F) {own : Bool} {rs : List Dat} {κ : Nat} {v : Value} (hB : Bel W.heap.size W W') {okc : Nat → Prop} (hres : ResRz W' okc W.heap.size own rs v)
    (hokc : own = false → ∀ b, okc b → okOf fr W st.h ν b) (hκ : ∀ k, (lk k (resM own κ rs)).isSome = true → st.h k = none) {dst : Option Nat} {supp : List Nat} (hd : ∀ d, dst = some d → d < fr.N) :
    RelE fr (app st dst ⟨resT own κ rs, supp, resM own κ rs⟩) (a.put dst v) W' := by
  obtain ⟨vs, fp, rfl, hds, hnd, htidy⟩ := hres
  obtain ⟨us, hcs, hshp⟩ := Dats.flat hds
  have hfp : ∀ b ∈ fp, W.heap.size ≤ b ∧ b < W'.heap.size := Cs.rz_fp _ _ _ hcs
  obtain ⟨ν1, F1, b1, b2, b3, b4, b5⟩ := open_rz (own := own) κ hcs hnd
  let M := resM own κ rs
  let ν' : Nat → Value := fun k => if (lk k M).isSome = true then ν1 k else ν k
  let F' : Nat → List Nat := fun k => if (lk k M).isSome = true then F1 k else F k
  have hν1 : ∀ k, (lk k M).isSome = true → ν' k = ν1 k := fun k hk => if_pos hk
  have hF1 : ∀ k, (lk k M).isSome = true → F' k = F1 k := fun k hk => if_pos hk
  have hν : ∀ k, (st.h k).isSome = true → ν' k = ν k := fun k hk => if_neg (fun h => by simp [hκ k h] at hk)
  have top1 : ∀ k, (lk k M).isSome = true → topOf (mrg st.h M) ν' k = (ν1 k).ownBlock := fun k hk => by
    obtain ⟨_, ty, sz, es, xs, h1, h2, h3, _⟩ := b1 k hk
    have h1' : lk k M = some (.arr own ty sz es) := h1
    simp [topOf, mrg, h1', topB, hν1 k hk]
  have mem1 : ∀ k b, (lk k M).isSome = true → (topOf (mrg st.h M) ν' k = some b ∨ b ∈ F' k) → b ∈ (ν1 k).ownBlock.toList ++ F1 k := fun k b hk hb => by
    rcases hb with hb | hb
    · rw [top1 k hk] at hb; simp [hb]
    · rw [hF1 k hk] at hb; simp [hb]
  have hc : Chg W W' [] := .of_below hB
  have new : ∀ k b, (lk k M).isSome = true → (topOf (mrg st.h M) ν' k = some b ∨ b ∈ F' k) → W.heap.size ≤ b := fun k b hk hb => (hfp b (b2 k b hk (mem1 k b hk hb))).1
  have hok := hr.ok_move (M := M) (ν' := ν') (F' := F') hc (by simp) hν (fun k b hk hb => .inl (new k b hk hb)) (fun k b hk hb => .inl (new k b hk (.inl hb)))
  have hokr : ∀ b, okRes own okc W.heap.size W' fp b → okOf fr W' (mrg st.h M) ν' b := by
    rintro b ⟨ho, hor, hlt, hnf⟩
    rcases hor with hor | hor
    · exact (hok b (hokc ho b hor)).1
    · refine ⟨.inr (.inl (Nat.le_trans hr.below.size hor)), hlt, fun k hk => ?_⟩
      by_cases hM : (lk k M).isSome = true
      · exact hnf (b2 k b hM (mem1 k b hM (.inl hk)))
      · have hl : lk k M = none := by simpa using hM
        have : topOf st.h ν k = some b := by rw [topOf, mrg_none hl, topB_congr _ (fun hs => hν k hs)] at hk; exact hk
        have := (hr.top_lt this).2; omega
  refine ⟨ν', F', hr.step (M := M) (X := []) hc (by simp) hν ?_ (fun k b hk hb => .inl (new k b hk (.inl hb))) (fun k b hk hb => .inl (new k b hk (.inr hb))) ?_ ?_ ?_ ?_ ?_ ?_ hd⟩
  · intro k hk; exact if_neg (by simp [hk])
  · intro k k' b hne hk hk' hb hb'
    exact b4 k k' b hne hk hk' (mem1 k b hk (.inl hb)) (mem1 k' b hk' (.inl hb'))
  · intro k k' b hk hk' hb hb'
    by_cases hkk : k = k'
    · subst hkk
      have := b3 k hk
      rw [List.nodup_append] at this
      rw [top1 k hk] at hb'
      rw [hF1 k hk] at hb
      exact this.2.2 b (by simp [hb']) b hb rfl
    · exact b4 k k' b hkk hk hk' (mem1 k b hk (.inr hb)) (mem1 k' b hk' (.inl hb'))
  · intro k hk
    have := b3 k hk
    rw [List.nodup_append] at this
    rw [hF1 k hk]; exact this.2.1
  · intro k k' b hne hk hk' hb hb'
    exact b4 k k' b hne hk hk' (mem1 k b hk (.inr hb)) (mem1 k' b hk' (.inr hb'))
  · intro k blk hk
    have hs : (lk k M).isSome = true := by rw [hk]; rfl
    obtain ⟨_, ty, sz, es, xs, h1, h2, h3, _⟩ := b1 k hs
    have h1' : lk k M = some (.arr own ty sz es) := h1
    rw [h1', Option.some.injEq] at hk
    subst hk
    have h2' := ownsRow_base h2 (Nat.zero_le _)
    cases own with
    | true =>
      simp only [Blk.rz, hν1 k hs, hF1 k hs]
      exact ⟨xs, h2', Es.rz_move (W' := W') (fun b hb => by simp [okRes] at hb) (Nat.zero_le _) sz es xs _ (fun _ _ => rfl) h3⟩
    | false =>
      simp only [Blk.rz, hν1 k hs, hF1 k hs]
      have hF0 : F1 k = [] := by
        obtain ⟨d, hd1, tag, hd2⟩ := openL_mem h1'
        have := htidy rfl d hd1 tag sz es hd2
        rw [← this] at h3
        exact Es.rz_strip_nil es xs _ h3
      rw [hF0] at h3 ⊢
      exact ⟨xs, h2', Es.rz_move (W' := W') (fun b hb => ⟨hokr b hb, rfl⟩) (Nat.zero_le _) sz es xs [] (by simp) h3, rfl⟩
  · have h1 := Cs.rz_one _ _ _ hcs
    exact oneT_rz (shpT_rz hshp (b5 fr ν' (mrg st.h M) _ hokr (fun k hk => ⟨hν1 k hk, by simp [mrg]; split <;> simp_all [M, resM]⟩)) h1)
end
end Go.Vm

namespace Go.Vm
open Go Go.RowKit

section
variable {fr : Fr} {st st' : St} {a : Act} {W W' : World} {ν ν' : Nat → Value} {F F' : Nat → List Nat} {o : Oper} {e : Eff} {L : Nat → Option TyI}
  {ok ok' ok2 : Nat → Prop} {h : Nat → Option Blk} {B B' : Nat} {P : Program}

/-- What the callee may look at: what is shared, and what the keys ks hold. -/
def okc (fr : Fr) (W : World) (h : Nat → Option Blk) (ν : Nat → Value) (F : Nat → List Nat) (ks : List Nat) : Nat → Prop := fun b => okOf fr W h ν b ∨ ∃ k ∈ ks, b ∈ ownK ν F h k

theorem Arg.rz_mono {g : Arg} {v : Value} (hok : ∀ b, ok b → ok' b) (hr : g.rz P W ok v) : g.rz P W ok' v := by
  cases g with
  | d x => exact Dat.rz_move (fun b hb => ⟨hok b hb, rfl⟩) (Nat.le_refl _) (by simp) hr
  | pv xs =>
    obtain ⟨b, o, us, h1, h2, h3, h4⟩ := hr
    exact ⟨b, o, us, h1, hok b h2, Cs.rz_move (fun b hb => ⟨hok b hb, rfl⟩) (Nat.le_refl _) _ _ [] (by simp) h3, h4⟩
  | fn sem => exact hr
theorem FnRz.below {W0 : World} {X Y : Nat → Prop} {sem : List Dat → List Dat → Prop} {v : Value} (hB : BelowX X W0 W) (hY : ∀ b, Y b → W0.heap.size ≤ b ∨ X b) (hr : FnRz P W0 X sem v) : FnRz P W Y sem v := by
  obtain ⟨f, caps, hv, h⟩ := hr
  exact ⟨f, caps, hv, fun W' hb ok ds vs rs => h W' ⟨hb.os.trans hB.os, hb.tape.trans hB.tape, hb.output.trans hB.output, Nat.le_trans hB.size hb.size, Nat.le_trans hB.drawn hb.drawn, fun b hlt hx =>
    (hb.block b (Nat.lt_of_lt_of_le hlt hB.size) fun hy => by rcases hY b hy with h1 | h1; omega; exact hx h1).trans (hB.block b hlt hx)⟩ ok ds vs rs⟩
theorem Arg.rz_below {g : Arg} {v : Value} (hB : Bel W.heap.size W W') (hlt : ∀ b, ok b → b < W.heap.size) (hr : g.rz P W ok v) : g.rz P W' ok v := by
  have mv : ∀ b, ok b → ok b ∧ W'.heap[b]? = W.heap[b]? := fun b hb => ⟨hb, hB.block b (hlt b hb)⟩
  cases g with
  | d x => exact Dat.rz_move mv (Nat.le_refl _) (by simp) hr
  | pv xs =>
    obtain ⟨b, o, us, h1, h2, h3, h4⟩ := hr
    exact ⟨b, o, us, h1, h2, Cs.rz_move mv (Nat.le_refl _) _ _ [] (by simp) h3, fun i u hu => by rw [cell_of_block (mv b h2).2]; exact h4 i u hu⟩
  | fn sem => exact FnRz.below (.of hB) (fun b hb => hb.elim) hr
theorem Args.rz_map {f : Arg → Value → Prop} {as' : List Arg} {vs : List Value} (hf : ∀ (g : Arg) (v : Value), g.rz P W ok v → g.rz P W' ok' v) : Args.rz P W ok as' vs → Args.rz P W' ok' as' vs := by
  induction as' generalizing vs with
  | nil => exact fun h => h
  | cons g gs ih =>
    rintro ⟨v, vs', rfl, h1, h2⟩
    exact ⟨v, vs', rfl, hf g v h1, ih h2⟩
theorem Args.rz_append {as' bs : List Arg} {vs ws : List Value} (h1 : Args.rz P W ok as' vs) (h2 : Args.rz P W ok bs ws) : Args.rz P W ok (as' ++ bs) (vs ++ ws) := by
  induction as' generalizing vs with
  | nil => simp only [Args.rz] at h1; subst h1; exact h2
  | cons g gs ih =>
    obtain ⟨v, vs', rfl, h3, h4⟩ := h1
    exact ⟨v, _, rfl, h3, ih h4⟩
theorem Args.of_Dats : ∀ {ds : List Dat} {vs : List Value} {fp : List Nat}, fp = [] → Dats.rz W ok 0 ds vs fp → Args.rz P W ok (ds.map .d) vs
  | [], vs, fp, hf, h => by simp only [Dats.rz] at h; rw [h.1]; rfl
  | d :: ds, vs, fp, hf, h => by
    simp only [Dats.rz] at h
    obtain ⟨v, vs', f1, f2, rfl, rfl, h1, h2⟩ := h
    obtain ⟨rfl, rfl⟩ : f1 = [] ∧ f2 = [] := by simpa using hf
    exact ⟨v, vs', rfl, h1, Args.of_Dats rfl h2⟩

/-- What a slot gives as an argument; ks: the keys that the callee may look into. -/
def ArgR (fr : Fr) (st : St) (t : T) (g : Arg) (ks : List Nat) : Prop :=
  ∀ (st' : St) (a : Act) (W : World) (ν : Nat → Value) (F : Nat → List Nat) (v : Value), (∀ κ ∈ ks, st'.h κ = st.h κ) → Rel fr st' a W ν F → T.rz fr W (okOf fr W st'.h ν) ν st'.h t v →
    g.rz fr.P W (okc fr W st'.h ν F ks) v
inductive ArgsR (fr : Fr) (st : St) : List T → List Arg → List Nat → Prop
  | nil : ArgsR fr st [] [] []
  | cons {t : T} {ts : List T} {g : Arg} {gs : List Arg} {k ks : List Nat} : ArgR fr st t g k → ArgsR fr st ts gs ks → ArgsR fr st (t :: ts) (g :: gs) (k ++ ks)
theorem okc_mono {ks ks' : List Nat} (hk : ∀ k ∈ ks, k ∈ ks') {b : Nat} (hb : okc fr W h ν F ks b) : okc fr W h ν F ks' b :=
  hb.imp id fun ⟨k, h1, h2⟩ => ⟨k, hk k h1, h2⟩
theorem ArgsR.rz {ts : List T} {gs : List Arg} {ks : List Nat} (hg : ArgsR fr st ts gs ks) : ∀ {vs : List Value}, (∀ κ ∈ ks, st'.h κ = st.h κ) → Rel fr st' a W ν F → Ts.rz fr W (okOf fr W st'.h ν) ν st'.h ts vs →
    Args.rz fr.P W (okc fr W st'.h ν F ks) gs vs := by
  induction hg with
  | nil => intro vs _ _ hv; simp only [Ts.rz] at hv; exact hv
  | cons h1 h2 ih =>
    intro vs hk hr hv
    simp only [Ts.rz] at hv
    obtain ⟨v, vs', rfl, h3, h4⟩ := hv
    exact ⟨v, vs', rfl, Arg.rz_mono (fun b hb => okc_mono (fun k hk => by simp [hk]) hb) (h1 _ _ _ _ _ _ (fun κ hκ => hk κ (by simp [hκ])) hr h3),
      Args.rz_map (f := fun _ _ => True) (fun g v hg => Arg.rz_mono (fun b hb => okc_mono (fun k hk => by simp [hk]) hb) hg) (ih (fun κ hκ => hk κ (by simp [hκ])) hr h4)⟩

theorem absL_ks_sub {deep : Bool} : ∀ {ts : List T} {cts : List (Nat × Nat)} {cs : List C} {ks : List Nat}, absL h deep cts ts = some (cs, ks) → ∀ k ∈ ks, k ∈ ts.flatMap keysT := by
  intro ts
  induction ts with
  | nil => intro cts cs ks ha; simp [(absL_nil ha).2]
  | cons t ts ih =>
    intro cts cs ks ha
    obtain ⟨c, k, cs', ks', h1, h2, rfl, rfl⟩ := absL_cons ha
    intro x hx
    rcases List.mem_append.1 hx with hx | hx
    · rw [List.flatMap_cons]
      apply List.mem_append_left
      cases t with
      | ref κ =>
        simp only [absC] at h1
        split at h1
        · split at h1
          · split at h1 <;> simp at h1; obtain ⟨_, rfl⟩ := h1; simpa [keysT] using hx
          · simp at h1; obtain ⟨_, rfl⟩ := h1; simpa [keysT] using hx
        · split at h1 <;> simp at h1; obtain ⟨_, rfl⟩ := h1; simp at hx
        · simp at h1
      | c x => cases x with
        | sl tag sz es => cases tag <;> simp [absC] at h1; obtain ⟨_, _, rfl⟩ := h1; simp at hx
        | val x => simp [absC] at h1; obtain ⟨_, _, rfl⟩ := h1; simp at hx
        | _ => simp [absC] at h1; obtain ⟨_, rfl⟩ := h1; simp at hx
      | nilS => simp [absC] at h1; obtain ⟨_, rfl⟩ := h1; simp at hx
      | ca x => cases x with
        | sl tag sz es => cases tag <;> simp [absC] at h1; obtain ⟨_, _, rfl⟩ := h1; simp at hx
        | _ => simp [absC] at h1
      | _ => simp [absC] at h1
    · rw [List.flatMap_cons]; exact List.mem_append_right _ (ih h2 x hx)

/-! what kinds of slots give what arguments -/
theorem argR_agg {xs : List T} {cts : List (Nat × Nat)} {cs : List C} {ks : List Nat} (ha : absL st.h false cts xs = some (cs, ks)) : ArgR fr st (.agg xs) (.d (true, cs)) (xs.flatMap keysT) := by
  intro st' a W ν F v hk hr hv
  have ha' : absL st'.h false cts xs = some (cs, ks) := by rw [absL_agree hk]; exact ha
  simp only [T.rz] at hv
  obtain ⟨us, rfl, h1, h2⟩ := hv
  refine ⟨us, ?_, by simp⟩
  exact Cs.rz_base _ _ (Cs.rz_move (W' := W) (fun b hb => ⟨okc_mono (absL_ks_sub ha) hb, rfl⟩) (Nat.le_refl _) _ _ [] (by simp) (absL_flat hr ha' h2))
theorem argR_one {t : T} {ct : Nat × Nat} {c : C} {ks : List Nat} (ha : absC st.h false ct t = some (c, ks)) : ArgR fr st t (.d (false, [c])) (keysT t) := by
  intro st' a W ν F v hk hr hv
  have hL : absL st'.h false [ct] [t] = some ([c], ks ++ []) := by
    have := absC_agree (st := st) (st' := st') (deep := false) (ct := ct) (t := t) hk
    simp only [absL, List.headD_cons, this, ha]
  refine ⟨[v], ?_, by simp⟩
  exact Cs.rz_base _ _ (Cs.rz_move (W' := W) (fun b hb => ⟨okc_mono (fun k hk => by simpa using absL_ks_sub hL k hk) hb, rfl⟩) (Nat.le_refl _) _ _ [] (by simp)
    (absL_flat hr hL (by simp only [Ts.rz]; exact ⟨v, [], rfl, hv, rfl⟩)))
theorem argR_pv {xs : List C} (n : Nat) : ArgR fr st (.pv xs) (.pv (xs.take n)) [] := by
  intro st' a W ν F v hk hr hv
  simp only [T.rz] at hv
  obtain ⟨b, p, us, rfl, h1, h2, h3⟩ := hv
  refine ⟨b, p, us.take n, rfl, .inl h1, Cs.rz_take n _ _ (Cs.rz_move (W' := W) (fun b hb => ⟨.inl hb, rfl⟩) (Nat.le_refl _) _ _ [] (by simp) h2), fun i u hu => h3 i u ?_⟩
  rw [List.getElem?_take] at hu; split at hu <;> simp_all
theorem argR_ptr {κ off n : Nat} {xs : List T} {cts : List (Nat × Nat)} {cs : List C} {ks : List Nat} (hb : st.h κ = some (.box xs)) (ha : absL st.h false cts ((xs.drop off).take n) = some (cs, ks)) :
    ArgR fr st (.ptr κ off) (.pv cs) (κ :: ((xs.drop off).take n).flatMap keysT) := by
  intro st' a W ν F v hk hr hv
  have hb' : st'.h κ = some (.box xs) := by rw [hk κ (by simp)]; exact hb
  have ha' : absL st'.h false cts ((xs.drop off).take n) = some (cs, ks) := by rw [absL_agree (fun k hkk => hk k (List.mem_cons_of_mem _ hkk))]; exact ha
  obtain ⟨b, us, ty, rfl, hνκ, hB, hh, hts, h1c, hF⟩ := hr.ptr_box hb' hv
  have htop : topOf st'.h ν κ = some b := by simp [topOf, hb', topB, hνκ]
  refine ⟨b, off, (us.drop off).take n, rfl, .inr ⟨κ, by simp, by simp [ownK, htop]⟩, ?_, fun i u hu => ?_⟩
  · exact Cs.rz_base _ _ (Cs.rz_move (W' := W) (fun b hb => ⟨okc_mono (fun k hk => List.mem_cons_of_mem _ (absL_ks_sub ha k hk)) hb, rfl⟩) (Nat.le_refl _) _ _ [] (by simp) (absL_flat hr ha' (Ts.rz_take n _ _ (Ts.rz_drop off _ _ hts))))
  · rw [cell_of_row W b _ _ _ _ hh]
    rw [List.getElem?_take] at hu
    split at hu
    · rw [List.getElem?_drop] at hu; simpa using hu
    · cases hu
theorem argR_ep {κ sz i off n : Nat} {d : Bool} {ty : Nat} {es : List (List C)} {e : List C} (hb : st.h κ = some (.arr d ty sz es)) (he : es[i]? = some e) : ArgR fr st (.ep κ sz i off) (.pv (((Cs.strip e).drop off).take n)) [κ] := by
  intro st' a W ν F v hk hr hv
  have hb' : st'.h κ = some (.arr d ty sz es) := by rw [hk κ (by simp)]; exact hb
  obtain ⟨xs, h1, h2, h3⟩ := hr.arr_own hb'
  simp only [T.rz] at hv
  obtain ⟨_, b, m, c, hνκ, rfl⟩ := hv
  have htop : topOf st'.h ν κ = some b := by rw [h3, hνκ]; rfl
  have key : ∃ ok', Es.rz W ok' fr.B sz es xs (F κ) ∧ ∀ b, ok' b → okOf fr W st'.h ν b := by
    cases d with
    | true => simp only [if_true] at h2; exact ⟨_, h2, fun _ h => h.elim⟩
    | false => simp only [Bool.false_eq_true, if_false] at h2; rw [h2.2]; exact ⟨_, h2.1, fun _ h => h⟩
  obtain ⟨ok', hes, hok'⟩ := key
  obtain ⟨ys, gs, hy, hl, hgs, hi⟩ := Es.rz_get es xs (F κ) i e hes he
  refine ⟨b, i * sz + off, (ys.drop off).take n, rfl, .inr ⟨κ, by simp, by simp [ownK, htop]⟩, ?_, fun j u hu => ?_⟩
  · refine Cs.rz_take n _ _ (Cs.rz_drop off _ _ (Cs.rz_strip e ys gs (fun b hb => .inr ⟨κ, by simp, by simp [ownK, hgs b hb]⟩) (Cs.rz_move (W' := W) (fun b hb => ⟨.inl (hok' b hb), rfl⟩) (Nat.le_refl _) e ys gs (fun _ _ => rfl) hy)))
  · rw [List.getElem?_take] at hu
    split at hu
    · rw [List.getElem?_drop] at hu
      have := h1.cells (g := b) (by rw [hνκ]; rfl) _ u (hi _ u hu)
      rw [add_plain] at this
      rw [show i * sz + off + j = 0 + (i * sz + (off + j)) by omega]; exact this
    · cases hu
theorem argR_fn {sem : List Dat → List Dat → Prop} : ArgR fr st (.fn sem) (.fn sem) [] := by
  intro st' a W ν F v hk hr hv
  simp only [T.rz] at hv
  exact FnRz.below hr.below (fun b hb => hb.elim) hv
theorem Rel.okc_lt (hr : Rel fr st a W ν F) {ks : List Nat} {b : Nat} (hb : okc fr W st.h ν F ks b) : b < W.heap.size := by
  rcases hb with hb | ⟨k, _, hb⟩
  · exact hb.2.1
  · exact (hr.ownK_lt hb).2
theorem argR_clo {f : Nat} {caps : List T} {gs : List Arg} {ks : List Nat} {sem : List Dat → List Dat → Prop} (hc : ArgsR fr st caps gs ks) (hs : ∀ ds rs, sem ds rs → Sat fr.P f (ds.map .d ++ gs) true rs) :
    ArgR fr st (.clo f caps) (.fn sem) ks := by
  intro st' a W ν F v hk hr hv
  simp only [T.rz] at hv
  obtain ⟨us, rfl, hts⟩ := hv
  have hargs := hc.rz hk hr hts
  refine ⟨f, us.toArray, rfl, fun W' hB ok ds vs rs hsem hds hlt => ⟨(hs ds rs hsem).1, ?_⟩⟩
  have hcaps := Args.rz_map (W' := W') (ok' := fun b => ok b ∨ okc fr W st'.h ν F ks b) (f := fun _ _ => True) (fun g v hg => Arg.rz_mono (fun b hb => Or.inr hb) (Arg.rz_below (hB.to (by simp)) (fun b hb => hr.okc_lt hb) hg)) hargs
  have hds2 := Args.rz_map (P := fr.P) (W' := W') (ok' := fun b => ok b ∨ okc fr W st'.h ν F ks b) (f := fun _ _ => True) (fun g v hg => Arg.rz_mono (fun b hb => Or.inl hb) hg) (Args.of_Dats rfl hds)
  have := (hs ds rs hsem).2 W' (fun b => ok b ∨ okc fr W st'.h ν F ks b) (vs ++ us) (fun b hb => by
    rcases hb with hb | hb
    · exact hlt b hb
    · exact Nat.lt_of_lt_of_le (hr.okc_lt hb) hB.size) (Args.rz_append hds2 hcaps)
  rw [show (vs ++ us).toArray = vs.toArray ++ us.toArray by simp] at this
  refine this.mono fun e W'' ⟨h1, v, h2, vs2, fp, h3, h4, h5⟩ => ⟨h1, v, h2, vs2, fp, h3, ?_, h5⟩
  exact Dats.rz_move (W' := W'') (fun b hb => by simp [okRes] at hb) (Nat.le_refl _) _ _ _ (fun _ _ => rfl) h4

/-! ### the steps -/
theorem run_enter {f : Nat} {args : Array Value} (hf : FnOk P f) : (callFunc f args).run P W = .ok (.enter f args) W := by
  obtain ⟨fn, h1, h2, h3⟩ := hf
  have h4 : fn.body.isNone = false := by cases hb : fn.body <;> simp_all
  simp only [callFunc, Sem.run_bind, run_program, Result.andThen_ok, h1, h3, h4, Bool.false_eq_true, if_false, Sem.run_pure]
theorem wp_call {x : Operand} {args : Array Operand} {ats : Array Nat} {f : Nat} {caps : Array Value} {R : Ending → World → Prop} {K : Act → World → Prop} {Q : Exit → Act → World → Prop} (ho : o.op = .call { callee := .value x, args := args, argTypes := ats })
    (hx : a.eval x = .func (.func f) #[] caps) (hf : FnOk P f) (hc : Calls P f (args.map a.eval ++ caps) W fun e W' => ∃ v, e = .returned v ∧ K (a.put o.dst v) W') : o.wp P a W K Q := by
  unfold Oper.wp
  have : (execOp a.eval o).run P W = .ok (.enter f (args.map a.eval ++ caps)) W := by
    simp [execOp, ho, resolve, hx, Deferred.ofValue, invoke, run_enter hf]
  rw [this, Oper.upon_enter]
  refine hc.mono fun e W' ⟨v, h1, h2⟩ => ?_
  subst h1
  exact h2

theorem step_call {x : Operand} {args : Array Operand} {ats : Array Nat} {f κ : Nat} {caps : List T} {gs gc : List Arg} {ks kc : List Nat} {own : Bool} {rs : List Dat} (ho : o.op = .call { callee := .value x, args := args, argTypes := ats })
    (hx : opd st.s x = .clo f caps) (hg : ArgsR fr st (args.toList.map (opd st.s)) gs ks) (hc : ArgsR fr st caps gc kc) (hs : Sat fr.P f (gs ++ gc) own rs) (hown : own = false → ks = [] ∧ kc = [])
    (hκ : ∀ k, (lk k (resM own κ rs)).isSome = true → st.h k = none) (hd : ∀ d, o.dst = some d → d < fr.N) : StepO fr o st ⟨resT own κ rs, ks ++ kc, resM own κ rs⟩ := by
  intro Q st' a W K e1 e2 ⟨ν, F, hr⟩ hK
  have eo : ∀ y, y ∈ o.op.operands.toList → Vm.opd st'.s y = Vm.opd st.s y := fun y hy => opd_agree e1 hy
  have ex := eo x (by simp [ho, Op.operands, Call.operands])
  have hm : args.toList.map (opd st'.s) = args.toList.map (opd st.s) := List.map_congr_left fun y hy => eo y (by simp only [ho, Op.operands, Call.operands]; simp at hy; simp [hy])
  have hv := hr.opd x
  rw [ex, hx] at hv
  simp only [T.rz] at hv
  obtain ⟨us, hv, hcaps⟩ := hv
  have hvs : Ts.rz fr W (okOf fr W st'.h ν) ν st'.h (args.toList.map (opd st.s)) (args.toList.map a.eval) := by
    rw [← hm]
    have : ∀ l : List Operand, Ts.rz fr W (okOf fr W st'.h ν) ν st'.h (l.map (Vm.opd st'.s)) (l.map a.eval) := by
      intro l; induction l with
      | nil => simp [Ts.rz]
      | cons y l ih => simp only [List.map_cons, Ts.rz]; exact ⟨_, _, rfl, hr.opd y, ih⟩
    exact this _
  have h1 := hg.rz (st' := st') (fun k hk => e2 k (.inl (List.mem_append_left _ hk))) hr hvs
  have h2 := hc.rz (st' := st') (fun k hk => e2 k (.inl (List.mem_append_right _ hk))) hr hcaps
  have h3 := Args.rz_append (Args.rz_map (f := fun _ _ => True) (ok' := okc fr W st'.h ν F (ks ++ kc)) (W' := W) (fun g v hg => Arg.rz_mono (fun b hb => okc_mono (fun k hk => by simp [hk]) hb) hg) h1)
    (Args.rz_map (f := fun _ _ => True) (ok' := okc fr W st'.h ν F (ks ++ kc)) (W' := W) (fun g v hg => Arg.rz_mono (fun b hb => okc_mono (fun k hk => by simp [hk]) hb) hg) h2)
  refine wp_call (R := fun _ _ => True) ho hv hs.1 ?_
  have h4 := hs.2 W _ _ (fun b hb => hr.okc_lt hb) h3
  rw [show (args.map a.eval ++ us.toArray) = (args.toList.map a.eval ++ us).toArray by apply Array.ext'; simp]
  refine h4.mono fun e W' ⟨hB, v, he, hres⟩ => ⟨v, he, hK v W' ?_⟩
  refine hr.opened hB hres (fun ho b hb => ?_) (fun k hk => by rw [e2 k (.inr hk)]; exact hκ k hk) hd
  obtain ⟨rfl, rfl⟩ := hown ho
  rcases hb with hb | ⟨k, hk, _⟩
  · exact hb
  · simp at hk

theorem step_callFn {x : Operand} {args : Array Operand} {ats : Array Nat} {κ : Nat} {sem : List Dat → List Dat → Prop} {ds : List Dat} {ks : List Nat} {rs : List Dat} (ho : o.op = .call { callee := .value x, args := args, argTypes := ats })
    (hx : opd st.s x = .fn sem) (hg : ArgsR fr st (args.toList.map (opd st.s)) (ds.map .d) ks) (hs : sem ds rs)
    (hκ : ∀ k, (lk k (resM true κ rs)).isSome = true → st.h k = none) (hd : ∀ d, o.dst = some d → d < fr.N) : StepO fr o st ⟨resT true κ rs, ks, resM true κ rs⟩ := by
  intro Q st' a W K e1 e2 ⟨ν, F, hr⟩ hK
  have eo : ∀ y, y ∈ o.op.operands.toList → Vm.opd st'.s y = Vm.opd st.s y := fun y hy => opd_agree e1 hy
  have ex := eo x (by simp [ho, Op.operands, Call.operands])
  have hm : args.toList.map (opd st'.s) = args.toList.map (opd st.s) := List.map_congr_left fun y hy => eo y (by simp only [ho, Op.operands, Call.operands]; simp at hy; simp [hy])
  have hv := hr.opd x
  rw [ex, hx] at hv
  simp only [T.rz] at hv
  obtain ⟨f, caps, hv, hfn⟩ := hv
  have hvs : Ts.rz fr W (okOf fr W st'.h ν) ν st'.h (args.toList.map (opd st.s)) (args.toList.map a.eval) := by
    rw [← hm]
    have : ∀ l : List Operand, Ts.rz fr W (okOf fr W st'.h ν) ν st'.h (l.map (Vm.opd st'.s)) (l.map a.eval) := by
      intro l; induction l with
      | nil => simp [Ts.rz]
      | cons y l ih => simp only [List.map_cons, Ts.rz]; exact ⟨_, _, rfl, hr.opd y, ih⟩
    exact this _
  have h1 := hg.rz (st' := st') (fun k hk => e2 k (.inl hk)) hr hvs
  have toD : ∀ (ds : List Dat) (vs : List Value), Args.rz fr.P W (okc fr W st'.h ν F ks) (ds.map .d) vs → Dats.rz W (okc fr W st'.h ν F ks) 0 ds vs [] := by
    intro ds
    induction ds with
    | nil => intro vs h; simp only [List.map_nil, Args.rz] at h; simp [Dats.rz, h]
    | cons d ds ih =>
      intro vs h
      simp only [List.map_cons, Args.rz] at h
      obtain ⟨v, vs', rfl, h3, h4⟩ := h
      simp only [Dats.rz]
      exact ⟨v, vs', [], [], rfl, rfl, h3, ih vs' h4⟩
  obtain ⟨hf, hcall⟩ := hfn W hr.below _ ds _ rs hs (toD _ _ h1) (fun b hb => hr.okc_lt hb)
  refine wp_call (R := fun _ _ => True) ho hv hf ?_
  rw [show (args.map a.eval ++ caps) = ((args.toList.map a.eval).toArray ++ caps) by apply Array.ext'; simp]
  refine hcall.mono fun e W' ⟨hB, v, he, hres⟩ => ⟨v, he, hK v W' ?_⟩
  exact hr.opened hB hres (fun ho => by cases ho) (fun k hk => by rw [e2 k (.inr hk)]; exact hκ k hk) hd
end
end Go.Vm
