/- What functions of Go's library do to rows of structs, walked by the kit's own walk. No condition but those that each theorem states. -/
import Derived.Test.YtmpndkhnajogkaaRows
import Derived.Test.YtmpndkhnajogkaaVg
import Derived.WalkKit
import Derived.Deep.RegionLaw
import Derived.Lib.SliceRun
import Derived.Shelf.Spec.SlicesInsertGrow
open Go Go.Vm Go.Proofs Go.IntWalk Go.RowKit Go.Lib
set_option maxRecDepth 100000
set_option linter.unusedVariables false
set_option linter.unusedSimpArgs false
namespace Go.Proofs.Ytmpndkhnajogkaa.W
theorem info_two {P : Program} {e : TypeId} {z : Value} {size : Nat} (h : (P.info? e).map (fun i => (i.zero, i.size)) = some (some z, size)) : ∃ i, P.info? e = some i ∧ i.zero = some z ∧ i.size = size := by
  cases hq : P.info? e with
  | none => simp [hq] at h
  | some i => simp [hq] at h; exact ⟨i, rfl, h.1, h.2⟩
/-- Clearing the cells of n elements. -/
theorem run_clear_k {P : Program} (w : World) (t e ty : TypeId) (z : Value) (ht : P.underlying t = some (.slice e)) (hv : ∀ w, (zeroValue e).run P w = .ok z w) (b o n c : Nat) (zs : List Value) (hz : (Builtin.zeroCells z.cells n).toList = zs) (h1 : ∀ u ∈ zs, u.oneCell' = true) (hn : 0 < n)
    (hc : ∀ j, j < zs.length → (w.cell? ⟨b, o + j, none⟩).isSome = true) (hf : ∀ j, j < zs.length → w.frozen? ⟨b, o + j, none⟩ = false) :
    (Builtin.clear_ #[t] ty #[.slice (some ⟨b, o, none⟩) n c]).run P w = .ok (.tuple #[]) (w.setCells b o zs) := by
  have hst := run_storeCells_cells (P := P) b o zs 0 w (by simpa using hc) (by simpa using hf) h1
  simp only [Nat.add_zero] at hst
  obtain ⟨m, rfl⟩ : ∃ m, n = m + 1 := ⟨n - 1, by omega⟩
  simp [Builtin.clear_, run_underlying ht, hv, hz, hst]
theorem isSome_setCells' (b : Nat) (vs : List Value) (o : Nat) (w : World) (h : ∀ j, j < vs.length → (w.cell? ⟨b, o + j, none⟩).isSome = true) (k : Nat) (hk : (w.cell? ⟨b, k, none⟩).isSome = true) : ((w.setCells b o vs).cell? ⟨b, k, none⟩).isSome = true := by
  by_cases hin : o ≤ k ∧ k < o + vs.length
  · have := World.cell?_setCells_in b vs o w h (k - o) (by omega)
    rw [show o + (k - o) = k by omega] at this
    rw [this]; rfl
  · rw [World.cell?_setCells_out b vs o w ⟨b, k, none⟩ (fun _ _ => by simp only []; omega)]
    exact hk
/-- Copying elements of k cells. -/
theorem run_copy_k {P : Program} (w : World) (dT sT ty elem : TypeId) (k b o dLen dCap : Nat) (a : Addr) (sLen sCap : Nat) (cs : List Value)
    (hu : P.underlying dT = some (.slice elem)) (hs : (P.info? elem).map (·.size) = some k) (q : Nat) (hq : q = Nat.min sLen dLen) (hn : cs.length = q * k)
    (hsrc : ∀ j v, cs[j]? = some v → w.cell? (a.add j) = some v) (hc : ∀ j, j < cs.length → (w.cell? ⟨b, o + j, none⟩).isSome = true) (hf : ∀ j, j < cs.length → w.frozen? ⟨b, o + j, none⟩ = false) (h1 : ∀ v ∈ cs, v.oneCell' = true) :
    (Builtin.copy_ #[dT, sT] ty #[.slice (some ⟨b, o, none⟩) dLen dCap, .slice (some a) sLen sCap]).run P w = .ok (goInt q) (w.setCells b o cs) := by
  have hl := run_loadCells_list (P := P) w a cs hsrc
  have hst := run_storeCells_cells (P := P) b o cs 0 w (by simpa using hc) (by simpa using hf) h1
  subst hq
  cases hq : P.info? elem with
  | none => simp [hq] at hs
  | some i =>
    have hi : i.size = k := by simpa [hq] using hs
    simp [Builtin.copy_, run_underlying hu, Builtin.lenOf, Builtin.firstCells, sizeOf, typeInfo, hq, hi, ← hn, hl, hst]
theorem getE {cur : Array Value} {xs : List Value} {n : Nat} (hx : cur.toList.take n = xs) {q : Nat} {u : Value} (hu : xs[q]? = some u) : cur[q]? = some u := by
  rw [← hx, List.getElem?_take] at hu
  split at hu
  · rwa [Array.getElem?_toList] at hu
  · cases hu
theorem infoDelPair : (Try.prog.info? 105).map (fun i => (i.zero, i.size)) = some (some (.agg #[.int .i64 0, .slice none 0 0, .slice none 0 0]), 3) := by kernel_rfl
set_option maxHeartbeats 1600000 in
set_option maxRecDepth 1000000 in
theorem k_delPair_walk (b n cap i j : Nat) (hij : j = i + 1) (cs : List Value) (w : World) (hi : i < n) (hn : n ≤ cap) (hm : cap ≤ 9223372036854775807) (hl : cs.length = n * 3)
    (hc : ∀ j u, cs[j]? = some u → w.cell? ⟨b, 0 + j, none⟩ = some u) (hf : ∀ j, w.frozen? ⟨b, j, none⟩ = false) (h1 : ∀ u ∈ cs, u.oneCell' = true) :
    Calls Try.prog 262 #[.slice (some ⟨b, 0, none⟩) n cap, .int .i64 i, .int .i64 j] w fun e w' => e = .returned (.slice (some ⟨b, 0, none⟩) (i + (n - j)) cap) ∧
      w' = (w.drew.setCells b (0 + i * 3) (cs.drop (j * 3))).setCells b ((i + (n - j)) * 3) [.int .i64 0, .slice none 0 0, .slice none 0 0] := by
  obtain ⟨i0, hi0, hz0, hz1⟩ := info_two infoDelPair
  obtain ⟨news, hnw⟩ : ∃ news, news = cs.drop (j * 3) := ⟨_, rfl⟩
  have hnl : news.length = (n - j) * 3 := by rw [hnw, List.length_drop, hl, Nat.sub_mul]
  obtain ⟨A, hA, hnews⟩ : ∃ A : Addr, (if cap = j then some (⟨b, 0, none⟩ : Addr) else some ⟨b, j * 3, none⟩) = some A ∧ Hid (∀ j u, news[j]? = some u → w.drew.cell? (A.add j) = some u) := by
    by_cases h : cap = j
    · refine ⟨⟨b, 0, none⟩, by simp [h], fun q u hu => ?_⟩
      have h0 : news.length = 0 := by rw [hnl, show n - j = 0 by omega]
      rw [List.length_eq_zero_iff.1 h0] at hu
      simp at hu
    · refine ⟨⟨b, j * 3, none⟩, by simp [h], fun q u hu => ?_⟩
      rw [hnw, List.getElem?_drop] at hu
      rw [Addr.add_lit]
      have := hc _ u hu
      rw [Nat.zero_add] at this
      exact this
  have s1 : Hid (news.length = (n - j) * 3) := hnl
  have s2 : Hid (∀ u ∈ news, u.oneCell' = true) := fun u hu => h1 u (by rw [hnw] at hu; exact List.mem_of_mem_drop hu)
  have hsome : ∀ j, j < n * 3 → (w.cell? ⟨b, j, none⟩).isSome = true := fun j hj => by
    have hj' : j < cs.length := by omega
    have := hc j cs[j] (List.getElem?_eq_getElem hj')
    rw [Nat.zero_add] at this
    rw [this]; rfl
  have s3 : Hid (∀ q, q < news.length → (w.drew.cell? ⟨b, 0 + i * 3 + q, none⟩).isSome = true ∧ w.drew.frozen? ⟨b, 0 + i * 3 + q, none⟩ = false) := by
    intro q hq
    rw [hnl] at hq
    rw [Nat.zero_add]
    exact ⟨hsome _ (by omega), hf _⟩
  have hic : i ≤ cap := by omega
  have hjc : j ≤ cap := by omega
  have hjn : j ≤ n := by omega
  have hlt : i < j := by omega
  obtain ⟨W1, hW1⟩ : ∃ W1, W1 = w.drew.setCells b (0 + i * 3) news := ⟨_, rfl⟩
  have hcl : ∀ ty, (Builtin.clear_ #[37] ty #[.slice (some ⟨b, (i + (n - j)) * 3, none⟩) (n - (i + (n - j))) (cap - (i + (n - j)))]).run Try.prog W1 = .ok (.tuple #[]) (W1.setCells b ((i + (n - j)) * 3) [.int .i64 0, .slice none 0 0, .slice none 0 0]) :=
    fun ty => run_clear_k W1 37 105 ty _ Try.underlying37 Try.zeroValue105 b _ _ _ _ (by rw [show n - (i + (n - j)) = 1 by omega]; kernel_rfl) (by simp; exact ⟨rfl, rfl⟩) (by omega)
      (fun q hq => by
        rw [hW1]
        refine isSome_setCells' b _ _ _ (fun q hq => ?_) _ ?_
        · exact (s3.out q hq).1
        · exact hsome _ (by simp at hq; omega))
      (fun q hq => by rw [hW1, World.frozen?_setCells]; exact hf _)
  rw [← hnw]
  have hW : Hid (W1 = w.drew.setCells b (0 + i * 3) news) := hW1
  have hij' : Hid (j = i + 1) := hij
  rw [← hW1]
  clear hc hf hsome hnw hnl hW1 hij hl h1
  go_enter Try.func262, Try.ntmps262
  go_wp2_with fail
  go_region_law (refine step_append_room rfl (.tmp 22) (.tmp 25) 37 rfl 105 i0 3 Try.underlying37 hi0 hz1 b 0 i cap (by simp [Act.eval, Act.put]) A (n - j) (cap - j) news (by simp [Act.eval, Act.put]) s1.out hnews.out s2.out (by omega) s3.out ?_; rw [← hW.out])
  go_wp2
  go_ret
  exact ⟨rfl, rfl⟩
theorem k_deletePair (n i j : Nat) (hij : j = i + 1) (hi : i < n) : ∀ (W : World) (v : Value) (xs : List Value), W.ownsRow 0 105 3 v n xs → (∀ u ∈ xs, u.oneCell' = true) → Calls Try.prog 262 #[v, .int .i64 i, .int .i64 j] W fun e W' =>
    ∃ v', e = .returned v' ∧ W'.ownsRow 0 105 3 v' (n - 1) (xs.take (i * 3) ++ xs.drop (j * 3)) ∧ W.grownBy W' v.ownBlock ∧ v'.ownBlock = v.ownBlock ∧ W.drawn ≤ W'.drawn := by
  intro W v xs h h1
  have hxl := h.1
  rcases h.2 with ⟨_, h0⟩ | ⟨g, cap, cur, rfl, _, hg, hn, hm, hc, hx⟩
  · omega
  · refine (k_delPair_walk g n cap i j hij xs W hi hn (by unfold maxLen at hm; exact hm) hxl (fun q u hu => by rw [Nat.zero_add, cells_row hg]; exact getE hx hu) (frozen_zero hg) h1).mono ?_
    rintro e W' ⟨rfl, rfl⟩
    rw [Nat.zero_add]
    obtain ⟨r1, r2⟩ := row_delete (zs := [.int .i64 0, .slice none 0 0, .slice none 0 0]) hg hn hm hc hx hij hi rfl
    exact ⟨_, rfl, r1, r2, rfl, by rw [drawn_setCells, drawn_setCells]; exact Nat.le_succ _⟩
theorem infoInsPair : (Try.prog.info? 105).map (fun i => (i.zero, i.size)) = some (some (.agg #[.int .i64 0, .slice none 0 0, .slice none 0 0]), 3) := by kernel_rfl

set_option maxHeartbeats 4000000 in
set_option maxRecDepth 100000 in
theorem k_insPair_shift (b n c i vb m vc : Nat) (cs vs : List Value) (w : World) (hi : i < n) (hm : 0 < m) (hroom : n + m ≤ c) (hc63 : c ≤ 9223372036854775807) (hvb : vb ≠ b)
    (hcl : cs.length = n * 3) (hvl : vs.length = m * 3)
    (hcs : ∀ j v, cs[j]? = some v → w.cell? ⟨b, j, none⟩ = some v) (hsp : ∀ j, j < (n + m) * 3 → (w.cell? ⟨b, j, none⟩).isSome = true) (hfz : ∀ j, w.frozen? ⟨b, j, none⟩ = false)
    (hvs : ∀ j v, vs[j]? = some v → w.cell? ⟨vb, j, none⟩ = some v) (h1c : ∀ v ∈ cs, v.oneCell' = true) (h1v : ∀ v ∈ vs, v.oneCell' = true)
    (yA yB : TypeId) (kA kB : Nat) (hsa : w.shape? vb = some (yA, kA)) (hsb : w.shape? b = some (yB, kB)) (hkB : kB ≠ 0) (hfa : w.frozen? ⟨vb, 0, none⟩ = false) (hfe : w.frozen? ⟨vb, kA, none⟩ = false) :
    Calls Try.prog 260 #[.slice (some ⟨b, 0, none⟩) n c, .int .i64 i, .slice (some ⟨vb, 0, none⟩) m vc] w fun e w' =>
      e = .returned (.slice (some ⟨b, 0, none⟩) (n + m) c) ∧ w' = (w.drew.setCells b ((i + m) * 3) (cs.drop (i * 3))).setCells b (i * 3) vs := by
  have mixed : Try.prog.follows .mixedOrders = true := by kernel_rfl
  have hz1 : ¬ ((m : Int) = 0) := by omega
  have hz2 : ¬ ((i : Int) = (n : Int)) := by omega
  have hsz : (Try.prog.info? 105).map (·.size) = some 3 := by
    obtain ⟨i0, hi0, h0, h1⟩ := info_two infoInsPair
    rw [hi0]; simp [h1]
  have hov : ∀ lb cb, (callFunc 273 #[.slice (some ⟨vb, 0, none⟩) m vc, .slice (some ⟨b, (i + m) * 3, none⟩) lb cb]).run Try.prog w = .ok (.value (.bool false)) w := fun lb cb => by
    rw [run_callFunc_extern Try.func273 (by kernel_rfl) (by kernel_rfl) (by kernel_rfl) (e := Extern.SlicesOverlaps.overlaps #[37, 37] #[4]) (by kernel_rfl),
      Lib.run_overlaps_apart w 37 4 105 Try.underlying37 3 Try.sizeOf105 ⟨vb, 0, none⟩ ⟨b, (i + m) * 3, none⟩ m vc lb cb hvb yA yB kA kB hsa hsb hkB hfa hfe]
    rfl
  have hdl : (cs.drop (i * 3)).length = (n - i) * 3 := by rw [List.length_drop, hcl, Nat.sub_mul]
  have hw1 : IntKind.i64.wrap ((i : Int) + (m : Int)) = (i : Int) + (m : Int) := by rw [IntKind.wrap_i64]; omega
  have hb1 : (0 : Int) ≤ (i : Int) + (m : Int) := by omega
  have hin : i ≤ n := by omega
  have htn : ((i : Int) + (m : Int)).toNat = i + m := by omega
  have hb2 : ¬ (c = i + m) := by omega
  have hb3 : (i : Int) ≤ (n : Int) + (m : Int) := by omega
  have hb4 : ¬ (c = i) := by omega
  have hcp1 : ∀ ty dc sc, (Builtin.copy_ #[37, 37] ty #[.slice (some ⟨b, (i + m) * 3, none⟩) (n + m - (i + m)) dc, .slice (some ⟨b, i * 3, none⟩) (n + m - i) sc]).run Try.prog w.drew = .ok (goInt ((n - i : Nat) : Int)) (w.drew.setCells b ((i + m) * 3) (cs.drop (i * 3))) := fun ty dc sc =>
    run_copy_k w.drew _ _ ty 105 3 b ((i + m) * 3) (n + m - (i + m)) dc ⟨b, i * 3, none⟩ (n + m - i) sc (cs.drop (i * 3)) Try.underlying37 hsz (n - i) (by simp only [Nat.min_def]; split <;> omega) hdl
      (fun j v hj => by rw [Addr.add_lit]; exact hcs (i * 3 + j) v (by rwa [List.getElem?_drop] at hj))
      (fun j hj => by exact hsp _ (by omega)) (fun j hj => by exact hfz _) (fun v hv => h1c v (List.mem_of_mem_drop hv))
  obtain ⟨W1, hW1⟩ : ∃ W1, W1 = w.drew.setCells b ((i + m) * 3) (cs.drop (i * 3)) := ⟨_, rfl⟩
  have hsp1 : ∀ k, k < (n + m) * 3 → (W1.cell? ⟨b, k, none⟩).isSome = true := fun k hk => by
    rw [hW1]
    exact isSome_setCells' b _ _ _ (fun j hj => by exact hsp _ (by omega)) _ (hsp k hk)
  have hcp2 : ∀ (W : World), (∀ x, W.cell? x = W1.cell? x) → (∀ x, W.frozen? x = W1.frozen? x) → ∀ ty dc, (Builtin.copy_ #[37, 37] ty #[.slice (some ⟨b, i * 3, none⟩) (n + m - i) dc, .slice (some ⟨vb, 0, none⟩) m vc]).run Try.prog W = .ok (goInt (m : Int)) (W.setCells b (i * 3) vs) := fun W hWc hWf ty dc =>
    run_copy_k W _ _ ty 105 3 b (i * 3) (n + m - i) dc ⟨vb, 0, none⟩ m vc vs Try.underlying37 hsz m (by simp only [Nat.min_def]; split <;> omega) hvl
      (fun j v hj => by
        rw [Addr.add_lit, hWc, hW1, World.cell?_setCells_out b _ _ _ _ (fun h _ => absurd h hvb), Nat.zero_add]
        exact hvs j v hj)
      (fun j hj => by rw [hWc]; exact hsp1 _ (by omega)) (fun j hj => by rw [hWf, hW1, World.frozen?_setCells]; exact hfz _) h1v
  rw [← hW1] at hcp1
  go_enter Try.func260, Try.ntmps260
  go_wp2_with (simp only [hov])
  go_region_law_o (refine step_copy_runI rfl _ _ 37 37 rfl _ _ (by simp [Act.eval, Act.put]) (by simp [Act.eval, Act.put]) (hcp1 _ _ _) ?_)
  go_wp2_with (at_builtin; refine wpList_copy_runI _ rfl _ _ 37 37 rfl _ _ rfl rfl (hcp2 _ (fun _ => rfl) (fun _ => rfl) _ _) ?_)
  go_ret
  first | exact ⟨rfl, rfl⟩ | exact ⟨rfl, by rw [hW1]⟩
theorem infoInsPairB : (Try.prog.info? 105).map (fun i => (i.zero, i.size, i.bytes)) = some (some (.agg #[.int .i64 0, .slice none 0 0, .slice none 0 0]), 3, 56) := by kernel_rfl


set_option maxHeartbeats 4000000 in
set_option maxRecDepth 100000 in
theorem k_insPair_grow (b n c i vb m vc : Nat) (cs vs : List Value) (w : World) (hi : i < n) (hm : 0 < m) (hnc : n ≤ c) (hroom : c < n + m) (hbig : (n + m) * 56 ≤ 140737488355328)
    (hcl : cs.length = n * 3) (hvl : vs.length = m * 3)
    (hcs : ∀ j v, cs[j]? = some v → w.cell? ⟨b, j, none⟩ = some v)
    (hvs : ∀ j v, vs[j]? = some v → w.cell? ⟨vb, j, none⟩ = some v) (h1c : ∀ v ∈ cs, v.oneCell' = true) (h1v : ∀ v ∈ vs, v.oneCell' = true) (z : Value) (hzz : z = .agg #[.int .i64 0, .slice none 0 0, .slice none 0 0]) :
    Calls Try.prog 260 #[.slice (some ⟨b, 0, none⟩) n c, .int .i64 i, .slice (some ⟨vb, 0, none⟩) m vc] w fun e w' =>
      e = .returned (.slice (some ⟨w.heap.size, 0, none⟩) (n + m) (grownCap w (n + m) c 105)) ∧
      w' = (((w.alloc (.cells ((cs.take (i * 3)).toArray ++ Builtin.zeroCells z.cells (n + m - i) ++ Builtin.zeroCells z.cells (grownCap w (n + m) c 105 - (n + m))) 105)).drew.setCells w.heap.size (i * 3) vs).drew).setCells w.heap.size ((i + m) * 3) (cs.drop (i * 3)) := by
  have mixed : Try.prog.follows .mixedOrders = true := by kernel_rfl
  obtain ⟨i0, hi0, hz0, hzs, hzb⟩ := info_parts infoInsPairB
  rw [← hzz] at hz0
  have hzc : z.cells.size = 3 := by rw [hzz]; rfl
  clear hzz
  have hz1 : ¬ ((m : Int) = 0) := by omega
  have hz2 : ¬ ((i : Int) = (n : Int)) := by omega
  have hz3 : (c : Int) < (n : Int) + (m : Int) := by omega
  have hsz : (Try.prog.info? 105).map (·.size) = some 3 := by rw [hi0]; simp [hzs]
  have hbw : b < w.heap.size := block_lt_of_cell (hcs 0 _ (List.getElem?_eq_getElem (by omega)))
  have hvw : vb < w.heap.size := block_lt_of_cell (hvs 0 _ (List.getElem?_eq_getElem (by omega)))
  have hkk : (n : Int) + (m : Int) - (i : Int) = ((n + m - i : Nat) : Int) := by omega
  have hik : i + (n + m - i) = n + m := by omega
  have hold : (Builtin.firstCells i0.size i (.slice (some ⟨b, 0, none⟩) i c)).run Try.prog w.drew = .ok (cs.take (i * 3)).toArray w.drew := by
    rw [hzs]
    exact run_firstCells_some w.drew 3 i ⟨b, 0, none⟩ i c (cs.take (i * 3)) (by rw [List.length_take]; omega) (fun j v hj => by
      rw [Addr.add_lit, Nat.zero_add]
      rw [List.getElem?_take] at hj
      split at hj
      · exact hcs j v hj
      · cases hj)
  have hrz : ∀ ty, (Builtin.append_ #[37, 3] ty #[.slice (some ⟨b, 0, none⟩) i c, .int .i64 ((n : Int) + (m : Int) - (i : Int))]).run Try.prog w =
      .ok (.slice (some ⟨w.heap.size, 0, none⟩) (n + m) (grownCap w (n + m) c 105)) (w.drew.alloc (.cells ((cs.take (i * 3)).toArray ++ Builtin.zeroCells z.cells (n + m - i) ++ Builtin.zeroCells z.cells (grownCap w (n + m) c 105 - (n + m))) 105)) := fun ty => by
    have h := Lib.run_append_grow_zeros w 37 3 ty 105 i0 _ .i64 .i64 Try.underlying37 Try.underlying3 hi0 hz0 (some ⟨b, 0, none⟩) i c (cs.take (i * 3)) hold (n + m - i) (by omega) (by omega) (by omega) (by omega) (by rw [hzb]; omega) (by rw [hzb, hik]; exact growslice_fits hroom hbig)
    rw [hik] at h
    rw [hkk]
    exact h
  obtain ⟨G, hG⟩ : ∃ G, G = grownCap w (n + m) c 105 := ⟨_, rfl⟩
  obtain ⟨ROW, hROW⟩ : ∃ ROW : Array Value, ROW = (cs.take (i * 3)).toArray ++ Builtin.zeroCells z.cells (n + m - i) ++ Builtin.zeroCells z.cells (G - (n + m)) := ⟨_, rfl⟩
  rw [← hG] at hrz ⊢
  rw [← hROW] at hrz ⊢
  have hRl : (n + m) * 3 ≤ ROW.size := by
    rw [hROW]
    simp [Builtin.zeroCells, hzc, hcl]
    omega
  obtain ⟨W1, hW1⟩ : ∃ W1, W1 = w.drew.alloc (.cells ROW 105) := ⟨_, rfl⟩
  rw [← hW1] at hrz
  have hN : ∀ j, j < (n + m) * 3 → (W1.cell? ⟨w.heap.size, j, none⟩).isSome = true := fun j hj => by
    rw [hW1, World.cell?_alloc_at (w := w.drew) ROW _ w.heap.size j rfl, Array.getElem?_eq_getElem (by omega)]; rfl
  have hNf : ∀ j, W1.frozen? ⟨w.heap.size, j, none⟩ = false := fun j => by rw [hW1]; exact World.frozen?_alloc_at (w := w.drew) ROW _ w.heap.size j rfl
  have hOb : ∀ j v, w.cell? ⟨b, j, none⟩ = some v → W1.cell? ⟨b, j, none⟩ = some v := fun j v h => by rw [hW1, World.cell?_alloc_past (w := w.drew) _ b j hbw]; exact h
  have hOv : ∀ j v, w.cell? ⟨vb, j, none⟩ = some v → W1.cell? ⟨vb, j, none⟩ = some v := fun j v h => by rw [hW1, World.cell?_alloc_past (w := w.drew) _ vb j hvw]; exact h
  have hcpA : ∀ (W : World), (∀ x, W.cell? x = W1.cell? x) → (∀ x, W.frozen? x = W1.frozen? x) → ∀ ty dc, (Builtin.copy_ #[37, 37] ty #[.slice (some ⟨w.heap.size, i * 3, none⟩) (n + m - i) dc, .slice (some ⟨vb, 0, none⟩) m vc]).run Try.prog W = .ok (goInt (m : Int)) (W.setCells w.heap.size (i * 3) vs) := fun W hWc hWf ty dc =>
    run_copy_k W _ _ ty 105 3 w.heap.size (i * 3) (n + m - i) dc ⟨vb, 0, none⟩ m vc vs Try.underlying37 hsz m (by simp only [Nat.min_def]; split <;> omega) hvl
      (fun j v hj => by rw [Addr.add_lit, hWc, Nat.zero_add]; exact hOv _ v (hvs j v hj))
      (fun j hj => by rw [hWc]; exact hN _ (by omega)) (fun j hj => by rw [hWf]; exact hNf _) h1v
  have hGn : n + m ≤ G := by rw [hG]; exact grownCap_ge w _ _ _
  have hG63 : G ≤ 9223372036854775807 := by
    have := grownCap_le_maxLen w (n + m) c 105 (by unfold maxLen; omega)
    rw [← hG] at this
    unfold maxLen at this
    omega
  have hGi : ¬ (G = i) := by omega
  have hGim : ¬ (G = i + m) := by omega
  have hci : ¬ (c = i) := by omega
  have hbN : b ≠ w.heap.size := by omega
  have hdl : (cs.drop (i * 3)).length = (n - i) * 3 := by rw [List.length_drop, hcl, Nat.sub_mul]
  have hcpB : ∀ (W : World), (∀ x, W.cell? x = (W1.setCells w.heap.size (i * 3) vs).cell? x) → (∀ x, W.frozen? x = (W1.setCells w.heap.size (i * 3) vs).frozen? x) → ∀ ty dc sc, (Builtin.copy_ #[37, 37] ty #[.slice (some ⟨w.heap.size, (i + m) * 3, none⟩) (n + m - (i + m)) dc, .slice (some ⟨b, i * 3, none⟩) (n - i) sc]).run Try.prog W = .ok (goInt ((n - i : Nat) : Int)) (W.setCells w.heap.size ((i + m) * 3) (cs.drop (i * 3))) := fun W hWc hWf ty dc sc =>
    run_copy_k W _ _ ty 105 3 w.heap.size ((i + m) * 3) (n + m - (i + m)) dc ⟨b, i * 3, none⟩ (n - i) sc (cs.drop (i * 3)) Try.underlying37 hsz (n - i) (by simp only [Nat.min_def]; split <;> omega) hdl
      (fun j v hj => by
        rw [Addr.add_lit, hWc, World.cell?_setCells_out _ _ _ _ _ (fun h _ => absurd h hbN)]
        exact hOb _ v (hcs (i * 3 + j) v (by rwa [List.getElem?_drop] at hj)))
      (fun j hj => by rw [hWc]; exact isSome_setCells' _ _ _ _ (fun t ht => hN _ (by omega)) _ (hN _ (by omega)))
      (fun j hj => by rw [hWf, World.frozen?_setCells]; exact hNf _) (fun v hv => h1c v (List.mem_of_mem_drop hv))
  subst hW1
  have hE1 : ∀ x, ((w.alloc (.cells ROW 105)).drew).cell? x = (w.drew.alloc (.cells ROW 105)).cell? x := fun x => rfl
  have hE2 : ∀ x, ((w.alloc (.cells ROW 105)).drew).frozen? x = (w.drew.alloc (.cells ROW 105)).frozen? x := fun x => rfl
  have hF1 : ∀ x, (((w.alloc (.cells ROW 105)).drew.setCells w.heap.size (i * 3) vs).drew).cell? x = ((w.drew.alloc (.cells ROW 105)).setCells w.heap.size (i * 3) vs).cell? x := fun x => rfl
  have hF2 : ∀ x, (((w.alloc (.cells ROW 105)).drew.setCells w.heap.size (i * 3) vs).drew).frozen? x = ((w.drew.alloc (.cells ROW 105)).setCells w.heap.size (i * 3) vs).frozen? x := fun x => rfl
  have hw1 : IntKind.i64.wrap ((i : Int) + (m : Int)) = (i : Int) + (m : Int) := by rw [IntKind.wrap_i64]; omega
  have hb1 : (0 : Int) ≤ (i : Int) + (m : Int) := by omega
  have hin : i ≤ n := by omega
  have htn : ((i : Int) + (m : Int)).toNat = i + m := by omega
  have hb3 : (i : Int) ≤ (n : Int) := by omega
  clear hkk hik hold hROW hG hRl hz0 hzc
  go_enter Try.func260, Try.ntmps260
  go_wp2_with (first
    | (at_builtin; refine Lib.wpList_append_run _ rfl _ _ _ _ rfl _ _ rfl rfl _ _ (hrz _) ?_)
    | (at_builtin; refine wpList_copy_runI _ rfl _ _ 37 37 rfl _ _ rfl rfl (hcpA _ hE1 hE2 _ _) ?_)
    | (at_builtin; refine wpList_copy_runI _ rfl _ _ 37 37 rfl _ _ rfl rfl (hcpB _ (fun _ => rfl) (fun _ => rfl) _ _ _) ?_))
  go_region_law_o (refine step_copy_runI rfl _ _ 37 37 rfl (.slice (some ⟨w.heap.size, (i + m) * 3, none⟩) (n + m - (i + m)) (G - (i + m))) (.slice (some ⟨b, i * 3, none⟩) (n - i) (c - i)) (by simp [Act.eval, Act.put]) (by simp [Act.eval, Act.put]) (hcpB _ hF1 hF2 3 (G - (i + m)) (c - i)) ?_)
  go_wp2
  go_ret
  exact ⟨rfl, rfl⟩
set_option maxHeartbeats 4000000 in
set_option maxRecDepth 100000 in
theorem k_insPair_end (v v' : Value) (n vb m vc : Nat) (w w' : World) (hm : 0 < m) (hv : ∃ A c, v = .slice A n c)
    (hr : (Builtin.append_ #[37, 37] 37 #[v, .slice (some ⟨vb, 0, none⟩) m vc]).run Try.prog w = .ok v' w') :
    Calls Try.prog 260 #[v, .int .i64 n, .slice (some ⟨vb, 0, none⟩) m vc] w fun e W' => e = .returned v' ∧ W' = w' := by
  have mixed : Try.prog.follows .mixedOrders = true := by kernel_rfl
  have hz1 : ¬ ((m : Int) = 0) := by omega
  have fin : ∀ u u', u = v' → u' = w' → Ending.returned u = .returned v' ∧ u' = w' := fun u u' h h' => ⟨by rw [h], h'⟩
  obtain ⟨A, c, rfl⟩ := hv
  cases A with
  | none =>
    go_enter Try.func260, Try.ntmps260
    go_wp2_with (at_builtin; refine Go.Lib.wpList_append_run _ rfl _ _ _ _ rfl _ _ rfl rfl _ _ hr ?_)
    all_goals (go_ret; exact fin _ _ rfl rfl)
  | some a =>
    obtain ⟨ab, ao, asp⟩ := a
    go_enter Try.func260, Try.ntmps260
    go_wp2_with (at_builtin; refine Go.Lib.wpList_append_run _ rfl _ _ _ _ rfl _ _ rfl rfl _ _ hr ?_)
    all_goals (go_ret; exact fin _ _ rfl rfl)
theorem k_insertPair (n i : Nat) (hi : i ≤ n) (hb : n ≤ 1048576) : ∀ (W : World) (v u : Value) (xs ys : List Value), W.ownsRow 0 105 3 v n xs → W.ownsRow 0 105 3 u 1 ys → (∀ g, v.ownBlock = some g → u.ownBlock ≠ some g) → (∀ u ∈ xs, u.oneCell' = true) → (∀ u ∈ ys, u.oneCell' = true) → Calls Try.prog 260 #[v, .int .i64 i, u] W fun e W' =>
    ∃ v', e = .returned v' ∧ W'.ownsRow 0 105 3 v' (n + 1) (xs.take (i * 3) ++ ys ++ xs.drop (i * 3)) ∧ W.grownBy W' v.ownBlock ∧ (v'.ownBlock = v.ownBlock ∨ ∀ g, v'.ownBlock = some g → W.heap.size ≤ g) ∧ W.drawn ≤ W'.drawn := by
  intro W v u xs ys h hu hne h1 h1y
  have hxl := h.1
  have hyl := hu.1
  rcases hu.2 with ⟨_, h0⟩ | ⟨vb, vc, curu, rfl, _, hgu, hnu, hmu, hcu, hxu⟩
  · omega
  have hys : ∀ j v, ys[j]? = some v → W.cell? ⟨vb, j, none⟩ = some v := fun j v hj => by rw [cells_row hgu]; exact getE hxu hj
  have hys' : ∀ j v, ys[j]? = some v → W.cell? ((⟨vb, 0, none⟩ : Addr).add j) = some v := fun j v hj => by rw [Addr.add_lit, Nat.zero_add]; exact hys j v hj
  obtain ⟨i0, hi0, hz0, hzs, hzb⟩ := info_parts infoInsPairB
  have hxs0 : xs.take (n * 3) = xs := List.take_of_length_le (by omega)
  have hxd0 : xs.drop (n * 3) = [] := List.drop_eq_nil_of_le (by omega)
  rcases Nat.lt_or_ge i n with hlt | hge
  · -- within
    rcases h.2 with ⟨_, h0⟩ | ⟨g, cap, cur, rfl, _, hg, hn, hm, hc, hx⟩
    · omega
    have hxs : ∀ j v, xs[j]? = some v → W.cell? ⟨g, j, none⟩ = some v := fun j v hj => by rw [cells_row hg]; exact getE hx hj
    have hvg : vb ≠ g := fun e => hne g rfl (by rw [← e]; rfl)
    by_cases hroom : n + 1 ≤ cap
    · refine (k_insPair_shift g n cap i vb 1 vc xs ys W hlt (by omega) hroom (by unfold maxLen at hm; exact hm) hvg hxl hyl hxs (fun j hj => ?_) (frozen_zero hg) hys h1 h1y 105 105 curu.size cur.size (shape_row hgu) (shape_row hg) (by omega) (frozen_zero hgu 0) (frozen_zero hgu _)).mono ?_
      · rw [cells_row hg, Array.getElem?_eq_getElem (by omega)]; rfl
      · rintro e W' ⟨rfl, rfl⟩
        obtain ⟨r1, r2⟩ := row_insert (ys := ys) hg hroom hm hc hx hlt hyl
        exact ⟨_, rfl, r1, r2, .inl rfl, by rw [drawn_setCells, drawn_setCells]; exact Nat.le_succ _⟩
    · refine (k_insPair_grow g n cap i vb 1 vc xs ys W hlt (by omega) hn (by omega) (by omega) hxl hyl hxs hys h1 h1y _ rfl).mono ?_
      rintro e W' ⟨rfl, rfl⟩
      have hG := grownCap_ge W (n + 1) cap 105
      have hGm := grownCap_le_maxLen W (n + 1) cap 105 (by unfold maxLen; omega)
      generalize hGe : grownCap W (n + 1) cap 105 = G at hG hGm ⊢
      have ez : ((xs.take (i * 3)).toArray ++ Builtin.zeroCells (Value.agg #[.int .i64 0, .slice none 0 0, .slice none 0 0]).cells (n + 1 - i) ++ Builtin.zeroCells (Value.agg #[.int .i64 0, .slice none 0 0, .slice none 0 0]).cells (G - (n + 1))) =
          (xs.take (i * 3) ++ ((Builtin.zeroCells (Value.agg #[.int .i64 0, .slice none 0 0, .slice none 0 0]).cells (n + 1 - i)).toList ++ (Builtin.zeroCells (Value.agg #[.int .i64 0, .slice none 0 0, .slice none 0 0]).cells (G - (n + 1))).toList)).toArray := by
        apply Array.ext'; simp
      rw [ez]
      have hzl : ((Builtin.zeroCells (Value.agg #[.int .i64 0, .slice none 0 0, .slice none 0 0]).cells (n + 1 - i)).toList ++ (Builtin.zeroCells (Value.agg #[.int .i64 0, .slice none 0 0, .slice none 0 0]).cells (G - (n + 1))).toList).length = (G - i) * 3 := by
        rw [List.length_append, Array.length_toList, Array.length_toList, size_zeroCells, size_zeroCells]
        have e3 : (Value.agg #[.int .i64 0, .slice none 0 0, .slice none 0 0]).cells.size = 3 := rfl
        rw [e3]; omega
      obtain ⟨r1, r2⟩ := row_insert_new (W := W) (ty := 105) (ys := ys) hG hGm hxl hlt hyl hzl
      refine ⟨_, rfl, r1, r2 _, .inr fun g' hg' => ?_, by rw [drawn_setCells]; refine Nat.le_trans ?_ (Nat.le_succ _); rw [drawn_setCells]; exact Nat.le_succ W.drawn⟩
      simp only [Value.ownBlock, Option.some.injEq] at hg'
      omega
  · -- at the end
    obtain rfl : i = n := by omega
    rw [hxs0, hxd0, List.append_nil]
    rcases h.2 with ⟨rfl, h0⟩ | ⟨g, cap, cur, rfl, _, hg, hn, hm, hc, hx⟩
    · obtain ⟨v', w', hr, ho, hgr, _⟩ := run_append_own (P := Try.prog) W W.heap.size 37 37 105 i0 _ 3 56 Try.underlying37 hi0 hz0 hzs hzb rfl (by omega) (.slice none 0 0) 0 [] (World.ownsRow_nil W _ _ _) ⟨vb, 0, none⟩ 1 vc ys hyl hys' h1y (by unfold maxLen; omega) (by omega) (Nat.le_refl _)
      have hx0 : xs = [] := List.eq_nil_of_length_eq_zero (by omega)
      subst h0 hx0
      refine (k_insPair_end _ v' 0 vb 1 vc W w' (by omega) ⟨none, 0, rfl⟩ hr).mono ?_
      rintro e W' ⟨rfl, rfl⟩
      refine ⟨v', rfl, ownsRow_base ho (Nat.zero_le _), hgr, .inr fun g' hg' => ?_, run_drawn hr⟩
      rcases ho.2 with ⟨rfl, h0⟩ | ⟨g2, c2, u2, rfl, hb2, _⟩
      · omega
      · simp only [Value.ownBlock, Option.some.injEq] at hg'; omega
    · by_cases hroom : i + 1 ≤ cap
      · obtain ⟨v', w', hr, ho, hgr, _⟩ := run_append_own (P := Try.prog) W 0 37 37 105 i0 _ 3 56 Try.underlying37 hi0 hz0 hzs hzb rfl (by omega) _ i xs h ⟨vb, 0, none⟩ 1 vc ys hyl hys' h1y (by unfold maxLen; omega) (by omega) (Nat.zero_le _)
        have hr2 := run_append_room_cells (P := Try.prog) W 37 37 105 i0 Try.underlying37 hi0 g 0 i cap ⟨vb, 0, none⟩ 1 vc ys (by rw [hzs]; exact hyl) hys' h1y hroom (fun j hj => by rw [hzs, cells_row hg, Array.getElem?_eq_getElem (by omega)]; rfl) (fun j hj => frozen_zero hg _)
        rw [hr] at hr2
        simp only [Result.ok.injEq] at hr2
        refine (k_insPair_end _ v' i vb 1 vc W w' (by omega) ⟨_, _, rfl⟩ hr).mono ?_
        rintro e W' ⟨rfl, rfl⟩
        exact ⟨v', rfl, ho, hgr, .inl (by rw [hr2.1]; rfl), run_drawn hr⟩
      · obtain ⟨v', w', hr, ho, hgr⟩ := run_append_arg_grows (P := Try.prog) W 37 37 105 i0 _ 3 56 Try.underlying37 hi0 hz0 hzs hzb rfl (by omega) ⟨g, 0, none⟩ i cap xs hxl (fun j u hu => by rw [Addr.add_lit, Nat.zero_add, cells_row hg]; exact getE hx hu) ⟨vb, 0, none⟩ 1 vc ys hyl hys' (by omega) (by unfold maxLen; omega) (by omega)
        refine (k_insPair_end _ v' i vb 1 vc W w' (by omega) ⟨_, _, rfl⟩ hr).mono ?_
        rintro e W' ⟨rfl, rfl⟩
        refine ⟨v', rfl, ownsRow_base ho (Nat.zero_le _), ⟨hgr.os, hgr.tape, hgr.output, hgr.size, fun k hk _ => hgr.block k hk (by simp)⟩, .inr fun g' hg' => ?_, run_drawn hr⟩
        rcases ho.2 with ⟨rfl, h0⟩ | ⟨g2, c2, u2, rfl, hb2, _⟩
        · omega
        · simp only [Value.ownBlock, Option.some.injEq] at hg'; omega
end Go.Proofs.Ytmpndkhnajogkaa.W
