/- What functions of Go's library do to rows of structs, walked by the kit's own walk. No condition but those that each theorem states. -/
import Derived.Test.YtmpndkhnajogkaaRows
import Derived.Test.YtmpndkhnajogkaaVg
import Derived.WalkKit
import Derived.Deep.RegionLaw
import Derived.Lib.SliceRun
open Go Go.Vm Go.Proofs Go.IntWalk Go.RowKit Go.Lib
set_option maxRecDepth 100000
set_option linter.unusedVariables false
set_option linter.unusedSimpArgs false
namespace Go.Proofs.Ytmpndkhnajogkaa.W
theorem info_two {P : Program} {e : TypeId} {z : Value} {size : Nat} (h : (P.info? e).map (fun i => (i.zero, i.size)) = some (some z, size)) : ∃ i, P.info? e = some i ∧ i.zero = some z ∧ i.size = size := by
  cases hq : P.info? e with
  | none => simp [hq] at h
  | some i => simp [hq] at h; exact ⟨i, rfl, h.1, h.2⟩
/-- Clearing the cells of n elements. -/
theorem run_clear_k {P : Program} (w : World) (t e ty : TypeId) (z : Value) (ht : P.underlying t = some (.slice e)) (hv : ∀ w, (zeroValue e).run P w = .ok z w) (b o n c : Nat) (zs : List Value) (hz : (Builtin.zeroCells z.cells n).toList = zs) (h1 : ∀ u ∈ zs, u.oneCell' = true) (hn : 0 < n)
    (hc : ∀ j, j < zs.length → (w.cell? ⟨b, o + j, none⟩).isSome = true) (hf : ∀ j, j < zs.length → w.frozen? ⟨b, o + j, none⟩ = false) :
    (Builtin.clear_ #[t] ty #[.slice (some ⟨b, o, none⟩) n c]).run P w = .ok (.tuple #[]) (w.setCells b o zs) := by
  have hst := run_storeCells_cells (P := P) b o zs 0 w (by simpa using hc) (by simpa using hf) h1
  simp only [Nat.add_zero] at hst
  obtain ⟨m, rfl⟩ : ∃ m, n = m + 1 := ⟨n - 1, by omega⟩
  simp [Builtin.clear_, run_underlying ht, hv, hz, hst]
theorem isSome_setCells' (b : Nat) (vs : List Value) (o : Nat) (w : World) (h : ∀ j, j < vs.length → (w.cell? ⟨b, o + j, none⟩).isSome = true) (k : Nat) (hk : (w.cell? ⟨b, k, none⟩).isSome = true) : ((w.setCells b o vs).cell? ⟨b, k, none⟩).isSome = true := by
  by_cases hin : o ≤ k ∧ k < o + vs.length
  · have := World.cell?_setCells_in b vs o w h (k - o) (by omega)
    rw [show o + (k - o) = k by omega] at this
    rw [this]; rfl
  · rw [World.cell?_setCells_out b vs o w ⟨b, k, none⟩ (fun _ _ => by simp only []; omega)]
    exact hk
/-- Copying elements of k cells. -/
theorem run_copy_k {P : Program} (w : World) (dT sT ty elem : TypeId) (k b o dLen dCap : Nat) (a : Addr) (sLen sCap : Nat) (cs : List Value)
    (hu : P.underlying dT = some (.slice elem)) (hs : (P.info? elem).map (·.size) = some k) (q : Nat) (hq : q = Nat.min sLen dLen) (hn : cs.length = q * k)
    (hsrc : ∀ j v, cs[j]? = some v → w.cell? (a.add j) = some v) (hc : ∀ j, j < cs.length → (w.cell? ⟨b, o + j, none⟩).isSome = true) (hf : ∀ j, j < cs.length → w.frozen? ⟨b, o + j, none⟩ = false) (h1 : ∀ v ∈ cs, v.oneCell' = true) :
    (Builtin.copy_ #[dT, sT] ty #[.slice (some ⟨b, o, none⟩) dLen dCap, .slice (some a) sLen sCap]).run P w = .ok (goInt q) (w.setCells b o cs) := by
  have hl := run_loadCells_list (P := P) w a cs hsrc
  have hst := run_storeCells_cells (P := P) b o cs 0 w (by simpa using hc) (by simpa using hf) h1
  subst hq
  cases hq : P.info? elem with
  | none => simp [hq] at hs
  | some i =>
    have hi : i.size = k := by simpa [hq] using hs
    simp [Builtin.copy_, run_underlying hu, Builtin.lenOf, Builtin.firstCells, sizeOf, typeInfo, hq, hi, ← hn, hl, hst]
theorem getE {cur : Array Value} {xs : List Value} {n : Nat} (hx : cur.toList.take n = xs) {q : Nat} {u : Value} (hu : xs[q]? = some u) : cur[q]? = some u := by
  rw [← hx, List.getElem?_take] at hu
  split at hu
  · rwa [Array.getElem?_toList] at hu
  · cases hu
theorem infoDelEntry : (Try.prog.info? 85).map (fun i => (i.zero, i.size)) = some (some (.agg #[.slice none 0 0, .slice none 0 0, .int .i64 0, .int .i64 0]), 4) := by kernel_rfl
set_option maxHeartbeats 1600000 in
set_option maxRecDepth 1000000 in
theorem k_delEntry_walk (b n cap i j : Nat) (hij : j = i + 1) (cs : List Value) (w : World) (hi : i < n) (hn : n ≤ cap) (hm : cap ≤ 9223372036854775807) (hl : cs.length = n * 4)
    (hc : ∀ j u, cs[j]? = some u → w.cell? ⟨b, 0 + j, none⟩ = some u) (hf : ∀ j, w.frozen? ⟨b, j, none⟩ = false) (h1 : ∀ u ∈ cs, u.oneCell' = true) :
    Calls Try.prog 188 #[.slice (some ⟨b, 0, none⟩) n cap, .int .i64 i, .int .i64 j] w fun e w' => e = .returned (.slice (some ⟨b, 0, none⟩) (i + (n - j)) cap) ∧
      w' = (w.drew.setCells b (0 + i * 4) (cs.drop (j * 4))).setCells b ((i + (n - j)) * 4) [.slice none 0 0, .slice none 0 0, .int .i64 0, .int .i64 0] := by
  obtain ⟨i0, hi0, hz0, hz1⟩ := info_two infoDelEntry
  obtain ⟨news, hnw⟩ : ∃ news, news = cs.drop (j * 4) := ⟨_, rfl⟩
  have hnl : news.length = (n - j) * 4 := by rw [hnw, List.length_drop, hl, Nat.sub_mul]
  obtain ⟨A, hA, hnews⟩ : ∃ A : Addr, (if cap = j then some (⟨b, 0, none⟩ : Addr) else some ⟨b, j * 4, none⟩) = some A ∧ Hid (∀ j u, news[j]? = some u → w.drew.cell? (A.add j) = some u) := by
    by_cases h : cap = j
    · refine ⟨⟨b, 0, none⟩, by simp [h], fun q u hu => ?_⟩
      have h0 : news.length = 0 := by rw [hnl, show n - j = 0 by omega]
      rw [List.length_eq_zero_iff.1 h0] at hu
      simp at hu
    · refine ⟨⟨b, j * 4, none⟩, by simp [h], fun q u hu => ?_⟩
      rw [hnw, List.getElem?_drop] at hu
      rw [Addr.add_lit]
      have := hc _ u hu
      rw [Nat.zero_add] at this
      exact this
  have s1 : Hid (news.length = (n - j) * 4) := hnl
  have s2 : Hid (∀ u ∈ news, u.oneCell' = true) := fun u hu => h1 u (by rw [hnw] at hu; exact List.mem_of_mem_drop hu)
  have hsome : ∀ j, j < n * 4 → (w.cell? ⟨b, j, none⟩).isSome = true := fun j hj => by
    have hj' : j < cs.length := by omega
    have := hc j cs[j] (List.getElem?_eq_getElem hj')
    rw [Nat.zero_add] at this
    rw [this]; rfl
  have s3 : Hid (∀ q, q < news.length → (w.drew.cell? ⟨b, 0 + i * 4 + q, none⟩).isSome = true ∧ w.drew.frozen? ⟨b, 0 + i * 4 + q, none⟩ = false) := by
    intro q hq
    rw [hnl] at hq
    rw [Nat.zero_add]
    exact ⟨hsome _ (by omega), hf _⟩
  have hic : i ≤ cap := by omega
  have hjc : j ≤ cap := by omega
  have hjn : j ≤ n := by omega
  have hlt : i < j := by omega
  obtain ⟨W1, hW1⟩ : ∃ W1, W1 = w.drew.setCells b (0 + i * 4) news := ⟨_, rfl⟩
  have hcl : ∀ ty, (Builtin.clear_ #[48] ty #[.slice (some ⟨b, (i + (n - j)) * 4, none⟩) (n - (i + (n - j))) (cap - (i + (n - j)))]).run Try.prog W1 = .ok (.tuple #[]) (W1.setCells b ((i + (n - j)) * 4) [.slice none 0 0, .slice none 0 0, .int .i64 0, .int .i64 0]) :=
    fun ty => run_clear_k W1 48 85 ty _ Try.underlying48 Try.zeroValue85 b _ _ _ _ (by rw [show n - (i + (n - j)) = 1 by omega]; kernel_rfl) (by simp; exact ⟨rfl, rfl⟩) (by omega)
      (fun q hq => by
        rw [hW1]
        refine isSome_setCells' b _ _ _ (fun q hq => ?_) _ ?_
        · exact (s3.out q hq).1
        · exact hsome _ (by simp at hq; omega))
      (fun q hq => by rw [hW1, World.frozen?_setCells]; exact hf _)
  rw [← hnw]
  have hW : Hid (W1 = w.drew.setCells b (0 + i * 4) news) := hW1
  have hij' : Hid (j = i + 1) := hij
  rw [← hW1]
  clear hc hf hsome hnw hnl hW1 hij hl h1
  go_enter Try.func188, Try.ntmps188
  go_wp2_with fail
  go_region_law (refine step_append_room rfl (.tmp 22) (.tmp 25) 48 rfl 85 i0 4 Try.underlying48 hi0 hz1 b 0 i cap (by simp [Act.eval, Act.put]) A (n - j) (cap - j) news (by simp [Act.eval, Act.put]) s1.out hnews.out s2.out (by omega) s3.out ?_; rw [← hW.out])
  go_wp2
  go_ret
  exact ⟨rfl, rfl⟩
theorem k_deleteEntry (n i j : Nat) (hij : j = i + 1) (hi : i < n) : ∀ (W : World) (v : Value) (xs : List Value), W.ownsRow 0 85 4 v n xs → (∀ u ∈ xs, u.oneCell' = true) → Calls Try.prog 188 #[v, .int .i64 i, .int .i64 j] W fun e W' =>
    ∃ v', e = .returned v' ∧ W'.ownsRow 0 85 4 v' (n - 1) (xs.take (i * 4) ++ xs.drop (j * 4)) ∧ W.grownBy W' v.ownBlock ∧ v'.ownBlock = v.ownBlock ∧ W.drawn ≤ W'.drawn := by
  intro W v xs h h1
  have hxl := h.1
  rcases h.2 with ⟨_, h0⟩ | ⟨g, cap, cur, rfl, _, hg, hn, hm, hc, hx⟩
  · omega
  · refine (k_delEntry_walk g n cap i j hij xs W hi hn (by unfold maxLen at hm; exact hm) hxl (fun q u hu => by rw [Nat.zero_add, cells_row hg]; exact getE hx hu) (frozen_zero hg) h1).mono ?_
    rintro e W' ⟨rfl, rfl⟩
    rw [Nat.zero_add]
    obtain ⟨r1, r2⟩ := row_delete (zs := [.slice none 0 0, .slice none 0 0, .int .i64 0, .int .i64 0]) hg hn hm hc hx hij hi rfl
    exact ⟨_, rfl, r1, r2, rfl, by rw [drawn_setCells, drawn_setCells]; exact Nat.le_succ _⟩
end Go.Proofs.Ytmpndkhnajogkaa.W
