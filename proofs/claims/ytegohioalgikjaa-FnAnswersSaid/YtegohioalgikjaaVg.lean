/- The abstract walk: rows that are given away, and rows that are put in another order. No condition. -/
import Derived.Test.YtegohioalgikjaaVf
import Derived.Laws.IdiomCopy
import Derived.Sort.Statements
set_option linter.unusedVariables false
set_option linter.unusedSimpArgs false
set_option linter.unusedSectionVars false
namespace Go.Vm
open Go Go.RowKit

theorem Es.rz_split {W : World} {ok : Nat → Prop} {B sz : Nat} : ∀ (i : Nat) (es : List (List C)) (xs : List Value) (fs : List Nat), i ≤ es.length → Es.rz W ok B sz es xs fs →
    ∃ f1 f2, fs = f1 ++ f2 ∧ Es.rz W ok B sz (es.take i) (xs.take (i * sz)) f1 ∧ Es.rz W ok B sz (es.drop i) (xs.drop (i * sz)) f2
  | 0, es, xs, fs, _, h => ⟨[], fs, rfl, by simp [Es.rz], by simpa using h⟩
  | i + 1, [], xs, fs, hi, h => by simp at hi
  | i + 1, e :: es, xs, fs, hi, h => by
    simp only [Es.rz] at h
    obtain ⟨x1, x2, g1, g2, rfl, rfl, hl, h1, h2⟩ := h
    obtain ⟨f1, f2, rfl, k1, k2⟩ := Es.rz_split i es x2 g2 (by simpa using hi) h2
    have hx := Cs.rz_length _ _ _ h1
    have e1 : (i + 1) * sz = x1.length + i * sz := by rw [Nat.add_mul, Nat.one_mul, hx, hl, Nat.add_comm]
    refine ⟨g1 ++ f1, f2, by rw [List.append_assoc], ?_, ?_⟩
    · simp only [List.take_succ_cons, Es.rz]
      exact ⟨x1, x2.take (i * sz), g1, f1, by rw [e1, List.take_length_add_append], rfl, hl, h1, k1⟩
    · simp only [List.drop_succ_cons]
      rw [e1, List.drop_length_add_append]
      exact k2

/-- What stands behind such a call: all that was given is dead, one row is there. -/
theorem postG_row {fr : Fr} {hl hl' : List (Nat × Blk)} {k ty sz : Nat} {es' : List (List C)} {ν : Nat → Value} {v' : Value} {W' : World} {xs' : List Value} {fs' : List Nat}
    (hk : lk k hl = none) (hk' : lk k hl' = some (.arr true ty sz es')) (hd : ∀ κ blk, κ ≠ k → lk κ hl' = some blk → blk = .dead ∧ (ν κ).oneCell' = true)
    (hB : BelowX fr.X fr.W0 W') (ho : W'.ownsRow 0 ty sz v' es'.length xs') (he : Es.rz W' (fun _ => False) 0 sz es' xs' fs') (hn : fs'.Nodup) (hnew : ∀ b ∈ fs', fr.New b)
    (htop : ∀ g, v'.ownBlock = some g → fr.Top g ∧ g ∉ fs') : PostG fr hl hl' (.ref k) ν (.returned v') W' := by
  have top : ∀ κ b, topOf (fun κ => lk κ hl') (fun κ => if κ = k then v' else ν κ) κ = some b → κ = k ∧ v'.ownBlock = some b := by
    intro κ b h
    by_cases hκ : κ = k
    · subst hκ
      simp only [topOf, hk', topB, if_pos] at h
      exact ⟨rfl, h⟩
    · simp only [topOf] at h
      cases hq : lk κ hl' with
      | none => simp [hq, topB] at h
      | some blk =>
        obtain ⟨rfl, _⟩ := hd κ blk hκ hq
        simp [hq, topB] at h
  have mem : ∀ κ b, b ∈ (if κ = k then fs' else []) → κ = k ∧ b ∈ fs' := by
    intro κ b h
    split at h
    · rename_i e; exact ⟨e, h⟩
    · cases h
  refine ⟨hB, v', fun κ => if κ = k then v' else ν κ, fun κ => if κ = k then fs' else [], rfl, ?_, ⟨?_, ?_, ?_, ?_, ?_, ?_, ?_, ?_⟩, ?_⟩
  · simp only [T.rz, if_pos, hk', Option.isSome_some, and_self]
  · intro κ blk hb
    by_cases hκ : κ = k
    · subst hκ
      have hb : lk κ hl' = some blk := hb
      rw [hk', Option.some.injEq] at hb
      subst hb
      simp only [Blk.rz, if_pos, Fr.B]
      exact ⟨xs', ho, he⟩
    · obtain ⟨rfl, h1⟩ := hd κ blk hκ hb
      simp only [Blk.rz, if_neg hκ]
      exact ⟨trivial, h1⟩
  · intro κ hb
    by_cases hκ : κ = k
    · subst hκ
      have hb : lk κ hl' = none := hb
      rw [hk'] at hb; cases hb
    · exact if_neg hκ
  · intro κ κ' b hne h1 h2
    exact hne ((top κ b h1).1.trans (top κ' b h2).1.symm)
  · intro κ κ' b h1 h2
    obtain ⟨_, h3⟩ := mem κ b h1
    obtain ⟨_, h4⟩ := top κ' b h2
    exact (htop b h4).2 h3
  · intro κ
    show (if κ = k then fs' else []).Nodup
    split
    · exact hn
    · exact List.nodup_nil
  · intro κ κ' b hne h1 h2
    exact hne ((mem κ b h1).1.trans (mem κ' b h2).1.symm)
  · intro κ b h1
    exact (htop b (top κ b h1).2).1
  · intro κ b h1
    exact hnew b (mem κ b h1).2
  · intro κ hκ
    have : κ ≠ k := by rintro rfl; simp [hk] at hκ
    exact if_neg this

theorem ownsRow_one {W : World} {B e sz n : Nat} {v : Value} {xs : List Value} (h : W.ownsRow B e sz v n xs) : v.oneCell' = true := by
  rcases h.2 with ⟨rfl, _⟩ | ⟨g, cap, cur, rfl, _⟩ <;> rfl
theorem ownsRow_lt {W : World} {B e sz n g : Nat} {v : Value} {xs : List Value} (h : W.ownsRow B e sz v n xs) (hg : v.ownBlock = some g) : g < W.heap.size := by
  rcases h.2 with ⟨rfl, _⟩ | ⟨g', cap, cur, rfl, _, hh, _⟩
  · simp [Value.ownBlock] at hg
  · simp only [Value.ownBlock, Option.some.injEq] at hg
    subst hg
    exact (Array.getElem?_eq_some_iff.1 hh).1

/-- THE CONTRACT of a function that takes one element out of a row. -/
theorem satG_delete {P : Program} {f ty sz : Nat} {es : List (List C)} {i j : Nat} (hf : FnOk P f) (hij : j = i + 1) (hi : i < es.length)
    (raw : ∀ (W : World) (v : Value) (xs : List Value), W.ownsRow 0 ty sz v es.length xs → (∀ u ∈ xs, u.oneCell' = true) → Calls P f #[v, .int .i64 i, .int .i64 j] W fun e W' =>
      ∃ v', e = .returned v' ∧ W'.ownsRow 0 ty sz v' (es.length - 1) (xs.take (i * sz) ++ xs.drop (j * sz)) ∧ W.grownBy W' v.ownBlock ∧ v'.ownBlock = v.ownBlock ∧ W.drawn ≤ W'.drawn) :
    SatG P f false [.ref 1, .c (.int .i64 i), .c (.int .i64 j)] [(1, .arr true ty sz es)] (.ref 2) [(1, .dead), (2, .arr true ty sz (es.take i ++ es.drop j))] := by
  refine ⟨hf, fun W ok X Y vs ν F N γ hok hdp hh hts => ?_⟩
  simp only [Ts.rz, T.rz, C.rz] at hts
  obtain ⟨v1, _, rfl, ⟨rfl, _⟩, v2, _, rfl, ⟨rfl, _⟩, v3, _, rfl, ⟨rfl, _⟩, rfl⟩ := hts
  have hb := hh.heap 1 (.arr true ty sz es) rfl
  simp only [Blk.rz, Fr.B] at hb
  obtain ⟨xs, ho, he⟩ := hb
  refine (raw W (ν 1) xs ho (Es.rz_one _ _ _ he)).mono ?_
  rintro e W' ⟨v', rfl, ho', hg, hb', hdr⟩
  obtain ⟨f1, fr2, hF, h1, h2⟩ := Es.rz_split i es xs (F 1) (by omega) he
  obtain ⟨f2, f3, rfl, h3, h4⟩ := Es.rz_split 1 (es.drop i) (xs.drop (i * sz)) fr2 (by rw [List.length_drop]; omega) h2
  rw [List.drop_drop, List.drop_drop, ← Nat.add_mul, ← hij] at h4
  have hnd := hh.d3 1
  have topg : ∀ g, (ν 1).ownBlock = some g → topOf (fun κ => lk κ [(1, Blk.arr true ty sz es)]) ν 1 = some g := fun g hg => by simp [topOf, lk, topB, hg]
  have hfp := Es.rz_fp _ _ _ _ he
  have hmem : ∀ b ∈ f1 ++ f3, b ∈ F 1 := fun b hb => by
    rw [hF]; rcases List.mem_append.1 hb with hb | hb
    · exact List.mem_append_left _ hb
    · exact List.mem_append_right _ (List.mem_append_right _ hb)
  have hX : ∀ g, (ν 1).ownBlock = some g → X g := fun g hg => by
    have := hh.n1 1 g (topg g hg)
    rcases this with h | h
    · have h : W.heap.size ≤ g := h; have := ownsRow_lt ho hg; omega
    · exact h
  have hkeep : ∀ b ∈ F 1, W'.heap[b]? = W.heap[b]? := fun b hb => hg.block b (hfp b hb).2 (fun h => hh.d2 1 1 b hb (topg b h.symm))
  have hl : (es.take i ++ es.drop j).length = es.length - 1 := by rw [List.length_append, List.length_take, List.length_drop]; omega
  refine postG_row (k := 2) (xs' := xs.take (i * sz) ++ xs.drop (j * sz)) (fs' := f1 ++ f3) rfl rfl ?_ ?_ (by rw [hl]; exact ho') ?_ ?_ ?_ ?_
  · intro κ blk hκ hb
    simp only [lk] at hb
    split at hb
    · rename_i e; subst e; simp only [Option.some.injEq] at hb; exact ⟨hb.symm, ownsRow_one ho⟩
    · first | cases hb | (rw [if_neg hκ] at hb; cases hb) | (simp [hκ] at hb)
  · refine ⟨hg.os, hg.tape, hg.output, hg.size, hdr, fun b hb hX' => hg.block b hb fun h => ?_⟩
    exact hX' (hX b h.symm)
  · have m1 := Es.rz_move (W' := W') (ok' := fun _ => False) (fun b hb => hb.elim) (Nat.le_refl 0) sz _ _ f1 (fun b hb => hkeep b (hmem b (List.mem_append_left _ hb))) h1
    have m2 := Es.rz_move (W' := W') (ok' := fun _ => False) (fun b hb => hb.elim) (Nat.le_refl 0) sz _ _ f3 (fun b hb => hkeep b (hmem b (List.mem_append_right _ hb))) h4
    exact Es.rz_append _ _ _ _ _ _ m1 m2
  · rw [hF] at hnd
    rw [List.nodup_append] at hnd ⊢
    obtain ⟨n1, n2, n3⟩ := hnd
    rw [List.nodup_append] at n2
    exact ⟨n1, n2.2.1, fun a ha b hb => n3 a ha b (List.mem_append_right _ hb)⟩
  · intro b hb
    exact hh.n2 1 b (hmem b hb)
  · intro g hg'
    rw [hb'] at hg'
    exact ⟨.inr (hX g hg'), fun hm => hh.d2 1 1 g (hmem g hm) (topg g hg')⟩

/-- THE CONTRACT of a function that puts one element into a row. -/
theorem satG_insert {P : Program} {f ty sz : Nat} {es : List (List C)} {e : List C} {i : Nat} (hf : FnOk P f) (hi : i ≤ es.length)
    (raw : ∀ (W : World) (v u : Value) (xs ys : List Value), W.ownsRow 0 ty sz v es.length xs → W.ownsRow 0 ty sz u 1 ys → (∀ g, v.ownBlock = some g → u.ownBlock ≠ some g) → (∀ u ∈ xs, u.oneCell' = true) → (∀ u ∈ ys, u.oneCell' = true) → Calls P f #[v, .int .i64 i, u] W fun e W' =>
      ∃ v', e = .returned v' ∧ W'.ownsRow 0 ty sz v' (es.length + 1) (xs.take (i * sz) ++ ys ++ xs.drop (i * sz)) ∧ W.grownBy W' v.ownBlock ∧ (v'.ownBlock = v.ownBlock ∨ ∀ g, v'.ownBlock = some g → W.heap.size ≤ g) ∧ W.drawn ≤ W'.drawn) :
    SatG P f false [.ref 1, .c (.int .i64 i), .ref 2] [(1, .arr true ty sz es), (2, .arr true ty sz [e])] (.ref 3) [(1, .dead), (2, .dead), (3, .arr true ty sz (es.take i ++ [e] ++ es.drop i))] := by
  refine ⟨hf, fun W ok X Y vs ν F N γ hok hdp hh hts => ?_⟩
  simp only [Ts.rz, T.rz, C.rz] at hts
  obtain ⟨v1, _, rfl, ⟨rfl, _⟩, v2, _, rfl, ⟨rfl, _⟩, v3, _, rfl, ⟨rfl, _⟩, rfl⟩ := hts
  have hb := hh.heap 1 (.arr true ty sz es) rfl
  have hb2 := hh.heap 2 (.arr true ty sz [e]) rfl
  simp only [Blk.rz, Fr.B] at hb hb2
  obtain ⟨xs, ho, he⟩ := hb
  obtain ⟨ys, ho2, he2⟩ := hb2
  have topg : ∀ g, (ν 1).ownBlock = some g → topOf (fun κ => lk κ [(1, Blk.arr true ty sz es), (2, .arr true ty sz [e])]) ν 1 = some g := fun g hg => by simp [topOf, lk, topB, hg]
  have topg2 : ∀ g, (ν 2).ownBlock = some g → topOf (fun κ => lk κ [(1, Blk.arr true ty sz es), (2, .arr true ty sz [e])]) ν 2 = some g := fun g hg => by simp [topOf, lk, topB, hg]
  refine (raw W (ν 1) (ν 2) xs ys ho ho2 (fun g hg h => hh.d1 1 2 g (by decide) (topg g hg) (topg2 g h)) (Es.rz_one _ _ _ he) (Es.rz_one _ _ _ he2)).mono ?_
  rintro e' W' ⟨v', rfl, ho', hg, hb', hdr⟩
  obtain ⟨f1, f2, hF, h1, h2⟩ := Es.rz_split i es xs (F 1) hi he
  have hnd := hh.d3 1
  have hnd2 := hh.d3 2
  have hfp := Es.rz_fp _ _ _ _ he
  have hfp2 := Es.rz_fp _ _ _ _ he2
  have hmem : ∀ b ∈ (f1 ++ F 2) ++ f2, b ∈ F 1 ∨ b ∈ F 2 := fun b hb => by
    rw [hF]
    simp only [List.mem_append] at hb ⊢
    rcases hb with (hb | hb) | hb
    · exact .inl (.inl hb)
    · exact .inr hb
    · exact .inl (.inr hb)
  have hlt : ∀ b ∈ (f1 ++ F 2) ++ f2, b < W.heap.size := fun b hb => by
    rcases hmem b hb with h | h
    · exact (hfp b h).2
    · exact (hfp2 b h).2
  have hnt : ∀ b ∈ (f1 ++ F 2) ++ f2, (ν 1).ownBlock ≠ some b := fun b hb h => by
    rcases hmem b hb with h' | h'
    · exact hh.d2 1 1 b h' (topg b h)
    · exact hh.d2 2 1 b h' (topg b h)
  have hX : ∀ g, (ν 1).ownBlock = some g → X g := fun g hg => by
    have := hh.n1 1 g (topg g hg)
    rcases this with h | h
    · have h : W.heap.size ≤ g := h; have := ownsRow_lt ho hg; omega
    · exact h
  have hkeep : ∀ b ∈ (f1 ++ F 2) ++ f2, W'.heap[b]? = W.heap[b]? := fun b hb => hg.block b (hlt b hb) (fun h => hnt b hb h.symm)
  have hl : (es.take i ++ [e] ++ es.drop i).length = es.length + 1 := by simp; omega
  refine postG_row (k := 3) (xs' := xs.take (i * sz) ++ ys ++ xs.drop (i * sz)) (fs' := (f1 ++ F 2) ++ f2) rfl rfl ?_ ?_ (by rw [hl]; exact ho') ?_ ?_ ?_ ?_
  · intro κ blk hκ hb
    simp only [lk] at hb
    split at hb
    · rename_i e; subst e; simp only [Option.some.injEq] at hb; exact ⟨hb.symm, ownsRow_one ho⟩
    · split at hb
      · rename_i e; subst e; simp only [Option.some.injEq] at hb; exact ⟨hb.symm, ownsRow_one ho2⟩
      · first | cases hb | (rw [if_neg hκ] at hb; cases hb) | (simp [hκ] at hb)
  · refine ⟨hg.os, hg.tape, hg.output, hg.size, hdr, fun b hb hX' => hg.block b hb fun h => ?_⟩
    exact hX' (hX b h.symm)
  · have m1 := Es.rz_move (W' := W') (ok' := fun _ => False) (fun b hb => hb.elim) (Nat.le_refl 0) sz _ _ f1 (fun b hb => hkeep b (by simp [hb])) h1
    have m2 := Es.rz_move (W' := W') (ok' := fun _ => False) (fun b hb => hb.elim) (Nat.le_refl 0) sz _ _ (F 2) (fun b hb => hkeep b (by simp [hb])) he2
    have m3 := Es.rz_move (W' := W') (ok' := fun _ => False) (fun b hb => hb.elim) (Nat.le_refl 0) sz _ _ f2 (fun b hb => hkeep b (by simp [hb])) h2
    exact Es.rz_append _ _ _ _ _ _ (Es.rz_append _ _ _ _ _ _ m1 m2) m3
  · rw [hF] at hnd
    rw [List.nodup_append] at hnd
    obtain ⟨n1, n2, n3⟩ := hnd
    have d12 : ∀ b, b ∈ f1 ∨ b ∈ f2 → b ∉ F 2 := fun b hb => hh.d4 1 2 b (by decide) (by rw [hF]; simpa using hb)
    rw [List.nodup_append, List.nodup_append]
    refine ⟨⟨n1, hnd2, fun a ha b hb h => d12 a (.inl ha) (h ▸ hb)⟩, n2, fun a ha b hb h => ?_⟩
    rcases List.mem_append.1 ha with ha | ha
    · exact n3 a ha b hb h
    · exact d12 b (.inr hb) (h ▸ ha)
  · intro b hb
    rcases hmem b hb with h | h
    · exact hh.n2 1 b h
    · exact hh.n2 2 b h
  · intro g hg'
    rcases hb' with h | h
    · rw [h] at hg'
      exact ⟨.inr (hX g hg'), fun hm => hnt g hm hg'⟩
    · have h1 := h g hg'
      exact ⟨.inl h1, fun hm => by have := hlt g hm; omega⟩
end Go.Vm

namespace Go.Vm
open Go Go.RowKit

/-- A cell as it stands in memory, with nothing said of what it leads to. -/
def rawC : C → Value → C
  | .sl _ _ _, u => .val u
  | c, _ => c
def rawE : List C → List Value → List C
  | c :: cs, u :: us => rawC c u :: rawE cs us
  | _, _ => []
theorem rawE_length : ∀ {cs : List C} {us : List Value}, us.length = cs.length → (rawE cs us).length = cs.length
  | [], [], _ => rfl
  | c :: cs, u :: us, h => by simp only [rawE, List.length_cons]; rw [rawE_length (by simpa using h)]
  | [], _ :: _, h => by simp at h
  | _ :: _, [], h => by simp at h
section
variable {W W' : World} {ok ok' : Nat → Prop} {B B' : Nat}
theorem C.rz_raw {c : C} {u : Value} {fs : List Nat} (h : C.rz W ok B c u fs) : C.rz W' ok' B' (rawC c u) u [] := by
  have h1 := Cs.rz_one [c] [u] fs (by simp only [Cs.rz]; exact ⟨u, [], fs, [], rfl, by simp, h, rfl, rfl⟩) u (by simp)
  cases c with
  | int k n => simp only [C.rz, rawC] at h ⊢; exact ⟨h.1, trivial⟩
  | bool b => simp only [C.rz, rawC] at h ⊢; exact ⟨h.1, trivial⟩
  | val x => simp only [C.rz, rawC] at h ⊢; exact ⟨h.1, trivial⟩
  | sl t s es => simp only [C.rz, rawC]; exact ⟨⟨trivial, h1⟩, trivial⟩
theorem C.rz_unraw {c : C} {u u' : Value} {fs fs' : List Nat} (h : C.rz W ok B c u fs) (h' : C.rz W' ok' B' (rawC c u) u' fs') : u' = u ∧ fs' = [] := by
  cases c with
  | int k n => simp only [C.rz, rawC] at h h'; exact ⟨h'.1.trans h.1.symm, h'.2⟩
  | bool b => simp only [C.rz, rawC] at h h'; exact ⟨h'.1.trans h.1.symm, h'.2⟩
  | val x => simp only [C.rz, rawC] at h h'; exact ⟨h'.1.1.trans h.1.1.symm, h'.2⟩
  | sl t s es => simp only [C.rz, rawC] at h'; exact ⟨h'.1.1, h'.2⟩
theorem Cs.rz_raw : ∀ {cs : List C} {us : List Value} {fs : List Nat}, Cs.rz W ok B cs us fs → Cs.rz W' ok' B' (rawE cs us) us []
  | [], us, fs, h => by simp only [Cs.rz] at h; obtain ⟨rfl, rfl⟩ := h; simp [rawE, Cs.rz]
  | c :: cs, us, fs, h => by
    simp only [Cs.rz] at h
    obtain ⟨u, us', f1, f2, rfl, rfl, h1, h2⟩ := h
    simp only [rawE, Cs.rz]
    exact ⟨u, us', [], [], rfl, rfl, C.rz_raw h1, Cs.rz_raw h2⟩
theorem Cs.rz_unraw : ∀ {cs : List C} {us us' : List Value} {fs fs' : List Nat}, Cs.rz W ok B cs us fs → Cs.rz W' ok' B' (rawE cs us) us' fs' → us' = us ∧ fs' = []
  | [], us, us', fs, fs', h, h' => by simp only [Cs.rz] at h; obtain ⟨rfl, rfl⟩ := h; simpa [rawE, Cs.rz] using h'
  | c :: cs, us, us', fs, fs', h, h' => by
    simp only [Cs.rz] at h
    obtain ⟨u, us1, f1, f2, rfl, rfl, h1, h2⟩ := h
    simp only [rawE, Cs.rz] at h'
    obtain ⟨u', us2, g1, g2, rfl, rfl, h3, h4⟩ := h'
    obtain ⟨rfl, rfl⟩ := C.rz_unraw h1 h3
    obtain ⟨rfl, rfl⟩ := Cs.rz_unraw h2 h4
    exact ⟨rfl, rfl⟩
end

/-- An element of a row: what it says, its cells, what it owns. -/
structure El where
  e : List C
  us : List Value
  fs : List Nat
  deriving Inhabited
def El.raw (x : El) : List C := rawE x.e x.us
def El.ok (W : World) (ok : Nat → Prop) (B sz : Nat) (x : El) : Prop := x.e.length = sz ∧ Cs.rz W ok B x.e x.us x.fs
def elsV (L : List El) : List Value := (L.map (·.us)).flatten
def elsF (L : List El) : List Nat := (L.map (·.fs)).flatten
section
variable {W W' : World} {ok ok' : Nat → Prop} {B B' sz : Nat}
theorem Es.rz_els : ∀ {es : List (List C)} {xs : List Value} {fs : List Nat}, Es.rz W ok B sz es xs fs → ∃ L : List El, L.map (·.e) = es ∧ elsV L = xs ∧ elsF L = fs ∧ ∀ x ∈ L, x.ok W ok B sz
  | [], xs, fs, h => by simp only [Es.rz] at h; obtain ⟨rfl, rfl⟩ := h; exact ⟨[], rfl, rfl, rfl, by simp⟩
  | e :: es, xs, fs, h => by
    simp only [Es.rz] at h
    obtain ⟨x1, x2, f1, f2, rfl, rfl, hl, h1, h2⟩ := h
    obtain ⟨L, rfl, rfl, rfl, h3⟩ := Es.rz_els h2
    refine ⟨⟨e, x1, f1⟩ :: L, rfl, rfl, rfl, fun x hx => ?_⟩
    rcases List.mem_cons.1 hx with rfl | hx
    · exact ⟨hl, h1⟩
    · exact h3 x hx
theorem els_rz : ∀ {L : List El}, (∀ x ∈ L, x.ok W ok B sz) → Es.rz W ok B sz (L.map (·.e)) (elsV L) (elsF L)
  | [], _ => by simp [elsV, elsF, Es.rz]
  | x :: L, h => by
    simp only [List.map_cons, Es.rz]
    exact ⟨x.us, elsV L, x.fs, elsF L, rfl, rfl, (h x (by simp)).1, (h x (by simp)).2, els_rz fun y hy => h y (by simp [hy])⟩
theorem els_raw : ∀ {L : List El}, (∀ x ∈ L, x.ok W ok B sz) → Es.rz W' ok' B' sz (L.map El.raw) (elsV L) []
  | [], _ => by simp [elsV, Es.rz]
  | x :: L, h => by
    simp only [List.map_cons, Es.rz]
    have h1 := h x (by simp)
    refine ⟨x.us, elsV L, [], [], rfl, rfl, ?_, Cs.rz_raw h1.2, els_raw fun y hy => h y (by simp [hy])⟩
    show (rawE x.e x.us).length = sz
    rw [rawE_length (Cs.rz_length _ _ _ h1.2)]; exact h1.1
theorem els_unraw : ∀ {L : List El} {xs : List Value} {fs : List Nat}, (∀ x ∈ L, x.ok W ok B sz) → Es.rz W' ok' B' sz (L.map El.raw) xs fs → xs = elsV L ∧ fs = []
  | [], xs, fs, _, h => by simp only [List.map_nil, Es.rz] at h; exact ⟨h.1, h.2⟩
  | x :: L, xs, fs, hL, h => by
    simp only [List.map_cons, Es.rz] at h
    obtain ⟨x1, x2, f1, f2, rfl, rfl, hl, h1, h2⟩ := h
    obtain ⟨rfl, rfl⟩ := Cs.rz_unraw (hL x (by simp)).2 h1
    obtain ⟨rfl, rfl⟩ := els_unraw (fun y hy => hL y (by simp [hy])) h2
    exact ⟨rfl, rfl⟩
theorem elsF_mem {L : List El} {b : Nat} : b ∈ elsF L ↔ ∃ x ∈ L, b ∈ x.fs := by
  simp only [elsF, List.mem_flatten, List.mem_map]
  constructor
  · rintro ⟨l, ⟨a, ha, rfl⟩, hb⟩; exact ⟨a, ha, hb⟩
  · rintro ⟨x, hx, hb⟩; exact ⟨_, ⟨x, hx, rfl⟩, hb⟩
theorem elsF_perm {L L' : List El} (h : L.Perm L') : (elsF L).Perm (elsF L') := (h.map _).flatten
end
/-- The elements in another order. -/
def pick (L : List El) (p : List Nat) : List El := p.map fun i => L.getD i default
theorem pick_range (L : List El) : pick L (List.range L.length) = L := by
  refine List.ext_getElem (by simp [pick]) fun i h1 h2 => ?_
  simp only [pick, List.getElem_map, List.getElem_range]
  rw [List.getD_eq_getElem?_getD, List.getElem?_eq_getElem h2]; rfl
theorem pick_perm {L : List El} {p q : List Nat} (h : (p ++ q).Perm (List.range L.length)) : (pick L p ++ pick L q).Perm L := by
  have := h.map fun i => L.getD i default
  rw [List.map_append] at this
  have e : (List.range L.length).map (fun i => L.getD i default) = L := pick_range L
  rw [e] at this
  exact this
theorem pick_mem {L : List El} {p q : List Nat} (h : (p ++ q).Perm (List.range L.length)) {x : El} (hx : x ∈ pick L p) : x ∈ L :=
  (pick_perm h).mem_iff.1 (List.mem_append_left _ hx)
theorem pick_nodup {L : List El} {p q : List Nat} (h : (p ++ q).Perm (List.range L.length)) (hn : (elsF L).Nodup) : (elsF (pick L p)).Nodup := by
  have h1 := (elsF_perm (pick_perm h)).nodup_iff.2 hn
  have e : elsF (pick L p ++ pick L q) = elsF (pick L p) ++ elsF (pick L q) := by simp [elsF]
  rw [e] at h1
  exact (List.nodup_append.1 h1).1
theorem pick_e (L : List El) (p : List Nat) (es : List (List C)) (h : L.map (·.e) = es) (hp : ∀ i ∈ p, i < L.length) : (pick L p).map (·.e) = p.map fun i => es.getD i [] := by
  subst h
  simp only [pick, List.map_map]
  refine List.map_congr_left fun i hi => ?_
  have := hp i hi
  simp [List.getD_eq_getElem?_getD, List.getElem?_eq_getElem this]

/-- THE CONTRACT of a function that puts a row in another order, asking a function value how two of its elements stand to each other. -/
theorem satG_sort {P : Program} {f ty sz : Nat} {es : List (List C)} {sem : List Dat → List Dat → Prop} {p : List Nat} (hf : FnOk P f) (hp : p.Perm (List.range es.length))
    (raw : ∀ L : List El, L.map (·.e) = es → (∀ x ∈ L, x.us.length = x.e.length) → SatG P f false [.ref 1, .fn fun ds rs => ∃ x ∈ L, ∃ y ∈ L, ds = [(true, x.raw), (true, y.raw)] ∧ sem [(true, Cs.strip x.e), (true, Cs.strip y.e)] rs] [(1, .arr true ty sz (L.map El.raw))] (.tup []) [(1, .arr true ty sz ((pick L p).map El.raw))]) :
    SatG P f false [.ref 1, .fn sem] [(1, .arr true ty sz es)] (.tup []) [(1, .arr true ty sz (p.map fun i => es.getD i []))] := by
  refine ⟨hf, fun W ok X Y vs ν F N γ hok hdp hh hts => ?_⟩
  have hb := hh.heap 1 (.arr true ty sz es) rfl
  simp only [Blk.rz, Fr.B] at hb
  obtain ⟨xs, ho, he⟩ := hb
  obtain ⟨L, hLe, hLv, hLf, hLok⟩ := Es.rz_els he
  have hn : L.length = es.length := by rw [← hLe, List.length_map]
  have topg : ∀ g, (ν 1).ownBlock = some g → topOf (fun κ => lk κ [(1, Blk.arr true ty sz es)]) ν 1 = some g := fun g hg => by simp [topOf, lk, topB, hg]
  have hfp := Es.rz_fp _ _ _ _ he
  have hX : ∀ g, (ν 1).ownBlock = some g → X g := fun g hg => by
    have := hh.n1 1 g (topg g hg)
    rcases this with h | h
    · have h : W.heap.size ≤ g := h; have := ownsRow_lt ho hg; omega
    · exact h
  have hXF : ∀ b ∈ F 1, (ν 1).ownBlock ≠ some b := fun b hb h => hh.d2 1 1 b hb (topg b h)
  let X' : Nat → Prop := fun b => (ν 1).ownBlock = some b
  let fr' : Fr := ⟨P, W, fun _ => False, N, γ, X', fun _ => False⟩
  have hmono : ∀ W', BelowX X' W W' → BelowX X W W' := fun W' hB => ⟨hB.os, hB.tape, hB.output, hB.size, hB.drawn, fun b hb hXb => hB.block b hb fun h => hXb (hX b h)⟩
  have top' : ∀ (es' : List (List C)) κ b, topOf (fun κ => lk κ [(1, Blk.arr true ty sz es')]) ν κ = some b → κ = 1 ∧ (ν 1).ownBlock = some b := by
    intro es' κ b h
    simp only [topOf, lk] at h
    split at h
    · rename_i e; subst e; exact ⟨rfl, h⟩
    · simp [topB] at h
  -- the bare row
  have hh' : HRel fr' (fun κ => lk κ [(1, Blk.arr true ty sz (L.map El.raw))]) W ν (fun _ => []) := by
    refine ⟨?_, fun _ _ => rfl, fun κ κ' b hne h1 h2 => hne ((top' _ κ b h1).1.trans (top' _ κ' b h2).1.symm), fun κ κ' b h => (by cases h), fun _ => List.nodup_nil, fun κ κ' b _ h => (by cases h), fun κ b h => .inr (top' _ κ b h).2, fun κ b h => (by cases h)⟩
    intro κ blk hb
    simp only [lk] at hb
    split at hb
    · rename_i e; subst e
      simp only [Option.some.injEq] at hb; subst hb
      simp only [Blk.rz, Fr.B]
      refine ⟨xs, by rw [List.length_map, hn]; exact ho, ?_⟩
      rw [← hLv]; exact els_raw hLok
    · cases hb
  -- what is handed over
  simp only [Ts.rz, T.rz] at hts
  obtain ⟨v1, _, rfl, ⟨rfl, hk1⟩, u, _, rfl, hfn, rfl⟩ := hts
  obtain ⟨g, caps, rfl, hcall⟩ := hfn
  have hts' : Ts.rz fr' W (okOf fr' W (fun κ => lk κ [(1, Blk.arr true ty sz (L.map El.raw))]) ν) ν (fun κ => lk κ [(1, Blk.arr true ty sz (L.map El.raw))]) [.ref 1, .fn fun ds rs => ∃ x ∈ L, ∃ y ∈ L, ds = [(true, x.raw), (true, y.raw)] ∧ sem [(true, Cs.strip x.e), (true, Cs.strip y.e)] rs] [ν 1, .func (.func g) #[] caps] := by
    simp only [Ts.rz, T.rz]
    refine ⟨ν 1, _, rfl, ⟨rfl, rfl⟩, _, [], rfl, ⟨g, caps, rfl, fun W' hB okc ds vs rs hsem hds hokc => ?_⟩, rfl⟩
    obtain ⟨x, hx, y, hy, rfl, hs⟩ := hsem
    have hkeep : ∀ b ∈ F 1, W'.heap[b]? = W.heap[b]? := fun b hb => hB.block b (hfp b hb).2 (hXF b hb)
    have rd : ∀ x ∈ L, Cs.rz W' (fun b => b ∈ F 1) 0 (Cs.strip x.e) x.us [] := fun x hx => by
      have h1 := hLok x hx
      have hsub : ∀ b ∈ x.fs, b ∈ F 1 := fun b hb => by rw [← hLf]; exact elsF_mem.2 ⟨x, hx, hb⟩
      have h2 := Cs.rz_move (W' := W') (ok' := fun b => b ∈ F 1) (fun b hb => hb.elim) (Nat.le_refl 0) x.e x.us x.fs (fun b hb => hkeep b (hsub b hb)) h1.2
      exact Cs.rz_strip x.e x.us x.fs hsub h2
    simp only [Dats.rz, Dat.rz] at hds
    obtain ⟨v1, _, f1, f2, rfl, _, ⟨us1, k1, e1⟩, v2, _, f3, f4, rfl, _, ⟨us2, k2, e2⟩, rfl, _⟩ := hds
    obtain ⟨rfl, _⟩ := Cs.rz_unraw (hLok x hx).2 k1
    obtain ⟨rfl, _⟩ := Cs.rz_unraw (hLok y hy).2 k2
    have := hcall W' (hmono W' hB) (fun b => b ∈ F 1) [(true, Cs.strip x.e), (true, Cs.strip y.e)] [v1, v2] rs hs (by
      simp only [Dats.rz, Dat.rz]
      exact ⟨v1, _, [], [], rfl, rfl, ⟨x.us, rd x hx, e1⟩, v2, _, [], [], rfl, rfl, ⟨y.us, rd y hy, e2⟩, rfl, rfl⟩) (fun b hb => Nat.lt_of_lt_of_le (hfp b hb).2 hB.size)
    refine ⟨this.1, this.2.mono ?_⟩
    rintro e W'' ⟨hb1, v, rfl, hres⟩
    refine ⟨hb1, v, rfl, ?_⟩
    obtain ⟨vs2, fp, rfl, hd2, hnd2, ht2⟩ := hres
    have eok : okRes true (fun b => b ∈ F 1) W'.heap.size W'' fp = okRes true okc W'.heap.size W'' fp := by funext b; simp [okRes]
    rw [eok] at hd2
    exact ⟨vs2, fp, rfl, hd2, hnd2, ht2⟩
  have h4 := (raw L hLe (fun x hx => Cs.rz_length _ _ _ (hLok x hx).2)).2 W (fun _ => False) X' (fun _ => False) [ν 1, .func (.func g) #[] caps] ν (fun _ => []) N γ (fun b hb => hb.elim) (fun h => by cases h) hh' hts'
  refine h4.mono ?_
  rintro e W' ⟨hB, v, ν', F', rfl, hT, hH, hν⟩
  have hB : BelowX X' W W' := hB
  have h1 := hH.heap 1 _ rfl
  simp only [Blk.rz, Fr.B] at h1
  obtain ⟨xs', ho', he'⟩ := h1
  have hp' : (p ++ []).Perm (List.range L.length) := by rw [List.append_nil, hn]; exact hp
  have hpl : ∀ i ∈ p, i < L.length := fun i hi => by have := hp.mem_iff.1 hi; rw [hn]; exact List.mem_range.1 this
  have hok' : ∀ x ∈ pick L p, x.ok W (fun _ => False) 0 sz := fun x hx => hLok x (pick_mem hp' hx)
  obtain ⟨rfl, _⟩ := els_unraw hok' he'
  rw [hν 1 rfl] at ho'
  have hsub : ∀ b ∈ elsF (pick L p), b ∈ F 1 := fun b hb => by
    obtain ⟨x, hx, hb⟩ := elsF_mem.1 hb
    rw [← hLf]; exact elsF_mem.2 ⟨x, pick_mem hp' hx, hb⟩
  have hkeep : ∀ b ∈ F 1, W'.heap[b]? = W.heap[b]? := fun b hb => hB.block b (hfp b hb).2 (hXF b hb)
  have hel := els_rz (L := pick L p) (W := W') (ok := fun _ => False) (B := 0) (sz := sz) (fun x hx => ⟨(hok' x hx).1, Cs.rz_move (fun b hb => hb.elim) (Nat.le_refl 0) x.e x.us x.fs (fun b hb => hkeep b (hsub b (elsF_mem.2 ⟨x, hx, hb⟩))) (hok' x hx).2⟩)
  rw [pick_e L p es hLe hpl] at hel
  refine ⟨hmono W' hB, v, ν, fun κ => if κ = 1 then elsF (pick L p) else [], rfl, ?_, ⟨?_, ?_, ?_, ?_, ?_, ?_, ?_, ?_⟩, fun _ _ => rfl⟩
  · simp only [T.rz, Ts.rz] at hT ⊢; exact hT
  · intro κ blk hb
    simp only [lk] at hb
    split at hb
    · rename_i e; subst e
      simp only [Option.some.injEq] at hb; subst hb
      simp only [Blk.rz, Fr.B, if_pos]
      refine ⟨_, ?_, hel⟩
      have e2 : (List.map (fun i => es.getD i []) p).length = ((pick L p).map El.raw).length := by simp [pick]
      rw [e2]; exact ho'
    · cases hb
  · intro κ hb
    have hne : κ ≠ 1 := by rintro rfl; simp [lk] at hb
    exact if_neg hne
  · exact fun κ κ' b hne h1 h2 => hne ((top' _ κ b h1).1.trans (top' _ κ' b h2).1.symm)
  · intro κ κ' b h1 h2
    by_cases hκ : κ = 1
    · subst hκ
      simp only [if_pos] at h1
      exact hXF b (hsub b h1) (top' _ κ' b h2).2
    · simp only [if_neg hκ] at h1; cases h1
  · intro κ
    show (if κ = 1 then elsF (pick L p) else []).Nodup
    split
    · exact pick_nodup hp' (by rw [hLf]; exact hh.d3 1)
    · exact List.nodup_nil
  · intro κ κ' b hne h1 h2
    by_cases hκ : κ = 1
    · subst hκ
      simp only [if_neg (fun e => hne (Eq.symm e) : ¬ κ' = 1)] at h2
      cases h2
    · simp only [if_neg hκ] at h1; cases h1
  · intro κ b h1
    exact .inr (hX b (top' _ κ b h1).2)
  · intro κ b h1
    by_cases hκ : κ = 1
    · subst hκ
      simp only [if_pos] at h1
      exact hh.n2 1 b (hsub b h1)
    · simp only [if_neg hκ] at h1; cases h1
/-- THE CONTRACT of a function that puts some elements of a row into a new one, without a look at what they own; the old row is given away. -/
theorem satG_move {P : Program} {f ty sz : Nat} {es : List (List C)} {r : Int} {p q : List Nat} (hf : FnOk P f) (hp : (p ++ q).Perm (List.range es.length))
    (raw : ∀ L : List El, L.map (·.e) = es → (∀ x ∈ L, x.us.length = x.e.length) → ∃ d2, SatG P f false [.ref 1, .c (.int .i64 r)] [(1, .arr true ty sz (L.map El.raw))] (.ref 2) [(1, .arr true ty sz (L.map El.raw)), (2, .arr d2 ty sz ((pick L p).map El.raw))]) :
    SatG P f false [.ref 1, .c (.int .i64 r)] [(1, .arr true ty sz es)] (.ref 2) [(1, .dead), (2, .arr true ty sz (p.map fun i => es.getD i []))] := by
  refine ⟨hf, fun W ok X Y vs ν F N γ hok hdp hh hts => ?_⟩
  have hb := hh.heap 1 (.arr true ty sz es) rfl
  simp only [Blk.rz, Fr.B] at hb
  obtain ⟨xs, ho, he⟩ := hb
  obtain ⟨L, hLe, hLv, hLf, hLok⟩ := Es.rz_els he
  have hn : L.length = es.length := by rw [← hLe, List.length_map]
  have topg : ∀ g, (ν 1).ownBlock = some g → topOf (fun κ => lk κ [(1, Blk.arr true ty sz es)]) ν 1 = some g := fun g hg => by simp [topOf, lk, topB, hg]
  have hfp := Es.rz_fp _ _ _ _ he
  have hX : ∀ g, (ν 1).ownBlock = some g → X g := fun g hg => by
    have := hh.n1 1 g (topg g hg)
    rcases this with h | h
    · have h : W.heap.size ≤ g := h; have := ownsRow_lt ho hg; omega
    · exact h
  have hXF : ∀ b ∈ F 1, (ν 1).ownBlock ≠ some b := fun b hb h => hh.d2 1 1 b hb (topg b h)
  let X' : Nat → Prop := fun b => (ν 1).ownBlock = some b
  let fr' : Fr := ⟨P, W, fun _ => False, N, γ, X', fun _ => False⟩
  have hmono : ∀ W', BelowX X' W W' → BelowX X W W' := fun W' hB => ⟨hB.os, hB.tape, hB.output, hB.size, hB.drawn, fun b hb hXb => hB.block b hb fun h => hXb (hX b h)⟩
  have top' : ∀ (es' : List (List C)) κ b, topOf (fun κ => lk κ [(1, Blk.arr true ty sz es')]) ν κ = some b → κ = 1 ∧ (ν 1).ownBlock = some b := by
    intro es' κ b h
    simp only [topOf, lk] at h
    split at h
    · rename_i e; subst e; exact ⟨rfl, h⟩
    · simp [topB] at h
  have hh' : HRel fr' (fun κ => lk κ [(1, Blk.arr true ty sz (L.map El.raw))]) W ν (fun _ => []) := by
    refine ⟨?_, fun _ _ => rfl, fun κ κ' b hne h1 h2 => hne ((top' _ κ b h1).1.trans (top' _ κ' b h2).1.symm), fun κ κ' b h => (by cases h), fun _ => List.nodup_nil, fun κ κ' b _ h => (by cases h), fun κ b h => .inr (top' _ κ b h).2, fun κ b h => (by cases h)⟩
    intro κ blk hb
    simp only [lk] at hb
    split at hb
    · rename_i e; subst e
      simp only [Option.some.injEq] at hb; subst hb
      simp only [Blk.rz, Fr.B]
      refine ⟨xs, by rw [List.length_map, hn]; exact ho, ?_⟩
      rw [← hLv]; exact els_raw hLok
    · cases hb
  simp only [Ts.rz, T.rz, C.rz] at hts
  obtain ⟨v1, _, rfl, ⟨rfl, hk1⟩, u, _, rfl, ⟨rfl, _⟩, rfl⟩ := hts
  have hts' : Ts.rz fr' W (okOf fr' W (fun κ => lk κ [(1, Blk.arr true ty sz (L.map El.raw))]) ν) ν (fun κ => lk κ [(1, Blk.arr true ty sz (L.map El.raw))]) [.ref 1, .c (.int .i64 r)] [ν 1, .int .i64 r] := by
    simp only [Ts.rz, T.rz, C.rz]
    exact ⟨ν 1, _, rfl, ⟨rfl, rfl⟩, _, [], rfl, ⟨rfl, trivial⟩, rfl⟩
  obtain ⟨d2, raw2⟩ := raw L hLe (fun x hx => Cs.rz_length _ _ _ (hLok x hx).2)
  have h4 := raw2.2 W (fun _ => False) X' (fun _ => False) [ν 1, .int .i64 r] ν (fun _ => []) N γ (fun b hb => hb.elim) (fun h => by cases h) hh' hts'
  refine h4.mono ?_
  rintro e W' ⟨hB, v, ν', F', rfl, hT, hH, hν⟩
  have hB : BelowX X' W W' := hB
  have h1 := hH.heap 2 _ rfl
  simp only [T.rz] at hT
  obtain ⟨rfl, _⟩ := hT
  have hp' : (p ++ q).Perm (List.range L.length) := by rw [hn]; exact hp
  have hpl : ∀ i ∈ p, i < L.length := fun i hi => by have := hp.mem_iff.1 (List.mem_append_left _ hi); rw [hn]; exact List.mem_range.1 this
  have hok' : ∀ x ∈ pick L p, x.ok W (fun _ => False) 0 sz := fun x hx => hLok x (pick_mem hp' hx)
  have h1' : W'.ownsRow 0 ty sz (ν' 2) ((pick L p).map El.raw).length (elsV (pick L p)) := by
    cases d2 with
    | true =>
      simp only [Blk.rz, Fr.B] at h1
      obtain ⟨xs', ho', he'⟩ := h1
      rw [← (els_unraw hok' he').1]; exact ho'
    | false =>
      simp only [Blk.rz, Fr.B] at h1
      obtain ⟨xs', ho', he', _⟩ := h1
      rw [← (els_unraw hok' he').1]; exact ho'
  have ho' := h1'
  have hsub : ∀ b ∈ elsF (pick L p), b ∈ F 1 := fun b hb => by
    obtain ⟨x, hx, hb⟩ := elsF_mem.1 hb
    rw [← hLf]; exact elsF_mem.2 ⟨x, pick_mem hp' hx, hb⟩
  have hkeep : ∀ b ∈ F 1, W'.heap[b]? = W.heap[b]? := fun b hb => hB.block b (hfp b hb).2 (hXF b hb)
  have hel := els_rz (L := pick L p) (W := W') (ok := fun _ => False) (B := 0) (sz := sz) (fun x hx => ⟨(hok' x hx).1, Cs.rz_move (fun b hb => hb.elim) (Nat.le_refl 0) x.e x.us x.fs (fun b hb => hkeep b (hsub b (elsF_mem.2 ⟨x, hx, hb⟩))) (hok' x hx).2⟩)
  rw [pick_e L p es hLe hpl] at hel
  have e2 : (List.map (fun i => es.getD i []) p).length = ((pick L p).map El.raw).length := by simp [pick]
  refine postG_row (k := 2) (fs' := elsF (pick L p)) rfl rfl ?_ (hmono W' hB) (by rw [e2]; exact ho') hel (pick_nodup hp' (by rw [hLf]; exact hh.d3 1)) (fun b hb => hh.n2 1 b (hsub b hb)) ?_
  · intro κ blk hκ hb
    simp only [lk] at hb
    split at hb
    · rename_i e; subst e; simp only [Option.some.injEq] at hb; exact ⟨hb.symm, ownsRow_one ho⟩
    · first | cases hb | (rw [if_neg hκ] at hb; cases hb) | (simp [hκ] at hb)
  · intro g hg
    have ht : topOf (fun κ => lk κ [(1, Blk.arr true ty sz (L.map El.raw)), (2, .arr d2 ty sz ((pick L p).map El.raw))]) ν' 2 = some g := by simp [topOf, lk, topB, hg]
    have h1 := hH.n1 2 g ht
    rcases h1 with h1 | h1
    · have h1 : W.heap.size ≤ g := h1
      exact ⟨.inl h1, fun hm => by have := (hfp g (hsub g hm)).2; omega⟩
    · have h1 : (ν 1).ownBlock = some g := h1
      exact ⟨.inr (hX g h1), fun hm => hXF g (hsub g hm) h1⟩
end Go.Vm

namespace Go.Vm
open Go Go.RowKit

theorem grownBy_trans {W W1 W2 : World} {r : Option Nat} (h1 : W.grownBy W1 r) (h2 : W1.grownBy W2 r) : W.grownBy W2 r :=
  ⟨h2.os.trans h1.os, h2.tape.trans h1.tape, h2.output.trans h1.output, Nat.le_trans h1.size h2.size, fun k hk hr => (h2.block k (Nat.lt_of_lt_of_le hk h1.size) hr).trans (h1.block k hk hr)⟩
theorem grownBy_refl (W : World) (r : Option Nat) : W.grownBy W r := ⟨rfl, rfl, rfl, Nat.le_refl _, fun _ _ _ => rfl⟩
theorem grownBy_drew {W W1 : World} {r : Option Nat} (h : W.drew.grownBy W1 r) : W.grownBy W1 r := ⟨h.os, h.tape, h.output, h.size, h.block⟩
theorem grownBy_drew' {W W1 : World} {r : Option Nat} (h : W.grownBy W1 r) : W.grownBy W1.drew r := ⟨h.os, h.tape, h.output, h.size, h.block⟩
theorem grownBy_setCells (g : Nat) : ∀ (vs : List Value) (o : Nat) (W : World), W.grownBy (W.setCells g o vs) (some g)
  | [], _, W => grownBy_refl W _
  | v :: vs, o, W => by
    rw [World.setCells]
    refine grownBy_trans ?_ (grownBy_setCells g vs (o + 1) _)
    refine ⟨rfl, rfl, rfl, by simp [World.setCell], fun k hk hr => ?_⟩
    have hne : ¬ g = k := fun h => hr (by rw [h])
    simp only [World.setCell, Array.getElem?_modify, if_neg hne]
theorem drawn_setCells (g : Nat) : ∀ (vs : List Value) (o : Nat) (W : World), (W.setCells g o vs).drawn = W.drawn
  | [], _, _ => rfl
  | v :: vs, o, W => by rw [World.setCells, drawn_setCells g vs]; rfl
theorem heap_setCells {g ty : Nat} {f : Nat × Nat} : ∀ (vs : List Value) (o : Nat) (W : World) (cur : Array Value), W.heap[g]? = some (.cells cur ty f) → o + vs.length ≤ cur.size →
    ∃ cur', (W.setCells g o vs).heap[g]? = some (.cells cur' ty f) ∧ cur'.size = cur.size ∧ cur'.toList = cur.toList.take o ++ vs ++ cur.toList.drop (o + vs.length)
  | [], o, W, cur, h, _ => ⟨cur, h, rfl, by simp⟩
  | v :: vs, o, W, cur, h, hl => by
    rw [World.setCells]
    simp only [List.length_cons] at hl
    have h1 : (W.setCell ⟨g, o, none⟩ v).heap[g]? = some (.cells (cur.setIfInBounds o v) ty f) := by
      simp only [World.setCell, Array.getElem?_modify, h, Option.map_some]
      rfl
    obtain ⟨cur', h2, h3, h4⟩ := heap_setCells vs (o + 1) _ (cur.setIfInBounds o v) h1 (by simp; omega)
    refine ⟨cur', h2, by simpa using h3, ?_⟩
    have hc : o < cur.toList.length := by rw [Array.length_toList]; omega
    rw [h4, Array.toList_setIfInBounds, List.set_eq_take_append_cons_drop, if_pos hc]
    have e0 : (cur.toList.take o).length = o := by rw [List.length_take]; omega
    have e1 : (cur.toList.take o ++ v :: cur.toList.drop (o + 1)).take (o + 1) = cur.toList.take o ++ [v] := by
      rw [List.take_append, e0, List.take_of_length_le (by omega)]; simp
    have e2 : (cur.toList.take o ++ v :: cur.toList.drop (o + 1)).drop (o + 1 + vs.length) = cur.toList.drop (o + (vs.length + 1)) := by
      rw [List.drop_append, e0, List.drop_eq_nil_of_le (by omega), show o + 1 + vs.length - o = vs.length + 1 by omega, List.drop_succ_cons, List.drop_drop]
      simp [Nat.add_comm, Nat.add_left_comm, Nat.add_assoc]
    rw [e1, e2, List.length_cons]; simp
theorem frozen_zero {W : World} {g ty : Nat} {cur : Array Value} (h : W.heap[g]? = some (.cells cur ty (0, 0))) (j : Nat) : W.frozen? ⟨g, j, none⟩ = false := by
  simp [World.frozen?, h]
theorem cells_row {W : World} {g ty : Nat} {cur : Array Value} (h : W.heap[g]? = some (.cells cur ty (0, 0))) (j : Nat) : W.cell? ⟨g, j, none⟩ = cur[j]? := by
  simp [World.cell?, h]
theorem shape_row {W : World} {g ty : Nat} {cur : Array Value} (h : W.heap[g]? = some (.cells cur ty (0, 0))) : W.shape? g = some (ty, cur.size) := by
  simp [World.shape?, h]

/-- The row behind 'Delete'. -/
theorem row_delete {W : World} {g ty sz n cap i j : Nat} {cur : Array Value} {xs zs : List Value} (hg : W.heap[g]? = some (.cells cur ty (0, 0))) (hn : n ≤ cap) (hm : cap ≤ maxLen) (hc : cur.size = cap * sz) (hx : cur.toList.take (n * sz) = xs)
    (hij : j = i + 1) (hi : i < n) (hz : zs.length = sz) :
    ((W.drew.setCells g (i * sz) (xs.drop (j * sz))).setCells g ((i + (n - j)) * sz) zs).ownsRow 0 ty sz (.slice (some ⟨g, 0, none⟩) (i + (n - j)) cap) (n - 1) (xs.take (i * sz) ++ xs.drop (j * sz)) ∧
      W.grownBy ((W.drew.setCells g (i * sz) (xs.drop (j * sz))).setCells g ((i + (n - j)) * sz) zs) (some g) := by
  have hl : cur.toList.length = cap * sz := by rw [Array.length_toList]; exact hc
  have hxl : xs.length = n * sz := by rw [← hx, List.length_take, hl]; exact Nat.min_eq_left (Nat.mul_le_mul_right _ hn)
  have hdl : (xs.drop (j * sz)).length = (n - j) * sz := by rw [List.length_drop, hxl, Nat.sub_mul]
  have hq : i + (n - j) = n - 1 := by omega
  have hqs : i * sz + (n - j) * sz = (n - 1) * sz := by rw [← Nat.add_mul, hq]
  have hle : (n - 1) * sz + sz ≤ cap * sz := by rw [← Nat.succ_mul]; exact Nat.mul_le_mul_right _ (by omega)
  have his : i * sz ≤ n * sz := Nat.mul_le_mul_right _ (by omega)
  have hnc : n * sz ≤ cap * sz := Nat.mul_le_mul_right _ hn
  obtain ⟨c1, a1, a2, a3⟩ := heap_setCells (W := W.drew) (cur := cur) (xs.drop (j * sz)) (i * sz) hg (by rw [hdl, hqs, hc]; omega)
  obtain ⟨c2, b1, b2, b3⟩ := heap_setCells (W := W.drew.setCells g (i * sz) (xs.drop (j * sz))) (cur := c1) zs ((i + (n - j)) * sz) a1 (by rw [hz, a2, hc, hq]; omega)
  have htk : cur.toList.take (i * sz) = xs.take (i * sz) := by rw [← hx, List.take_take, Nat.min_eq_left his]
  have e0 : (xs.take (i * sz)).length = i * sz := by rw [List.length_take, hxl]; omega
  have e1 : c1.toList.take ((n - 1) * sz) = xs.take (i * sz) ++ xs.drop (j * sz) := by
    rw [a3, htk, ← hqs]
    have e2 : (xs.take (i * sz) ++ xs.drop (j * sz)).length = i * sz + (n - j) * sz := by rw [List.length_append, e0, hdl]
    rw [← e2, List.take_left]
  refine ⟨⟨by rw [List.length_append, e0, hdl, hqs], .inr ⟨g, cap, c2, by rw [hq], Nat.zero_le _, b1, by omega, hm, by rw [b2, a2, hc], ?_⟩⟩, ?_⟩
  · rw [b3, hq]
    have e3 : (c1.toList.take ((n - 1) * sz)).length = (n - 1) * sz := by rw [List.length_take, Array.length_toList, a2, hc]; omega
    rw [List.append_assoc, List.take_append, e3, Nat.sub_self, List.take_zero, List.append_nil, List.take_of_length_le (by omega), e1]
  · exact grownBy_drew (grownBy_trans (grownBy_setCells g _ _ _) (grownBy_setCells g _ _ _))
/-- The row behind 'Insert', where there is room. -/
theorem row_insert {W : World} {g ty sz n cap i : Nat} {cur : Array Value} {xs ys : List Value} (hg : W.heap[g]? = some (.cells cur ty (0, 0))) (hn : n + 1 ≤ cap) (hm : cap ≤ maxLen) (hc : cur.size = cap * sz) (hx : cur.toList.take (n * sz) = xs)
    (hi : i < n) (hy : ys.length = sz) :
    ((W.drew.setCells g ((i + 1) * sz) (xs.drop (i * sz))).setCells g (i * sz) ys).ownsRow 0 ty sz (.slice (some ⟨g, 0, none⟩) (n + 1) cap) (n + 1) (xs.take (i * sz) ++ ys ++ xs.drop (i * sz)) ∧
      W.grownBy ((W.drew.setCells g ((i + 1) * sz) (xs.drop (i * sz))).setCells g (i * sz) ys) (some g) := by
  have hl : cur.toList.length = cap * sz := by rw [Array.length_toList]; exact hc
  have hnc : n * sz ≤ cap * sz := Nat.mul_le_mul_right _ (by omega)
  have hxl : xs.length = n * sz := by rw [← hx, List.length_take, hl]; exact Nat.min_eq_left hnc
  have hdl : (xs.drop (i * sz)).length = (n - i) * sz := by rw [List.length_drop, hxl, Nat.sub_mul]
  have hs1 : (i + 1) * sz = i * sz + sz := by rw [Nat.add_mul, Nat.one_mul]
  have hqs : i * sz + (n - i) * sz = n * sz := by rw [← Nat.add_mul, show i + (n - i) = n by omega]
  have hn1 : (n + 1) * sz = n * sz + sz := by rw [Nat.add_mul, Nat.one_mul]
  have hle : n * sz + sz ≤ cap * sz := by rw [← hn1]; exact Nat.mul_le_mul_right _ hn
  obtain ⟨c1, a1, a2, a3⟩ := heap_setCells (W := W.drew) (cur := cur) (xs.drop (i * sz)) ((i + 1) * sz) hg (by rw [hdl, hc]; omega)
  obtain ⟨c2, b1, b2, b3⟩ := heap_setCells (W := W.drew.setCells g ((i + 1) * sz) (xs.drop (i * sz))) (cur := c1) ys (i * sz) a1 (by rw [hy, a2, hc]; omega)
  have htk : cur.toList.take (i * sz) = xs.take (i * sz) := by rw [← hx, List.take_take, Nat.min_eq_left (by omega)]
  have e0 : (xs.take (i * sz)).length = i * sz := by rw [List.length_take, hxl]; omega
  have ec : (cur.toList.take ((i + 1) * sz)).length = (i + 1) * sz := by rw [List.length_take, hl]; omega
  have f1 : c1.toList.take (i * sz) = xs.take (i * sz) := by
    rw [a3, List.append_assoc, List.take_append, ec, List.take_take, Nat.min_eq_left (by omega), show i * sz - (i + 1) * sz = 0 by omega, List.take_zero, List.append_nil, htk]
  have f2 : c1.toList.drop (i * sz + sz) = xs.drop (i * sz) ++ cur.toList.drop ((i + 1) * sz + (n - i) * sz) := by
    rw [a3, hdl, List.append_assoc, List.drop_append, ec, ← hs1, Nat.sub_self, List.drop_zero, List.drop_eq_nil_of_le (by omega), List.nil_append]
  refine ⟨⟨by rw [List.length_append, List.length_append, e0, hy, hdl]; omega, .inr ⟨g, cap, c2, rfl, Nat.zero_le _, b1, hn, hm, by rw [b2, a2, hc], ?_⟩⟩, ?_⟩
  · rw [b3, hy, f1, f2, hn1]
    have e5 : (xs.take (i * sz) ++ ys ++ xs.drop (i * sz)).length = n * sz + sz := by rw [List.length_append, List.length_append, e0, hy, hdl]; omega
    rw [← List.append_assoc, ← e5, List.take_left]
  · exact grownBy_drew (grownBy_trans (grownBy_setCells g _ _ _) (grownBy_setCells g _ _ _))
/-- The row behind 'Insert', where there is none. -/
theorem row_insert_new {W : World} {ty sz n G i : Nat} {zs : List Value} {xs ys : List Value} (hn : n + 1 ≤ G) (hm : G ≤ maxLen) (hxl : xs.length = n * sz) (hi : i < n) (hy : ys.length = sz) (hz : zs.length = (G - i) * sz) :
    ((((W.alloc (.cells ((xs.take (i * sz)) ++ zs).toArray ty)).drew.setCells W.heap.size (i * sz) ys).drew).setCells W.heap.size ((i + 1) * sz) (xs.drop (i * sz))).ownsRow 0 ty sz (.slice (some ⟨W.heap.size, 0, none⟩) (n + 1) G) (n + 1) (xs.take (i * sz) ++ ys ++ xs.drop (i * sz)) ∧
      ∀ r, W.grownBy ((((W.alloc (.cells ((xs.take (i * sz)) ++ zs).toArray ty)).drew.setCells W.heap.size (i * sz) ys).drew).setCells W.heap.size ((i + 1) * sz) (xs.drop (i * sz))) r := by
  have hdl : (xs.drop (i * sz)).length = (n - i) * sz := by rw [List.length_drop, hxl, Nat.sub_mul]
  have hs1 : (i + 1) * sz = i * sz + sz := by rw [Nat.add_mul, Nat.one_mul]
  have hqs : i * sz + (n - i) * sz = n * sz := by rw [← Nat.add_mul, show i + (n - i) = n by omega]
  have hqg : i * sz + (G - i) * sz = G * sz := by rw [← Nat.add_mul, show i + (G - i) = G by omega]
  have hn1 : (n + 1) * sz = n * sz + sz := by rw [Nat.add_mul, Nat.one_mul]
  have hle : n * sz + sz ≤ G * sz := by rw [← hn1]; exact Nat.mul_le_mul_right _ hn
  have e0 : (xs.take (i * sz)).length = i * sz := by rw [List.length_take, hxl]; omega
  let N := W.heap.size
  have h0 : (W.alloc (.cells ((xs.take (i * sz)) ++ zs).toArray ty)).drew.heap[N]? = some (.cells ((xs.take (i * sz)) ++ zs).toArray ty (0, 0)) := heap_alloc_new W _
  have hsz : ((xs.take (i * sz)) ++ zs).toArray.size = G * sz := by rw [List.size_toArray, List.length_append, e0, hz, hqg]
  obtain ⟨c1, a1, a2, a3⟩ := heap_setCells ys (i * sz) _ _ h0 (by rw [hy, hsz]; omega)
  obtain ⟨c2, b1, b2, b3⟩ := heap_setCells (g := N) (W := ((W.alloc (.cells ((xs.take (i * sz)) ++ zs).toArray ty)).drew.setCells N (i * sz) ys).drew) (cur := c1) (xs.drop (i * sz)) ((i + 1) * sz) a1 (by rw [hdl, a2, hsz]; omega)
  have f1 : c1.toList.take ((i + 1) * sz) = xs.take (i * sz) ++ ys := by
    rw [a3]
    have e5 : ((xs.take (i * sz) ++ zs).toArray.toList.take (i * sz) ++ ys).length = (i + 1) * sz := by
      rw [List.length_append, List.length_take, hy, Array.length_toList, hsz]; omega
    rw [← e5, List.take_left, List.toList_toArray, List.take_append, e0, Nat.sub_self, List.take_zero, List.append_nil, List.take_of_length_le (by omega)]
  refine ⟨⟨by rw [List.length_append, List.length_append, e0, hy, hdl]; omega, .inr ⟨N, G, c2, rfl, Nat.zero_le _, b1, hn, hm, by rw [b2, a2, hsz], ?_⟩⟩, fun r => ?_⟩
  · rw [b3, f1, hn1]
    have e5 : (xs.take (i * sz) ++ ys ++ xs.drop (i * sz)).length = n * sz + sz := by rw [List.length_append, List.length_append, e0, hy, hdl]; omega
    rw [← e5, List.take_left]
  · have g1 := grownBy_setCells N ys (i * sz) (W.alloc (.cells ((xs.take (i * sz)) ++ zs).toArray ty)).drew
    have g2 := grownBy_setCells N (xs.drop (i * sz)) ((i + 1) * sz) (((W.alloc (.cells ((xs.take (i * sz)) ++ zs).toArray ty)).drew.setCells N (i * sz) ys).drew)
    refine ⟨g2.os.trans g1.os, g2.tape.trans g1.tape, g2.output.trans g1.output, ?_, fun k hk _ => ?_⟩
    · have s0 : W.heap.size ≤ (W.alloc (.cells ((xs.take (i * sz)) ++ zs).toArray ty)).drew.heap.size := by
        show W.heap.size ≤ (W.heap.push _).size; simp
      exact Nat.le_trans s0 (Nat.le_trans g1.size g2.size)
    · have hne : some k ≠ some N := by intro h; simp only [Option.some.injEq] at h; omega
      have s0 : W.heap.size < (W.alloc (.cells ((xs.take (i * sz)) ++ zs).toArray ty)).drew.heap.size := by
        show W.heap.size < (W.heap.push _).size; simp
      rw [g2.block k (by have := g1.size; have : (((W.alloc (.cells ((xs.take (i * sz)) ++ zs).toArray ty)).drew.setCells N (i * sz) ys).drew).heap.size = ((W.alloc (.cells ((xs.take (i * sz)) ++ zs).toArray ty)).drew.setCells N (i * sz) ys).heap.size := rfl; omega) hne]
      have e1 : (((W.alloc (.cells ((xs.take (i * sz)) ++ zs).toArray ty)).drew.setCells N (i * sz) ys).drew).heap[k]? = ((W.alloc (.cells ((xs.take (i * sz)) ++ zs).toArray ty)).drew.setCells N (i * sz) ys).heap[k]? := rfl
      rw [e1, g1.block k (by omega) hne]
      show (W.heap.push _)[k]? = W.heap[k]?
      rw [Array.getElem?_push, if_neg (by omega)]
end Go.Vm

namespace Go.Vm
open Go Go.RowKit

mutual
/-- What a call hands back, with the rows that are no more written read as data. -/
def reT (fz : List (Nat × Blk)) : T → T
  | .ref κ => match lk κ fz with | some (.fro sz es) => .c (.sl none sz es) | _ => .un
  | .c x => .c x
  | .agg xs => .agg (reTs fz xs)
  | .tup xs => .tup (reTs fz xs)
  | _ => .un
def reTs (fz : List (Nat × Blk)) : List T → List T
  | [] => []
  | t :: ts => reT fz t :: reTs fz ts
end
def allFro : List (Nat × Blk) → Prop
  | [] => True
  | (_, .fro _ _) :: r => allFro r
  | _ => False
theorem allFro_get : ∀ {fz : List (Nat × Blk)} {κ : Nat} {b : Blk}, allFro fz → lk κ fz = some b → ∃ sz es, b = .fro sz es
  | [], κ, b, _, h => by simp [lk] at h
  | (k, x) :: r, κ, b, hf, h => by
    cases x with
    | fro sz es =>
      simp only [lk] at h
      split at h
      · cases h; exact ⟨sz, es, rfl⟩
      · exact allFro_get (fz := r) hf h
    | _ => exact hf.elim
section
variable {fr : Fr} {W : World} {ok : Nat → Prop} {ν : Nat → Value} {h h' : Nat → Option Blk} {fz : List (Nat × Blk)}
mutual
theorem reT_rz (hf : ∀ κ sz es, lk κ fz = some (.fro sz es) → C.rz W ok 0 (.sl none sz es) (ν κ) []) : ∀ (t : T) (v : Value), T.rz fr W ok ν h t v → T.rz fr W ok ν h' (reT fz t) v
  | .ref κ, v, hr => by
    simp only [T.rz] at hr
    simp only [reT]
    split
    · rename_i sz es he; simp only [T.rz]; rw [hr.1]; exact hf κ sz es he
    · simp only [T.rz]
  | .c x, v, hr => by simp only [reT, T.rz] at hr ⊢; exact hr
  | .agg xs, v, hr => by
    simp only [reT, T.rz] at hr ⊢
    obtain ⟨us, h1, h2, h3⟩ := hr
    exact ⟨us, h1, h2, reTs_rz hf xs us h3⟩
  | .tup xs, v, hr => by
    simp only [reT, T.rz] at hr ⊢
    obtain ⟨us, h1, h3⟩ := hr
    exact ⟨us, h1, reTs_rz hf xs us h3⟩
  | .nilS, v, hr => by simp only [reT, T.rz]
  | .ptr κ off, v, hr => by simp only [reT, T.rz]
  | .ep κ sz i off, v, hr => by simp only [reT, T.rz]
  | .pv xs, v, hr => by simp only [reT, T.rz]
  | .clo f xs, v, hr => by simp only [reT, T.rz]
  | .fn sem, v, hr => by simp only [reT, T.rz]
  | .un, v, hr => by simp only [reT, T.rz]
  | .nn sz es, v, hr => by simp only [reT, T.rz]
  | .ca x, v, hr => by simp only [reT, T.rz]
theorem reTs_rz (hf : ∀ κ sz es, lk κ fz = some (.fro sz es) → C.rz W ok 0 (.sl none sz es) (ν κ) []) : ∀ (ts : List T) (us : List Value), Ts.rz fr W ok ν h ts us → Ts.rz fr W ok ν h' (reTs fz ts) us
  | [], us, hr => by simp only [reTs, Ts.rz] at hr ⊢; exact hr
  | t :: ts, us, hr => by
    simp only [reTs, Ts.rz] at hr ⊢
    obtain ⟨u, us', h1, h2, h3⟩ := hr
    exact ⟨u, us', h1, reT_rz hf t u h2, reTs_rz hf ts us' h3⟩
end
end
/-- A contract whose new rows are no more written, as one that hands back data: beside the given variable nothing is left to be known of. -/
theorem satG_data {P : Program} {f : Nat} {dp : Bool} {ts : List T} {rt : T} {x y : C} {hl fz : List (Nat × Blk)} (hl1 : ∀ κ, (lk κ hl).isSome = true → κ = 1) (hfz : allFro fz) (h1 : lk 1 fz = none) (hs : SatG P f dp ts hl rt ((1, .box [.c x, .c y]) :: fz)) :
    SatG P f dp ts hl (reT fz rt) [(1, .box [.c x, .c y])] := by
  refine ⟨hs.1, fun W ok X Y vs ν F N γ hok hdp hh hts => (hs.2 W ok X Y vs ν F N γ hok hdp hh hts).mono ?_⟩
  rintro e W' ⟨hB, v, ν', F', rfl, hT, hH, hν⟩
  have etop : topOf (fun κ => lk κ [((1 : Nat), Blk.box [.c x, .c y])]) ν' = topOf (fun κ => lk κ (((1 : Nat), Blk.box [.c x, .c y]) :: fz)) ν' := by
    funext κ
    simp only [topOf, lk]
    by_cases hκ : κ = 1
    · simp only [hκ, if_true]
    · simp only [hκ, if_false]
      cases hb : lk κ fz with
      | none => rfl
      | some b => obtain ⟨sz, es, rfl⟩ := allFro_get hfz hb; rfl
  have eok : okOf ⟨P, W, ok, N, γ, X, Y⟩ W' (fun κ => lk κ [((1 : Nat), Blk.box [.c x, .c y])]) ν' = okOf ⟨P, W, ok, N, γ, X, Y⟩ W' (fun κ => lk κ (((1 : Nat), Blk.box [.c x, .c y]) :: fz)) ν' := by
    funext b; simp only [okOf, etop]
  refine ⟨hB, v, ν', fun _ => [], rfl, ?_, ⟨?_, fun _ _ => rfl, fun κ κ' b => by rw [etop]; exact hH.d1 κ κ' b, fun κ κ' b hb => (by cases hb), fun _ => List.nodup_nil, fun κ κ' b _ hb => (by cases hb), fun κ b hb => hH.n1 κ b (by rw [← etop]; exact hb), fun κ b hb => (by cases hb)⟩, hν⟩
  · rw [eok]
    refine reT_rz (fun κ sz es he => ?_) rt v hT
    have hne : κ ≠ 1 := by rintro rfl; rw [h1] at he; cases he
    have := hH.heap κ (.fro sz es) (by simp only [lk, if_neg hne]; exact he)
    simp only [Blk.rz] at this
    exact this.2
  · intro κ blk hb
    simp only [lk] at hb
    split at hb
    · rename_i e; subst e
      simp only [Option.some.injEq] at hb; subst hb
      have := hH.heap 1 (.box [.c x, .c y]) rfl
      rw [eok]
      simp only [Blk.rz, Ts.rz, T.rz] at this ⊢
      exact ⟨trivial, this.2⟩
    · cases hb
mutual
/-- A variable that is no more written, as a pointer to data. -/
def pvT (κ : Nat) (cs : List C) : T → T
  | .ptr k off => if k = κ then .pv (cs.drop off) else .ptr k off
  | .ref k => if k = κ then .un else .ref k
  | .ep k sz i o => if k = κ then .un else .ep k sz i o
  | .agg xs => .agg (pvTs κ cs xs)
  | .tup xs => .tup (pvTs κ cs xs)
  | .clo f xs => .clo f (pvTs κ cs xs)
  | .c x => .c x
  | .nilS => .nilS
  | .pv xs => .pv xs
  | .fn sem => .fn sem
  | .un => .un
  | .nn sz es => .nn sz es
  | .ca x => .ca x
def pvTs (κ : Nat) (cs : List C) : List T → List T
  | [] => []
  | t :: ts => pvT κ cs t :: pvTs κ cs ts
end
def pvB (κ : Nat) (cs : List C) : Blk → Blk
  | .box xs => .box (pvTs κ cs xs)
  | .opn ty sz pre mid post => .opn ty sz pre (pvTs κ cs mid) post
  | b => b
def pvS (κ : Nat) (cs : List C) : List (Nat × T) → List (Nat × T)
  | [] => []
  | (j, t) :: r => (j, pvT κ cs t) :: pvS κ cs r
def pvH (κ : Nat) (cs : List C) : List (Nat × Blk) → List (Nat × Blk)
  | [] => []
  | (k, b) :: r => if k = κ then pvH κ cs r else (k, pvB κ cs b) :: pvH κ cs r
theorem pvS_get {κ : Nat} {cs : List C} : ∀ {l : List (Nat × T)} (j : Nat), lkT j (pvS κ cs l) = pvT κ cs (lkT j l)
  | [], j => by simp only [pvS, lkT, pvT]
  | (k, t) :: r, j => by
    simp only [pvS, lkT]
    split
    · rfl
    · exact pvS_get j
theorem pvH_get {κ : Nat} {cs : List C} : ∀ {l : List (Nat × Blk)} (k : Nat), lk k (pvH κ cs l) = if k = κ then none else (lk k l).map (pvB κ cs)
  | [], k => by simp [pvH, lk]
  | (k', b) :: r, k => by
    simp only [pvH]
    by_cases h1 : k' = κ
    · rw [if_pos h1, pvH_get k]
      by_cases h2 : k = κ
      · simp [h2]
      · simp only [if_neg h2, lk]; rw [if_neg (by omega)]
    · rw [if_neg h1]
      simp only [lk]
      by_cases h2 : k = k'
      · subst h2; simp [h1]
      · rw [if_neg h2, if_neg h2]; exact pvH_get k
section
variable {fr : Fr} {W : World} {ok ok' : Nat → Prop} {ν : Nat → Value} {h h' : Nat → Option Blk} {κ : Nat} {cs : List C}
theorem Ts_c_rz : ∀ {cs : List C} {us : List Value}, Ts.rz fr W ok ν h (cs.map .c) us → Cs.rz W ok 0 cs us []
  | [], us, hr => by simp only [List.map_nil, Ts.rz] at hr; subst hr; simp [Cs.rz]
  | c :: cs, us, hr => by
    simp only [List.map_cons, Ts.rz] at hr
    obtain ⟨u, us', rfl, h1, h2⟩ := hr
    simp only [T.rz] at h1
    simp only [Cs.rz]
    exact ⟨u, us', [], [], rfl, rfl, h1, Ts_c_rz h2⟩
theorem Cs_rz_drop : ∀ {cs : List C} {us : List Value} (n : Nat), Cs.rz W ok 0 cs us [] → Cs.rz W ok 0 (cs.drop n) (us.drop n) []
  | [], us, n, hr => by simp only [Cs.rz] at hr; simp [hr.1, Cs.rz]
  | c :: cs, us, 0, hr => hr
  | c :: cs, us, n + 1, hr => by
    simp only [Cs.rz] at hr
    obtain ⟨u, us', f1, f2, rfl, hf, h1, h2⟩ := hr
    have e : f2 = [] := (List.append_eq_nil_iff.1 hf.symm).2
    subst e
    exact Cs_rz_drop n h2
mutual
theorem pvT_rz (hok : ∀ b, ok b → ok' b) (hh : ∀ k, k ≠ κ → (h k).isSome = true → (h' k).isSome = true) (hp : ∀ off v, T.rz fr W ok ν h (.ptr κ off) v → T.rz fr W ok' ν h' (.pv (cs.drop off)) v) : ∀ (t : T) (v : Value), T.rz fr W ok ν h t v → T.rz fr W ok' ν h' (pvT κ cs t) v
  | .ptr k off, v, hr => by
    simp only [pvT]
    split
    · rename_i e; subst e; exact hp off v hr
    · rename_i e; simp only [T.rz] at hr ⊢; exact ⟨hh k e hr.1, hr.2⟩
  | .ref k, v, hr => by
    simp only [pvT]
    split
    · simp only [T.rz]
    · rename_i e; simp only [T.rz] at hr ⊢; exact ⟨hr.1, hh k e hr.2⟩
  | .ep k sz i o, v, hr => by
    simp only [pvT]
    split
    · simp only [T.rz]
    · rename_i e; simp only [T.rz] at hr ⊢; exact ⟨hh k e hr.1, hr.2⟩
  | .agg xs, v, hr => by
    simp only [pvT, T.rz] at hr ⊢
    obtain ⟨us, h1, h2, h3⟩ := hr
    exact ⟨us, h1, h2, pvTs_rz hok hh hp xs us h3⟩
  | .tup xs, v, hr => by
    simp only [pvT, T.rz] at hr ⊢
    obtain ⟨us, h1, h3⟩ := hr
    exact ⟨us, h1, pvTs_rz hok hh hp xs us h3⟩
  | .clo f xs, v, hr => by
    simp only [pvT, T.rz] at hr ⊢
    obtain ⟨us, h1, h3⟩ := hr
    exact ⟨us, h1, pvTs_rz hok hh hp xs us h3⟩
  | .c x, v, hr => by simp only [pvT, T.rz] at hr ⊢; exact C.rz_move (fun b hb => ⟨hok b hb, rfl⟩) (Nat.le_refl _) _ v [] (by simp) hr
  | .nilS, v, hr => by simpa only [pvT, T.rz] using hr
  | .pv xs, v, hr => by
    simp only [pvT, T.rz] at hr ⊢
    obtain ⟨b, o, us, h1, h2, h3, h4⟩ := hr
    exact ⟨b, o, us, h1, hok b h2, Cs.rz_move (fun b hb => ⟨hok b hb, rfl⟩) (Nat.le_refl _) xs us [] (by simp) h3, h4⟩
  | .fn sem, v, hr => by simpa only [pvT, T.rz] using hr
  | .un, v, hr => by simp only [pvT, T.rz]
  | .nn sz es, v, hr => by simp only [pvT, T.rz] at hr ⊢; exact ⟨C.rz_move (fun b hb => ⟨hok b hb, rfl⟩) (Nat.le_refl _) _ v [] (by simp) hr.1, hr.2⟩
  | .ca x, v, hr => by simpa only [pvT, T.rz] using hr
theorem pvTs_rz (hok : ∀ b, ok b → ok' b) (hh : ∀ k, k ≠ κ → (h k).isSome = true → (h' k).isSome = true) (hp : ∀ off v, T.rz fr W ok ν h (.ptr κ off) v → T.rz fr W ok' ν h' (.pv (cs.drop off)) v) : ∀ (ts : List T) (us : List Value), Ts.rz fr W ok ν h ts us → Ts.rz fr W ok' ν h' (pvTs κ cs ts) us
  | [], us, hr => by simp only [pvTs, Ts.rz] at hr ⊢; exact hr
  | t :: ts, us, hr => by
    simp only [pvTs, Ts.rz] at hr ⊢
    obtain ⟨u, us', h1, h2, h3⟩ := hr
    exact ⟨u, us', h1, pvT_rz hok hh hp t u h2, pvTs_rz hok hh hp ts us' h3⟩
end
theorem Rel.pv {a : Act} {F : Nat → List Nat} {sl gl : List (Nat × T)} {hl : List (Nat × Blk)} (hk : lk κ hl = some (.box (cs.map .c))) (hr : Rel fr (cst sl hl gl) a W ν F) : Rel fr (cst (pvS κ cs sl) (pvH κ cs hl) (pvS κ cs gl)) a W ν F := by
  have hb0 := hr.heap κ _ hk
  simp only [Blk.rz] at hb0
  obtain ⟨hF, b, us, ty, e1, _, e3, e4, _⟩ := hb0
  have htop0 : topOf (fun k => lk k hl) ν κ = some b := by simp only [topOf, hk, topB, e1]
  have hne : ∀ k, (lk k (pvH κ cs hl)).isSome = true → k ≠ κ := fun k h e => by rw [pvH_get, if_pos e] at h; cases h
  have htop : ∀ k b', topOf (fun k => lk k (pvH κ cs hl)) ν k = some b' → k ≠ κ ∧ topOf (fun k => lk k hl) ν k = some b' := fun k b' h => by
    simp only [topOf, pvH_get] at h ⊢
    by_cases e : k = κ
    · rw [if_pos e] at h; simp [topB] at h
    · rw [if_neg e] at h
      refine ⟨e, ?_⟩
      cases hq : lk k hl with
      | none => rw [hq] at h; simp [topB] at h
      | some blk => rw [hq] at h; cases blk <;> first | (simp [pvB, topB] at h; done) | simpa [pvB, topB] using h
  have hok : ∀ b', okOf fr W (fun k => lk k hl) ν b' → okOf fr W (fun k => lk k (pvH κ cs hl)) ν b' := fun b' ⟨h1, h2, h3⟩ => ⟨h1, h2, fun k hk => h3 k (htop k b' hk).2⟩
  have hokb : okOf fr W (fun k => lk k (pvH κ cs hl)) ν b := by
    refine ⟨.inr (hr.n1 κ b htop0).new, ?_, fun k hk => ?_⟩
    · by_cases hq : b < W.heap.size
      · exact hq
      · rw [Array.getElem?_eq_none (by omega)] at e3; cases e3
    · obtain ⟨h1, h2⟩ := htop k b hk
      exact hr.d1 k κ b h1 h2 htop0
  have hh : ∀ k, k ≠ κ → (lk k hl).isSome = true → (lk k (pvH κ cs hl)).isSome = true := fun k e h => by
    rw [pvH_get, if_neg e]
    cases hq : lk k hl with
    | none => rw [hq] at h; cases h
    | some blk => rfl
  have hp : ∀ off v, T.rz fr W (okOf fr W (fun k => lk k hl) ν) ν (fun k => lk k hl) (.ptr κ off) v → T.rz fr W (okOf fr W (fun k => lk k (pvH κ cs hl)) ν) ν (fun k => lk k (pvH κ cs hl)) (.pv (cs.drop off)) v := fun off v h => by
    simp only [T.rz] at h ⊢
    obtain ⟨_, b', h1, h2⟩ := h
    rw [e1] at h1
    simp only [Value.pointer.injEq, Option.some.injEq, Addr.mk.injEq, and_true] at h1
    subst h1
    refine ⟨b, off, us.drop off, h2, hokb, Cs_rz_drop off (Cs.rz_move (fun b hb => ⟨hok b hb, rfl⟩) (Nat.le_refl _) cs us [] (by simp) (Ts_c_rz e4)), fun i u hi => ?_⟩
    rw [List.getElem?_drop] at hi
    simp only [World.cell?, e3]
    simpa using hi
  refine ⟨hr.defers, hr.size, hr.below, hr.ok0, fun j => ?_, fun j => ?_, ?_, ?_, ?_, ?_, hr.d3, hr.d4, fun k b' h => hr.n1 k b' (htop k b' h).2, hr.n2⟩
  · show T.rz _ _ _ _ _ (lkT j (pvS κ cs sl)) _
    rw [pvS_get]; exact pvT_rz hok hh hp _ _ (hr.slots j)
  · show T.rz _ _ _ _ _ (lkT j (pvS κ cs gl)) _
    rw [pvS_get]; exact pvT_rz hok hh hp _ _ (hr.ghosts j)
  · intro k blk hb
    have hb : lk k (pvH κ cs hl) = some blk := hb
    have e := hne k (by rw [hb]; rfl)
    rw [pvH_get, if_neg e] at hb
    cases hq : lk k hl with
    | none => rw [hq] at hb; cases hb
    | some b1 =>
      rw [hq] at hb
      simp only [Option.map_some, Option.some.injEq] at hb
      subst hb
      have := hr.heap k b1 hq
      cases b1 with
      | arr d ty sz es =>
        cases d with
        | true => simp only [pvB, Blk.rz] at this ⊢; exact this
        | false =>
          simp only [pvB, Blk.rz] at this ⊢
          obtain ⟨xs, g1, g2, g3⟩ := this
          exact ⟨xs, g1, Es.rz_move (fun b hb => ⟨hok b hb, rfl⟩) (Nat.le_refl _) sz es xs [] (by simp) g2, g3⟩
      | box xs =>
        simp only [pvB, Blk.rz] at this ⊢
        obtain ⟨g1, b, us, ty, g2, g3, g4, g5, g6⟩ := this
        exact ⟨g1, b, us, ty, g2, g3, g4, pvTs_rz hok hh hp xs us g5, g6⟩
      | fro sz es =>
        simp only [pvB, Blk.rz] at this ⊢
        exact ⟨this.1, C.rz_move (fun b hb => ⟨hok b hb, rfl⟩) (Nat.le_refl _) _ _ [] (by simp) this.2⟩
      | dead => simp only [pvB, Blk.rz] at this ⊢; exact this
      | opn ty sz pre mid post =>
        simp only [pvB, Blk.rz] at this ⊢
        obtain ⟨xs, ms, ys, f1, f2, g1, g2, g3, g4, g5, g6, g7⟩ := this
        have g3' := pvTs_rz hok hh hp mid ms g3
        exact ⟨xs, ms, ys, f1, f2, g1, g2, g3', g4, by have q1 := Ts.rz_length _ _ g3; have q2 := Ts.rz_length _ _ g3'; omega, g6, g7⟩
  · intro k hb
    have hb : lk k (pvH κ cs hl) = none := hb
    rw [pvH_get] at hb
    by_cases e : k = κ
    · subst e; exact hF
    · rw [if_neg e] at hb
      exact hr.none_ k (show lk k hl = none by simpa using hb)
  · intro k k' b' hkk h1 h2
    exact hr.d1 k k' b' hkk (htop k b' h1).2 (htop k' b' h2).2
  · intro k k' b' h1 h2
    exact hr.d2 k k' b' h1 (htop k' b' h2).2
end
/-- The walk goes on with a variable that is no more written. -/
theorem ev_pv {E : Env} {R : Exit → Act → World → Prop} {ks : List Fm} {sl gl : List (Nat × T)} {hl : List (Nat × Blk)} (κ : Nat) (cs : List C) (hk : lk κ hl = some (.box (cs.map .c))) (h : ev E R ks (cst (pvS κ cs sl) (pvH κ cs hl) (pvS κ cs gl))) : ev E R ks (cst sl hl gl) :=
  fun a W ⟨ν, F, hr⟩ => h a W ⟨ν, F, hr.pv hk⟩
/-- A contract says less: rows are no more written, blocks are not known of. -/
theorem satG_weak {P : Program} {f : Nat} {dp : Bool} {ts : List T} {rt rt' : T} {hl hl1 hl2 : List (Nat × Blk)} (ρ : List (Nat × Option Nat)) (hs : SatG P f dp ts hl rt hl1) (hS : Sim ρ (cst [] hl1 []) [] hl2 []) (hT : simT ρ hl2 rt' rt) (hk : ∀ κ, (lk κ hl).isSome = true → ren ρ κ = some κ) :
    SatG P f dp ts hl rt' hl2 := by
  refine ⟨hs.1, fun W ok X Y vs ν F N γ hok hdp hh hts => (hs.2 W ok X Y vs ν F N γ hok hdp hh hts).mono ?_⟩
  rintro e W' ⟨hB, v, ν', F', rfl, hT', hH, hν⟩
  have hr : Rel ⟨P, W, ok, N, γ, X, Y⟩ (cst [] hl1 []) { tmps := Array.replicate N undef, defers := [] } W' ν' F' :=
    ⟨rfl, by simp, hB, hok, fun j => by simp only [cst, lkT, T.rz], fun j => by simp only [cst, lkT, T.rz], hH.heap, hH.none_, hH.d1, hH.d2, hH.d3, hH.d4, hH.n1, hH.n2⟩
  obtain ⟨hw, hc⟩ := hr.weak' hS
  exact ⟨hB, v, _, _, rfl, hc rt' rt v hT hT', hw.hrel, fun κ h => by rw [← hν κ h]; simp [renV, hk κ h]⟩
end Go.Vm

namespace Go.Vm
open Go.Sort
/-- Into a row, behind all that may stand ahead of it. -/
def insL {α : Type} (le : α → α → Bool) : List α → α → List α
  | [], x => [x]
  | y :: ys, x => if le y x then y :: insL le ys x else x :: y :: ys
def sortL {α : Type} (le : α → α → Bool) (xs : List α) : List α := xs.foldl (insL le) []
section
variable {α : Type} {le : α → α → Bool}
theorem insL_perm : ∀ (xs : List α) (x : α), (insL le xs x).Perm (x :: xs)
  | [], x => List.Perm.refl _
  | y :: ys, x => by
    unfold insL
    split
    · exact ((insL_perm ys x).cons y).trans (List.Perm.swap x y ys)
    · exact List.Perm.refl _
theorem sortL_snoc (xs : List α) (x : α) : sortL le (xs ++ [x]) = insL le (sortL le xs) x := by simp [sortL]
theorem foldl_insL_perm : ∀ (xs acc : List α), (xs.foldl (insL le) acc).Perm (acc ++ xs)
  | [], acc => by simp
  | x :: xs, acc => by
    simp only [List.foldl_cons]
    refine (foldl_insL_perm xs _).trans ?_
    refine ((insL_perm acc x).append_right xs).trans ?_
    simpa using (List.perm_middle (a := x) (l₁ := acc) (l₂ := xs)).symm
theorem sortL_perm (xs : List α) : (sortL le xs).Perm xs := by simpa [sortL] using foldl_insL_perm (le := le) xs []
theorem insL_map {β : Type} {le' : β → β → Bool} (f : β → α) (h : ∀ a b, le' a b = le (f a) (f b)) : ∀ (xs : List β) (x : β), (insL le' xs x).map f = insL le (xs.map f) (f x)
  | [], x => rfl
  | y :: ys, x => by
    simp only [insL, List.map_cons, h]
    split
    · simp [insL_map f h ys x]
    · simp
theorem sortL_map {β : Type} {le' : β → β → Bool} (f : β → α) (h : ∀ a b, le' a b = le (f a) (f b)) (xs : List β) : (sortL le' xs).map f = sortL le (xs.map f) := by
  have : ∀ (xs acc : List β), (xs.foldl (insL le') acc).map f = (xs.map f).foldl (insL le) (acc.map f) := by
    intro xs
    induction xs with
    | nil => intro acc; rfl
    | cons x xs ih => intro acc; simp only [List.foldl_cons, List.map_cons]; rw [ih, insL_map f h]
  simpa [sortL] using this xs []
theorem insL_at (xs : List α) (x : α) : insL le xs x = xs.take (xs.findIdx fun y => !le y x) ++ x :: xs.drop (xs.findIdx fun y => !le y x) := by
  induction xs with
  | nil => rfl
  | cons y ys ih =>
    unfold insL
    cases h : le y x
    · simp [List.findIdx_cons, h]
    · simp [List.findIdx_cons, h, ih]
theorem insL_snoc {y x : α} (h : le y x = false) : ∀ (l : List α), insL le (l ++ [y]) x = insL le l x ++ [y]
  | [] => by simp [insL, h]
  | z :: l => by
    simp only [List.cons_append, insL]
    split
    · simp [insL_snoc h l]
    · simp
theorem insL_end {x : α} : ∀ (l : List α), (∀ z ∈ l, le z x = true) → insL le l x = l ++ [x]
  | [], _ => rfl
  | z :: l, h => by
    simp only [insL, List.cons_append]
    rw [if_pos (h z (by simp)), insL_end l fun w hw => h w (by simp [hw])]
theorem insL_sorted (htr : ∀ x y z, le x y = true → le y z = true → le x z = true) (htot : ∀ x y, le x y = false → le y x = true) : ∀ (l : List α) (x : α), l.Pairwise (fun a b => le a b = true) → (insL le l x).Pairwise (fun a b => le a b = true)
  | [], x, _ => by simp [insL]
  | y :: l, x, h => by
    have h' := List.pairwise_cons.1 h
    unfold insL
    cases hc : le y x
    · simp only [Bool.false_eq_true, if_false]
      have hxy := htot _ _ hc
      refine List.pairwise_cons.2 ⟨fun z hz => ?_, h⟩
      rcases List.mem_cons.1 hz with rfl | hz
      · exact hxy
      · exact htr _ _ _ hxy (h'.1 z hz)
    · simp only [if_true]
      refine List.pairwise_cons.2 ⟨fun z hz => ?_, insL_sorted htr htot l x h'.2⟩
      rcases List.mem_cons.1 ((insL_perm l x).mem_iff.1 hz) with rfl | hz
      · exact hc
      · exact h'.1 z hz
theorem sortL_sorted (htr : ∀ x y z, le x y = true → le y z = true → le x z = true) (htot : ∀ x y, le x y = false → le y x = true) (xs : List α) : (sortL le xs).Pairwise (fun a b => le a b = true) := by
  have : ∀ (xs acc : List α), acc.Pairwise (fun a b => le a b = true) → (xs.foldl (insL le) acc).Pairwise (fun a b => le a b = true) := by
    intro xs
    induction xs with
    | nil => intro acc h; exact h
    | cons x xs ih => intro acc h; exact ih _ (insL_sorted htr htot acc x h)
  exact this xs [] List.Pairwise.nil
end
section
variable {α : Type} [Inhabited α] {lt : α → α → Bool}
theorem swp_list (l1 l2 : List α) (x y : α) (d : Array α) (h : d.toList = l1 ++ y :: x :: l2) : (swp d (l1.length + 1) l1.length).toList = l1 ++ x :: y :: l2 := by
  have hd : d = (l1 ++ y :: x :: l2).toArray := by rw [← h]
  subst hd
  have e1 : (l1 ++ y :: x :: l2).toArray[l1.length]! = y := by
    rw [getElem!_pos _ _ (by simp)]; simp
  have e2 : (l1 ++ y :: x :: l2).toArray[l1.length + 1]! = x := by
    rw [getElem!_pos _ _ (by simp)]; simp [List.getElem_append_right]
  simp only [swp, e1, e2, Array.toList_setIfInBounds, List.toList_toArray]
  rw [List.set_append_right _ _ (by omega), List.set_append_right _ _ (by omega)]
  simp
theorem insInner_list (hO : SWO lt) : ∀ (n : Nat) (l1 l2 : List α) (x : α) (d : Array α), l1.length = n → d.toList = l1 ++ x :: l2 → l1.Pairwise (fun a b => (!lt b a) = true) → (insInner lt 0 n d).toList = insL (fun a b => !lt b a) l1 x ++ l2
  | 0, l1, l2, x, d, hn, hd, hs => by
    obtain rfl := List.eq_nil_of_length_eq_zero hn
    simp [insInner, insL, hd]
  | n + 1, l1, l2, x, d, hn, hd, hs => by
    rcases List.eq_nil_or_concat l1 with rfl | ⟨l, y, rfl⟩
    · simp at hn
    rw [List.concat_eq_append] at *
    have hl : l.length = n := by simpa using hn
    subst hl
    have hd2 : d = (l ++ y :: x :: l2).toArray := by
      have : d.toList = l ++ y :: x :: l2 := by rw [hd]; simp
      rw [← this]
    have e1 : d[l.length]! = y := by rw [hd2, getElem!_pos _ _ (by simp)]; simp
    have e2 : d[l.length + 1]! = x := by rw [hd2, getElem!_pos _ _ (by simp)]; simp [List.getElem_append_right]
    have hs2 := List.pairwise_append.1 hs
    unfold insInner
    rw [e1, e2]
    cases hc : lt x y
    · simp only [Bool.and_false, Bool.false_eq_true, if_false]
      rw [hd, insL_end (l ++ [y]) fun z hz => ?_]
      · simp
      · rcases List.mem_append.1 hz with hz | hz
        · have h1 := hs2.2.2 z hz y (by simp)
          have h2 := hO.ntrans x y z hc (by simpa using h1)
          simpa using h2
        · obtain rfl := List.mem_singleton.1 hz
          simpa using hc
    · have hg : (decide (l.length + 1 > 0) && true) = true := by simp
      rw [if_pos hg, insInner_list hO l.length l (y :: l2) x _ rfl (swp_list l l2 x y d (by rw [hd]; simp)) hs2.1]
      rw [insL_snoc (by simp [hc])]
      simp
theorem swo_tr (hO : SWO lt) : ∀ x y z : α, (!lt y x) = true → (!lt z y) = true → (!lt z x) = true := fun x y z h1 h2 => by
  simpa using hO.ntrans z y x (by simpa using h2) (by simpa using h1)
theorem swo_tot (hO : SWO lt) : ∀ x y : α, (!lt y x) = false → (!lt x y) = true := fun x y h => by
  cases hc : lt x y
  · rfl
  · have := hO.trans _ _ _ hc (by simpa using h)
    rw [hO.irrefl] at this; cases this
theorem insOuter_list (hO : SWO lt) (l : List α) : ∀ (m i : Nat) (d : Array α), l.length - i = m → i ≤ l.length → d.toList = sortL (fun a b => !lt b a) (l.take i) ++ l.drop i → (insOuter lt 0 l.length i d).toList = sortL (fun a b => !lt b a) l
  | m, i, d, hm, hi, hd => by
    unfold insOuter
    split
    · rename_i hlt
      cases m with
      | zero => omega
      | succ m =>
        refine insOuter_list hO l m (i + 1) _ (by omega) (by omega) ?_
        rw [List.drop_eq_getElem_cons hlt] at hd
        rw [insInner_list hO i _ _ _ d (by rw [(sortL_perm (l.take i)).length_eq, List.length_take]; omega) hd (sortL_sorted (swo_tr hO) (swo_tot hO) _)]
        rw [← sortL_snoc, List.take_append_getElem hlt]
    · rw [hd, List.take_of_length_le (by omega), List.drop_eq_nil_of_le (by omega), List.append_nil]
termination_by m => m
theorem insertionSort_list (hO : SWO lt) (d : Array α) : (insertionSort lt d 0 d.size).toList = sortL (fun a b => !lt b a) d.toList := by
  unfold insertionSort
  have hs : d.size = d.toList.length := by simp
  rw [hs]
  rcases Nat.lt_or_ge 0 d.toList.length with h | h
  · refine insOuter_list hO d.toList _ 1 d rfl (by omega) ?_
    match hq : d.toList with
    | [] => simp [hq] at h
    | x :: l => simp [sortL, insL]
  · have : d.toList = [] := List.eq_nil_of_length_eq_zero (by omega)
    unfold insOuter
    rw [if_neg (by omega), this]; rfl
end
end Go.Vm
