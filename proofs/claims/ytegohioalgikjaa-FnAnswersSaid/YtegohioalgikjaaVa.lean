/- The abstract walk, first part: what data in memory is, and what single operations do to it. No condition. -/
import Derived.Below
import Derived.Laws.AppendOwn
import Derived.Laws.Rows
import Derived.Calls
import Derived.Orders
import Derived.Laws.CopyRow
import Derived.IntWalk
import Derived.Maps.AppendAt
import Derived.Laws.OwnMore
set_option linter.unusedVariables false
set_option linter.unusedSimpArgs false
namespace Go.Vm
open Go Go.RowKit

/-- A cell of data. A slice bears a tag: 'some e': it is owned, its row is of elements of type e; 'none': it may be shared. 'sz': how many cells an element has. -/
inductive C where
  | int (k : IntKind) (n : Int)
  | bool (b : Bool)
  | val (u : Value)
  | sl (tag : Option Nat) (sz : Nat) (es : List (List C))

mutual
/-- The value v is the cell c in the world W; the rows of what is shared lie in blocks that are 'ok'; fp: the blocks of what is owned. -/
def C.rz (W : World) (ok : Nat → Prop) (B : Nat) : C → Value → List Nat → Prop
  | .int k n, v, fp => v = .int k n ∧ fp = []
  | .bool b, v, fp => v = .bool b ∧ fp = []
  | .val u, v, fp => (v = u ∧ u.oneCell' = true) ∧ fp = []
  | .sl none sz es, v, fp => fp = [] ∧ ∃ A c xs, v = .slice A es.length c ∧ es.length ≤ c ∧ es.length ≤ maxLen ∧
      ((A = none → c = 0) ∧ True) ∧
      (es ≠ [] → ∃ b o, A = some ⟨b, o, none⟩ ∧ ok b ∧ ∀ i u, xs[i]? = some u → W.cell? ⟨b, o + i, none⟩ = some u) ∧ Es.rz W ok B sz es xs []
  | .sl (some e) sz es, v, fp => ∃ xs fs, W.ownsRow B e sz v es.length xs ∧ fp = v.ownBlock.toList ++ fs ∧ Es.rz W ok B sz es xs fs
def Es.rz (W : World) (ok : Nat → Prop) (B : Nat) (sz : Nat) : List (List C) → List Value → List Nat → Prop
  | [], xs, fs => xs = [] ∧ fs = []
  | e :: es, xs, fs => ∃ x1 x2 f1 f2, xs = x1 ++ x2 ∧ fs = f1 ++ f2 ∧ e.length = sz ∧ Cs.rz W ok B e x1 f1 ∧ Es.rz W ok B sz es x2 f2
def Cs.rz (W : World) (ok : Nat → Prop) (B : Nat) : List C → List Value → List Nat → Prop
  | [], us, fs => us = [] ∧ fs = []
  | c :: cs, us, fs => ∃ u us' f1 f2, us = u :: us' ∧ fs = f1 ++ f2 ∧ C.rz W ok B c u f1 ∧ Cs.rz W ok B cs us' f2
end

mutual
def C.strip : C → C
  | .int k n => .int k n
  | .bool b => .bool b
  | .val u => .val u
  | .sl _ sz es => .sl none sz (Es.strip es)
def Es.strip : List (List C) → List (List C)
  | [] => []
  | e :: es => Cs.strip e :: Es.strip es
def Cs.strip : List C → List C
  | [] => []
  | c :: cs => c.strip :: Cs.strip cs
end

theorem Es.strip_map (es : List (List C)) : Es.strip es = es.map Cs.strip := by
  induction es with
  | nil => rfl
  | cons e es ih => simp [Es.strip, ih]
theorem Cs.strip_map (cs : List C) : Cs.strip cs = cs.map C.strip := by
  induction cs with
  | nil => rfl
  | cons e es ih => simp [Cs.strip, ih]

theorem addr_of_spot {ad : Addr} (h : ad.spot = none) : ad = ⟨ad.block, ad.off, none⟩ := by
  cases ad; simp_all
theorem add_plain (b o n : Nat) : (⟨b, o, none⟩ : Addr).add n = ⟨b, o + n, none⟩ := by
  unfold Addr.add; split <;> simp_all

/-- What a move of the world has to keep: the blocks that are ok, and those of fp. -/
theorem cell_of_block {W W' : World} {b o : Nat} (h : W'.heap[b]? = W.heap[b]?) : W'.cell? ⟨b, o, none⟩ = W.cell? ⟨b, o, none⟩ := by
  simp [World.cell?, h]

theorem ownsRow_move {W W' : World} {B e sz n : Nat} {v : Value} {xs : List Value} (h : W.ownsRow B e sz v n xs)
    (hm : ∀ b, v.ownBlock = some b → W'.heap[b]? = W.heap[b]?) : W'.ownsRow B e sz v n xs := by
  refine ⟨h.1, ?_⟩
  rcases h.2 with hn | ⟨g, cap, cur, rfl, hb, hgg, rest⟩
  · exact .inl hn
  · exact .inr ⟨g, cap, cur, rfl, hb, by rw [hm g (by simp [Value.ownBlock])]; exact hgg, rest⟩

theorem ownsRow_base {W : World} {B B' e sz n : Nat} {v : Value} {xs : List Value} (h : W.ownsRow B e sz v n xs) (hB : B' ≤ B) : W.ownsRow B' e sz v n xs := by
  refine ⟨h.1, ?_⟩
  rcases h.2 with hn | ⟨g, cap, cur, rfl, hb, rest⟩
  · exact .inl hn
  · exact .inr ⟨g, cap, cur, rfl, Nat.le_trans hB hb, rest⟩

mutual
theorem C.rz_move {W W' : World} {ok ok' : Nat → Prop} {B B' : Nat} (hok : ∀ b, ok b → ok' b ∧ W'.heap[b]? = W.heap[b]?) (hB : B' ≤ B) :
    ∀ (c : C) (v : Value) (fp : List Nat), (∀ b, b ∈ fp → W'.heap[b]? = W.heap[b]?) → C.rz W ok B c v fp → C.rz W' ok' B' c v fp
  | .int k n, v, fp, _, h => by simpa only [C.rz] using h
  | .bool b, v, fp, _, h => by simpa only [C.rz] using h
  | .val u, v, fp, _, h => by simpa only [C.rz] using h
  | .sl none sz es, v, fp, _, h => by
    simp only [C.rz] at h ⊢
    obtain ⟨hf, A, c, xs, hv, hc, hm, hs, hcell, hes⟩ := h
    refine ⟨hf, A, c, xs, hv, hc, hm, hs, fun hne => ?_, Es.rz_move hok hB sz es xs [] (by simp) hes⟩
    obtain ⟨b, o, hA, hb, hx⟩ := hcell hne
    exact ⟨b, o, hA, (hok b hb).1, fun i u hu => by rw [cell_of_block (hok b hb).2]; exact hx i u hu⟩
  | .sl (some e) sz es, v, fp, hfp, h => by
    simp only [C.rz] at h ⊢
    obtain ⟨xs, fs, ho, hf, hes⟩ := h
    subst hf
    refine ⟨xs, fs, ownsRow_base (ownsRow_move ho fun b hb => hfp b (by simp [hb])) hB, rfl, Es.rz_move hok hB sz es xs fs (fun b hb => hfp b (by simp [hb])) hes⟩
theorem Es.rz_move {W W' : World} {ok ok' : Nat → Prop} {B B' : Nat} (hok : ∀ b, ok b → ok' b ∧ W'.heap[b]? = W.heap[b]?) (hB : B' ≤ B) (sz : Nat) :
    ∀ (es : List (List C)) (xs : List Value) (fs : List Nat), (∀ b, b ∈ fs → W'.heap[b]? = W.heap[b]?) → Es.rz W ok B sz es xs fs → Es.rz W' ok' B' sz es xs fs
  | [], xs, fs, _, h => by simpa only [Es.rz] using h
  | e :: es, xs, fs, hfs, h => by
    simp only [Es.rz] at h ⊢
    obtain ⟨x1, x2, f1, f2, hx, hf, hl, h1, h2⟩ := h
    subst hf
    exact ⟨x1, x2, f1, f2, hx, rfl, hl, Cs.rz_move hok hB e x1 f1 (fun b hb => hfs b (by simp [hb])) h1, Es.rz_move hok hB sz es x2 f2 (fun b hb => hfs b (by simp [hb])) h2⟩
theorem Cs.rz_move {W W' : World} {ok ok' : Nat → Prop} {B B' : Nat} (hok : ∀ b, ok b → ok' b ∧ W'.heap[b]? = W.heap[b]?) (hB : B' ≤ B) :
    ∀ (cs : List C) (us : List Value) (fs : List Nat), (∀ b, b ∈ fs → W'.heap[b]? = W.heap[b]?) → Cs.rz W ok B cs us fs → Cs.rz W' ok' B' cs us fs
  | [], us, fs, _, h => by simpa only [Cs.rz] using h
  | c :: cs, us, fs, hfs, h => by
    simp only [Cs.rz] at h ⊢
    obtain ⟨u, us', f1, f2, hx, hf, h1, h2⟩ := h
    subst hf
    exact ⟨u, us', f1, f2, hx, rfl, C.rz_move hok hB c u f1 (fun b hb => hfs b (by simp [hb])) h1, Cs.rz_move hok hB cs us' f2 (fun b hb => hfs b (by simp [hb])) h2⟩
end

mutual
theorem C.rz_fp {W : World} {ok : Nat → Prop} {B : Nat} :
    ∀ (c : C) (v : Value) (fp : List Nat), C.rz W ok B c v fp → ∀ b, b ∈ fp → B ≤ b ∧ b < W.heap.size
  | .int k n, v, fp, h => by simp only [C.rz] at h; simp [h.2]
  | .bool b, v, fp, h => by simp only [C.rz] at h; simp [h.2]
  | .val u, v, fp, h => by simp only [C.rz] at h; simp [h.2]
  | .sl none sz es, v, fp, h => by simp only [C.rz] at h; simp [h.1]
  | .sl (some e) sz es, v, fp, h => by
    simp only [C.rz] at h
    obtain ⟨xs, fs, ho, hf, hes⟩ := h
    subst hf
    intro b hb
    rcases List.mem_append.1 hb with hb | hb
    · exact ho.lt b (by simpa using hb)
    · exact Es.rz_fp sz es xs fs hes b hb
theorem Es.rz_fp {W : World} {ok : Nat → Prop} {B : Nat} (sz : Nat) :
    ∀ (es : List (List C)) (xs : List Value) (fs : List Nat), Es.rz W ok B sz es xs fs → ∀ b, b ∈ fs → B ≤ b ∧ b < W.heap.size
  | [], xs, fs, h => by simp only [Es.rz] at h; simp [h.2]
  | e :: es, xs, fs, h => by
    simp only [Es.rz] at h
    obtain ⟨x1, x2, f1, f2, hx, hf, hl, h1, h2⟩ := h
    subst hf
    intro b hb
    rcases List.mem_append.1 hb with hb | hb
    · exact Cs.rz_fp e x1 f1 h1 b hb
    · exact Es.rz_fp sz es x2 f2 h2 b hb
theorem Cs.rz_fp {W : World} {ok : Nat → Prop} {B : Nat} :
    ∀ (cs : List C) (us : List Value) (fs : List Nat), Cs.rz W ok B cs us fs → ∀ b, b ∈ fs → B ≤ b ∧ b < W.heap.size
  | [], us, fs, h => by simp only [Cs.rz] at h; simp [h.2]
  | c :: cs, us, fs, h => by
    simp only [Cs.rz] at h
    obtain ⟨u, us', f1, f2, hx, hf, h1, h2⟩ := h
    subst hf
    intro b hb
    rcases List.mem_append.1 hb with hb | hb
    · exact C.rz_fp c u f1 h1 b hb
    · exact Cs.rz_fp cs us' f2 h2 b hb
end

theorem ownsRow_maxLen {W : World} {B e sz n : Nat} {v : Value} {xs : List Value} (h : W.ownsRow B e sz v n xs) :
    ∃ A c, v = .slice A n c ∧ n ≤ c ∧ n ≤ maxLen ∧ ((A = none → c = 0) ∧ True) ∧ (n = 0 ∨ ∃ g, A = some ⟨g, 0, none⟩ ∧ v.ownBlock = some g) := by
  rcases h.2 with ⟨rfl, rfl⟩ | ⟨g, cap, cur, rfl, hb, hg, hn, hc, hcs, ht⟩
  · exact ⟨none, 0, rfl, Nat.le_refl _, Nat.zero_le _, by simp, .inl rfl⟩
  · exact ⟨_, cap, rfl, hn, Nat.le_trans hn hc, by simp, .inr ⟨g, rfl, rfl⟩⟩

theorem Es.rz_nil {W : World} {ok : Nat → Prop} {B sz : Nat} {xs : List Value} {fs : List Nat} (h : Es.rz W ok B sz [] xs fs) : xs = [] ∧ fs = [] := by
  simpa only [Es.rz] using h

theorem Es.strip_length (es : List (List C)) : (Es.strip es).length = es.length := by rw [Es.strip_map]; simp
theorem Cs.strip_length (es : List C) : (Cs.strip es).length = es.length := by rw [Cs.strip_map]; simp
theorem Es.strip_ne {es : List (List C)} (h : Es.strip es ≠ []) : es ≠ [] := by
  intro he; subst he; exact h rfl

mutual
theorem C.rz_strip {W : World} {ok : Nat → Prop} {B B' : Nat} :
    ∀ (c : C) (v : Value) (fp : List Nat), (∀ b, b ∈ fp → ok b) → C.rz W ok B c v fp → C.rz W ok B' c.strip v []
  | .int k n, v, fp, _, h => by simp only [C.rz, C.strip] at h ⊢; exact ⟨h.1, trivial⟩
  | .bool b, v, fp, _, h => by simp only [C.rz, C.strip] at h ⊢; exact ⟨h.1, trivial⟩
  | .val u, v, fp, _, h => by simp only [C.rz, C.strip] at h ⊢; exact ⟨h.1, trivial⟩
  | .sl none sz es, v, fp, _, h => by
    simp only [C.rz, C.strip] at h ⊢
    obtain ⟨hf, A, c, xs, hv, hc, hm, hs, hcell, hes⟩ := h
    rw [Es.strip_length]
    exact ⟨trivial, A, c, xs, hv, hc, hm, hs, fun hne => hcell (Es.strip_ne hne), Es.rz_strip sz es xs [] (by simp) hes⟩
  | .sl (some e) sz es, v, fp, hfp, h => by
    simp only [C.rz, C.strip] at h ⊢
    obtain ⟨xs, fs, ho, hf, hes⟩ := h
    subst hf
    obtain ⟨A, c, hv, hc, hm, hs, hor⟩ := ownsRow_maxLen ho
    rw [Es.strip_length]
    refine ⟨trivial, A, c, xs, hv, hc, hm, hs, fun hne => ?_, Es.rz_strip sz es xs fs (fun b hb => hfp b (by simp [hb])) hes⟩
    rcases hor with h0 | ⟨g, hA, hg⟩
    · exact absurd (List.eq_nil_of_length_eq_zero h0) (Es.strip_ne hne)
    · refine ⟨g, 0, hA, hfp g (by simp [hg]), fun i u hu => ?_⟩
      have := ho.cells hg i u hu
      rwa [add_plain] at this
theorem Es.rz_strip {W : World} {ok : Nat → Prop} {B B' : Nat} (sz : Nat) :
    ∀ (es : List (List C)) (xs : List Value) (fs : List Nat), (∀ b, b ∈ fs → ok b) → Es.rz W ok B sz es xs fs → Es.rz W ok B' sz (Es.strip es) xs []
  | [], xs, fs, _, h => by simp only [Es.rz, Es.strip] at h ⊢; exact ⟨h.1, trivial⟩
  | e :: es, xs, fs, hfs, h => by
    simp only [Es.rz, Es.strip] at h ⊢
    obtain ⟨x1, x2, f1, f2, hx, hf, hl, h1, h2⟩ := h
    subst hf
    exact ⟨x1, x2, [], [], hx, rfl, by rw [Cs.strip_length]; exact hl, Cs.rz_strip e x1 f1 (fun b hb => hfs b (by simp [hb])) h1, Es.rz_strip sz es x2 f2 (fun b hb => hfs b (by simp [hb])) h2⟩
theorem Cs.rz_strip {W : World} {ok : Nat → Prop} {B B' : Nat} :
    ∀ (cs : List C) (us : List Value) (fs : List Nat), (∀ b, b ∈ fs → ok b) → Cs.rz W ok B cs us fs → Cs.rz W ok B' (Cs.strip cs) us []
  | [], us, fs, _, h => by simp only [Cs.rz, Cs.strip] at h ⊢; exact ⟨h.1, trivial⟩
  | c :: cs, us, fs, hfs, h => by
    simp only [Cs.rz, Cs.strip] at h ⊢
    obtain ⟨u, us', f1, f2, hx, hf, h1, h2⟩ := h
    subst hf
    exact ⟨u, us', [], [], hx, rfl, C.rz_strip c u f1 (fun b hb => hfs b (by simp [hb])) h1, Cs.rz_strip cs us' f2 (fun b hb => hfs b (by simp [hb])) h2⟩
end

theorem C.rz_one {W : World} {ok : Nat → Prop} {B : Nat} : ∀ (c : C) (v : Value) (fp : List Nat), C.rz W ok B c v fp → v.oneCell' = true
  | .int k n, v, fp, h => by simp only [C.rz] at h; rw [h.1]; rfl
  | .bool b, v, fp, h => by simp only [C.rz] at h; rw [h.1]; rfl
  | .val u, v, fp, h => by simp only [C.rz] at h; rw [h.1.1]; exact h.1.2
  | .sl none sz es, v, fp, h => by simp only [C.rz] at h; obtain ⟨_, A, c, xs, rfl, _⟩ := h; rfl
  | .sl (some e) sz es, v, fp, h => by
    simp only [C.rz] at h; obtain ⟨xs, fs, ho, _⟩ := h
    obtain ⟨A, c, rfl, _⟩ := ownsRow_maxLen ho; rfl

theorem Cs.rz_one {W : World} {ok : Nat → Prop} {B : Nat} : ∀ (cs : List C) (us : List Value) (fs : List Nat), Cs.rz W ok B cs us fs → ∀ u ∈ us, u.oneCell' = true
  | [], us, fs, h => by simp only [Cs.rz] at h; simp [h.1]
  | c :: cs, us, fs, h => by
    simp only [Cs.rz] at h
    obtain ⟨u, us', f1, f2, rfl, hf, h1, h2⟩ := h
    intro x hx
    rcases List.mem_cons.1 hx with rfl | hx
    · exact C.rz_one c _ f1 h1
    · exact Cs.rz_one cs us' f2 h2 x hx
theorem Es.rz_one {W : World} {ok : Nat → Prop} {B sz : Nat} : ∀ (es : List (List C)) (us : List Value) (fs : List Nat), Es.rz W ok B sz es us fs → ∀ u ∈ us, u.oneCell' = true
  | [], us, fs, h => by simp only [Es.rz] at h; simp [h.1]
  | c :: cs, us, fs, h => by
    simp only [Es.rz] at h
    obtain ⟨x1, x2, f1, f2, rfl, hf, _, h1, h2⟩ := h
    intro x hx
    rcases List.mem_append.1 hx with hx | hx
    · exact Cs.rz_one c _ f1 h1 x hx
    · exact Es.rz_one cs x2 f2 h2 x hx
theorem Cs.rz_length {W : World} {ok : Nat → Prop} {B : Nat} : ∀ (cs : List C) (us : List Value) (fs : List Nat), Cs.rz W ok B cs us fs → us.length = cs.length
  | [], us, fs, h => by simp only [Cs.rz] at h; simp [h.1]
  | c :: cs, us, fs, h => by
    simp only [Cs.rz] at h
    obtain ⟨u, us', f1, f2, rfl, hf, h1, h2⟩ := h
    simp [Cs.rz_length cs us' f2 h2]
theorem Es.rz_length {W : World} {ok : Nat → Prop} {B sz : Nat} : ∀ (es : List (List C)) (us : List Value) (fs : List Nat), Es.rz W ok B sz es us fs → us.length = es.length * sz
  | [], us, fs, h => by simp only [Es.rz] at h; simp [h.1]
  | c :: cs, us, fs, h => by
    simp only [Es.rz] at h
    obtain ⟨x1, x2, f1, f2, rfl, hf, hl, h1, h2⟩ := h
    rw [List.length_append, Cs.rz_length c x1 f1 h1, Es.rz_length cs x2 f2 h2, List.length_cons, Nat.add_mul, hl]; omega

/-- An element of a row. -/
theorem Es.rz_get {W : World} {ok : Nat → Prop} {B sz : Nat} : ∀ (es : List (List C)) (us : List Value) (fs : List Nat) (j : Nat) (e : List C), Es.rz W ok B sz es us fs → es[j]? = some e →
    ∃ ys gs, Cs.rz W ok B e ys gs ∧ e.length = sz ∧ (∀ b ∈ gs, b ∈ fs) ∧ ∀ i u, ys[i]? = some u → us[j * sz + i]? = some u
  | [], us, fs, j, e, h, he => by simp at he
  | c :: cs, us, fs, j, e, h, he => by
    simp only [Es.rz] at h
    obtain ⟨x1, x2, f1, f2, rfl, rfl, hl, h1, h2⟩ := h
    have hx1 := Cs.rz_length c x1 f1 h1
    cases j with
    | zero =>
      obtain rfl : c = e := by simpa using he
      refine ⟨x1, f1, h1, hl, fun b hb => by simp [hb], fun i u hu => ?_⟩
      rw [Nat.zero_mul, Nat.zero_add, List.getElem?_append_left (by have := (List.getElem?_eq_some_iff.1 hu).1; omega)]; exact hu
    | succ j =>
      obtain ⟨ys, gs, hy, hly, hgs, hi⟩ := Es.rz_get cs x2 f2 j e h2 (by simpa using he)
      refine ⟨ys, gs, hy, hly, fun b hb => by simp [hgs b hb], fun i u hu => ?_⟩
      rw [List.getElem?_append_right (by rw [hx1, hl, Nat.succ_mul]; omega)]
      rw [show (j + 1) * sz + i - x1.length = j * sz + i by rw [hx1, hl, Nat.succ_mul]; omega]
      exact hi i u hu

theorem Es.rz_append {W : World} {ok : Nat → Prop} {B sz : Nat} : ∀ (es es' : List (List C)) (us us' : List Value) (fs fs' : List Nat), Es.rz W ok B sz es us fs → Es.rz W ok B sz es' us' fs' →
    Es.rz W ok B sz (es ++ es') (us ++ us') (fs ++ fs')
  | [], es', us, us', fs, fs', h, h' => by simp only [Es.rz] at h; obtain ⟨rfl, rfl⟩ := h; simpa using h'
  | c :: cs, es', us, us', fs, fs', h, h' => by
    simp only [Es.rz] at h
    obtain ⟨x1, x2, f1, f2, rfl, rfl, hl, h1, h2⟩ := h
    rw [List.cons_append]
    simp only [Es.rz]
    exact ⟨x1, x2 ++ us', f1, f2 ++ fs', by simp, by simp, hl, h1, Es.rz_append cs es' x2 us' f2 fs' h2 h'⟩
theorem Cs.rz_append {W : World} {ok : Nat → Prop} {B : Nat} : ∀ (es es' : List C) (us us' : List Value) (fs fs' : List Nat), Cs.rz W ok B es us fs → Cs.rz W ok B es' us' fs' →
    Cs.rz W ok B (es ++ es') (us ++ us') (fs ++ fs')
  | [], es', us, us', fs, fs', h, h' => by simp only [Cs.rz] at h; obtain ⟨rfl, rfl⟩ := h; simpa using h'
  | c :: cs, es', us, us', fs, fs', h, h' => by
    simp only [Cs.rz] at h
    obtain ⟨u, x2, f1, f2, rfl, rfl, h1, h2⟩ := h
    rw [List.cons_append]
    simp only [Cs.rz]
    exact ⟨u, x2 ++ us', f1, f2 ++ fs', by simp, by simp, h1, Cs.rz_append cs es' x2 us' f2 fs' h2 h'⟩
theorem Es.rz_drop {W : World} {ok : Nat → Prop} {B sz : Nat} : ∀ (n : Nat) (es : List (List C)) (us : List Value), Es.rz W ok B sz es us [] → Es.rz W ok B sz (es.drop n) (us.drop (n * sz)) []
  | 0, es, us, h => by simpa using h
  | n + 1, [], us, h => by simp only [Es.rz] at h; simp [h.1, Es.rz]
  | n + 1, c :: cs, us, h => by
    simp only [Es.rz] at h
    obtain ⟨x1, x2, f1, f2, rfl, hf, hl, h1, h2⟩ := h
    obtain ⟨rfl, rfl⟩ : f1 = [] ∧ f2 = [] := by simpa using hf.symm
    have hx1 := Cs.rz_length c x1 [] h1
    have := Es.rz_drop n cs x2 h2
    rw [List.drop_succ_cons, Nat.succ_mul, Nat.add_comm, ← hl, ← hx1, ← List.drop_drop, List.drop_left, hx1, hl]
    exact this
theorem Es.rz_take {W : World} {ok : Nat → Prop} {B sz : Nat} : ∀ (n : Nat) (es : List (List C)) (us : List Value), Es.rz W ok B sz es us [] → Es.rz W ok B sz (es.take n) (us.take (n * sz)) []
  | 0, es, us, h => by simp [Es.rz]
  | n + 1, [], us, h => by simp only [Es.rz] at h; simp [h.1, Es.rz]
  | n + 1, c :: cs, us, h => by
    simp only [Es.rz] at h
    obtain ⟨x1, x2, f1, f2, rfl, hf, hl, h1, h2⟩ := h
    obtain ⟨rfl, rfl⟩ : f1 = [] ∧ f2 = [] := by simpa using hf.symm
    have hx1 := Cs.rz_length c x1 [] h1
    have := Es.rz_take n cs x2 h2
    rw [List.take_succ_cons]
    simp only [Es.rz]
    refine ⟨x1, x2.take (n * sz), [], [], ?_, rfl, hl, h1, this⟩
    rw [Nat.succ_mul, Nat.add_comm, ← hl, ← hx1, List.take_length_add_append]

theorem C.rz_strip_nil {W : World} {ok : Nat → Prop} {B : Nat} (c : C) (v : Value) (fp : List Nat) (h : C.rz W ok B c.strip v fp) : fp = [] := by
  cases c <;> simp only [C.strip, C.rz] at h
  · exact h.2
  · exact h.2
  · exact h.2
  · exact h.1
theorem Cs.rz_strip_nil {W : World} {ok : Nat → Prop} {B : Nat} : ∀ (cs : List C) (us : List Value) (fs : List Nat), Cs.rz W ok B (Cs.strip cs) us fs → fs = []
  | [], us, fs, h => by simp only [Cs.strip, Cs.rz] at h; exact h.2
  | c :: cs, us, fs, h => by
    simp only [Cs.strip, Cs.rz] at h
    obtain ⟨u, us', f1, f2, rfl, rfl, h1, h2⟩ := h
    rw [C.rz_strip_nil c u f1 h1, Cs.rz_strip_nil cs us' f2 h2]; rfl
theorem Es.rz_strip_nil {W : World} {ok : Nat → Prop} {B sz : Nat} : ∀ (es : List (List C)) (us : List Value) (fs : List Nat), Es.rz W ok B sz (Es.strip es) us fs → fs = []
  | [], us, fs, h => by simp only [Es.strip, Es.rz] at h; exact h.2
  | c :: cs, us, fs, h => by
    simp only [Es.strip, Es.rz] at h
    obtain ⟨x1, x2, f1, f2, rfl, rfl, _, h1, h2⟩ := h
    rw [Cs.rz_strip_nil c _ f1 h1, Es.rz_strip_nil cs _ f2 h2]; rfl
theorem C.rz_share {W : World} {ok : Nat → Prop} {B B' e sz : Nat} {es : List (List C)} {v : Value} {xs : List Value} (ho : W.ownsRow B e sz v es.length xs) (hes : Es.rz W ok B' sz es xs [])
    (hb : ∀ b, v.ownBlock = some b → ok b) : C.rz W ok B' (.sl none sz es) v [] := by
  obtain ⟨A, c, hv, hc, hm, hs, hor⟩ := ownsRow_maxLen ho
  simp only [C.rz]
  refine ⟨trivial, A, c, xs, hv, hc, hm, hs, fun hne => ?_, hes⟩
  rcases hor with h0 | ⟨g, hA, hg⟩
  · exact absurd (List.eq_nil_of_length_eq_zero h0) hne
  · refine ⟨g, 0, hA, hb g hg, fun i u hu => ?_⟩
    have := ho.cells hg i u hu
    rwa [add_plain] at this
mutual
theorem C.rz_base {W : World} {ok : Nat → Prop} {B B' : Nat} : ∀ (c : C) (v : Value), C.rz W ok B c v [] → C.rz W ok B' c v []
  | .int k n, v, h => by simpa only [C.rz] using h
  | .bool b, v, h => by simpa only [C.rz] using h
  | .val u, v, h => by simpa only [C.rz] using h
  | .sl none sz es, v, h => by
    simp only [C.rz] at h ⊢
    obtain ⟨hf, A, c, xs, hv, hc, hm, hs, hcell, hes⟩ := h
    exact ⟨hf, A, c, xs, hv, hc, hm, hs, hcell, Es.rz_base sz es xs hes⟩
  | .sl (some e) sz es, v, h => by
    simp only [C.rz] at h ⊢
    obtain ⟨xs, fs, ho, hf, hes⟩ := h
    obtain ⟨h1, rfl⟩ : v.ownBlock.toList = [] ∧ fs = [] := by simpa using hf.symm
    refine ⟨xs, [], ⟨ho.1, ?_⟩, by simp [h1], Es.rz_base sz es xs hes⟩
    rcases ho.2 with hn | ⟨g, cap, cur, rfl, _⟩
    · exact .inl hn
    · simp [Value.ownBlock] at h1
theorem Es.rz_base {W : World} {ok : Nat → Prop} {B B' : Nat} (sz : Nat) : ∀ (es : List (List C)) (xs : List Value), Es.rz W ok B sz es xs [] → Es.rz W ok B' sz es xs []
  | [], xs, h => by simpa only [Es.rz] using h
  | e :: es, xs, h => by
    simp only [Es.rz] at h ⊢
    obtain ⟨x1, x2, f1, f2, hx, hf, hl, h1, h2⟩ := h
    obtain ⟨rfl, rfl⟩ : f1 = [] ∧ f2 = [] := by simpa using hf.symm
    exact ⟨x1, x2, [], [], hx, rfl, hl, Cs.rz_base e x1 h1, Es.rz_base sz es x2 h2⟩
theorem Cs.rz_base {W : World} {ok : Nat → Prop} {B B' : Nat} : ∀ (cs : List C) (us : List Value), Cs.rz W ok B cs us [] → Cs.rz W ok B' cs us []
  | [], us, h => by simpa only [Cs.rz] using h
  | c :: cs, us, h => by
    simp only [Cs.rz] at h ⊢
    obtain ⟨u, us', f1, f2, hx, hf, h1, h2⟩ := h
    obtain ⟨rfl, rfl⟩ : f1 = [] ∧ f2 = [] := by simpa using hf.symm
    exact ⟨u, us', [], [], hx, rfl, C.rz_base c u h1, Cs.rz_base cs us' h2⟩
end
end Go.Vm

namespace Go.Vm
open Go Go.RowKit

/-- One result or argument that is data: whether it is a struct, and its cells. -/
abbrev Dat := Bool × List C

/-- What a slot holds, as the walk sees it. -/
inductive T where
  | c (x : C)
  | nilS
  | ref (κ : Nat)
  | ptr (κ off : Nat)
  | ep (κ sz i off : Nat)
  | pv (xs : List C)
  | agg (xs : List T)
  | tup (xs : List T)
  | clo (f : Nat) (caps : List T)
  | fn (sem : List Dat → List Dat → Prop)
  | un
  | nn (sz : Nat) (es : List (List C))
  | ca (x : C)

/-- A block that the call has made: a row of elements (deep: all in it is owned; else all in it is shared), a variable, a row that is no more written, one that is given away, a row one of whose elements is looked into. -/
inductive Blk where
  | arr (deep : Bool) (ty sz : Nat) (es : List (List C))
  | box (xs : List T)
  | fro (sz : Nat) (es : List (List C))
  | dead
  | opn (ty sz : Nat) (pre : List (List C)) (mid : List T) (post : List (List C))

structure St where
  s : Nat → T
  h : Nat → Option Blk
  g : Nat → T

def Dat.rz (W : World) (ok : Nat → Prop) (B : Nat) (d : Dat) (v : Value) (fp : List Nat) : Prop :=
  ∃ us, Cs.rz W ok B d.2 us fp ∧ (if d.1 then v = .agg us.toArray else us = [v])
def Dats.rz (W : World) (ok : Nat → Prop) (B : Nat) : List Dat → List Value → List Nat → Prop
  | [], vs, fp => vs = [] ∧ fp = []
  | d :: ds, vs, fp => ∃ v vs' f1 f2, vs = v :: vs' ∧ fp = f1 ++ f2 ∧ Dat.rz W ok B d v f1 ∧ Dats.rz W ok B ds vs' f2

/-- Results: one value, or a tuple of several. -/
def okRes (own : Bool) (ok : Nat → Prop) (B : Nat) (W : World) (fp : List Nat) : Nat → Prop :=
  fun b => own = false ∧ (ok b ∨ B ≤ b) ∧ b < W.heap.size ∧ b ∉ fp
def valOf (vs : List Value) : Value := match vs with | [v] => v | vs => .tuple vs.toArray
/-- What is not owned through and through holds nothing owned within. -/
def Tidy (rs : List Dat) : Prop := ∀ d ∈ rs, ∀ tag sz es, C.sl (some tag) sz es ∈ d.2 → Es.strip es = es
def ResRz (W : World) (ok : Nat → Prop) (B : Nat) (own : Bool) (rs : List Dat) (v : Value) : Prop :=
  ∃ vs fp, v = valOf vs ∧ Dats.rz W (okRes own ok B W fp) B rs vs fp ∧ fp.Nodup ∧ (own = false → Tidy rs)

/-- A function that can be entered. -/
def FnOk (P : Program) (f : Nat) : Prop := ∃ fn, P.funcs[f]? = some fn ∧ fn.body.isSome = true ∧ (fn.name == "runtime.NumGoroutine") = false
/-- 'Below', and the count of draws has not gone back. -/
structure Bel (B : Nat) (w w' : World) : Prop where
  os : w'.os = w.os
  tape : w'.tape = w.tape
  output : w'.output = w.output
  size : w.heap.size ≤ w'.heap.size
  drawn : w.drawn ≤ w'.drawn
  block : ∀ k, k < B → w'.heap[k]? = w.heap[k]?
theorem Bel.below {B : Nat} {w w' : World} (h : Bel B w w') : Below B w w' := ⟨h.os, h.tape, h.output, h.size, h.block⟩
theorem Bel.refl (B : Nat) (w : World) : Bel B w w := ⟨rfl, rfl, rfl, Nat.le_refl _, Nat.le_refl _, fun _ _ => rfl⟩
/-- A world in which the blocks of an elder one are as they were, but for those of X. -/
structure BelowX (X : Nat → Prop) (W0 W : World) : Prop where
  os : W.os = W0.os
  tape : W.tape = W0.tape
  output : W.output = W0.output
  size : W0.heap.size ≤ W.heap.size
  drawn : W0.drawn ≤ W.drawn
  block : ∀ b, b < W0.heap.size → ¬ X b → W.heap[b]? = W0.heap[b]?
theorem BelowX.of {X : Nat → Prop} {W0 W : World} (h : Bel W0.heap.size W0 W) : BelowX X W0 W := ⟨h.os, h.tape, h.output, h.size, h.drawn, fun b hb _ => h.block b hb⟩
theorem BelowX.to {X : Nat → Prop} {W0 W : World} (h : BelowX X W0 W) (hX : ∀ b, ¬ X b) : Bel W0.heap.size W0 W := ⟨h.os, h.tape, h.output, h.size, h.drawn, fun b hb => h.block b hb (hX b)⟩
theorem BelowX.trans {X : Nat → Prop} {W0 W W' : World} (h : BelowX X W0 W) (h' : BelowX X W W') : BelowX X W0 W' :=
  ⟨h'.os.trans h.os, h'.tape.trans h.tape, h'.output.trans h.output, Nat.le_trans h.size h'.size, Nat.le_trans h.drawn h'.drawn, fun b hb hX => (h'.block b (Nat.lt_of_lt_of_le hb h.size) hX).trans (h.block b hb hX)⟩
/-- A function value that does what 'sem' says, in whatever world has the blocks of W0 as they were, but for those of X. -/
def FnRz (P : Program) (W0 : World) (X : Nat → Prop) (sem : List Dat → List Dat → Prop) (v : Value) : Prop :=
  ∃ f caps, v = .func (.func f) #[] caps ∧ ∀ W', BelowX X W0 W' → ∀ (ok : Nat → Prop) ds vs rs, sem ds rs → Dats.rz W' ok 0 ds vs [] →
    (∀ b, ok b → b < W'.heap.size) →
    FnOk P f ∧ Calls P f (vs.toArray ++ caps) W' fun e W'' => Bel W'.heap.size W' W'' ∧ ∃ v, e = .returned v ∧ ResRz W'' ok W'.heap.size true rs v

/-- What does not turn while a call runs. -/
structure Fr where
  P : Program
  W0 : World
  ok0 : Nat → Prop
  N : Nat
  γ : Nat → Value
  X : Nat → Prop
  Y : Nat → Prop
/-- Rows of its own: from any block on; that they are new, or given, is said apart. -/
def Fr.B (fr : Fr) : Nat := 0
/-- A block that the call may write: one that has come since, or that was given to it to be written. -/
def Fr.Top (fr : Fr) (b : Nat) : Prop := fr.W0.heap.size ≤ b ∨ fr.X b
/-- A block that the call may own: one that has come since, or that was given to it. -/
def Fr.New (fr : Fr) (b : Nat) : Prop := fr.W0.heap.size ≤ b ∨ fr.X b ∨ fr.Y b
theorem Fr.Top.new {fr : Fr} {b : Nat} (h : fr.Top b) : fr.New b := h.imp id .inl

mutual
def T.rz (fr : Fr) (W : World) (ok : Nat → Prop) (ν : Nat → Value) (h : Nat → Option Blk) : T → Value → Prop
  | .c x, v => C.rz W ok 0 x v []
  | .nilS, v => v = .slice none 0 0
  | .ref κ, v => v = ν κ ∧ (h κ).isSome = true
  | .ptr κ off, v => (h κ).isSome = true ∧ ∃ b, ν κ = .pointer (some ⟨b, 0, none⟩) ∧ v = .pointer (some ⟨b, off, none⟩)
  | .ep κ sz i off, v => (h κ).isSome = true ∧ ∃ b n c, ν κ = .slice (some ⟨b, 0, none⟩) n c ∧ v = .pointer (some ⟨b, i * sz + off, none⟩)
  | .pv xs, v => ∃ b o us, v = .pointer (some ⟨b, o, none⟩) ∧ ok b ∧ Cs.rz W ok 0 xs us [] ∧ ∀ i u, us[i]? = some u → W.cell? ⟨b, o + i, none⟩ = some u
  | .agg xs, v => ∃ us, v = .agg us.toArray ∧ (∀ u ∈ us, u.oneCell' = true) ∧ Ts.rz fr W ok ν h xs us
  | .tup xs, v => ∃ us, v = .tuple us.toArray ∧ Ts.rz fr W ok ν h xs us
  | .clo f caps, v => ∃ us, v = .func (.func f) #[] us.toArray ∧ Ts.rz fr W ok ν h caps us
  | .fn sem, v => FnRz fr.P fr.W0 fr.X sem v
  | .un, _ => True
  | .nn sz es, v => C.rz W ok 0 (.sl none sz es) v [] ∧ ∃ ad n c, v = .slice (some ad) n c
  | .ca x, v => C.rz fr.W0 fr.ok0 0 x v []
def Ts.rz (fr : Fr) (W : World) (ok : Nat → Prop) (ν : Nat → Value) (h : Nat → Option Blk) : List T → List Value → Prop
  | [], us => us = []
  | t :: ts, us => ∃ u us', us = u :: us' ∧ T.rz fr W ok ν h t u ∧ Ts.rz fr W ok ν h ts us'
end

/-- The block that a key's own row or variable lies in. -/
def topB (ν : Nat → Value) (κ : Nat) : Option Blk → Option Nat
  | some (.arr ..) => (ν κ).ownBlock
  | some (.opn ..) => (ν κ).ownBlock
  | some (.box _) => match ν κ with | .pointer (some a) => some a.block | _ => none
  | _ => none
def topOf (h : Nat → Option Blk) (ν : Nat → Value) (κ : Nat) : Option Nat := topB ν κ (h κ)

def okOf (fr : Fr) (W : World) (h : Nat → Option Blk) (ν : Nat → Value) : Nat → Prop :=
  fun b => (fr.ok0 b ∨ fr.New b) ∧ b < W.heap.size ∧ ∀ κ, topOf h ν κ ≠ some b

def Blk.rz (fr : Fr) (W : World) (ok : Nat → Prop) (ν : Nat → Value) (h : Nat → Option Blk) (κ : Nat) (fs : List Nat) : Blk → Prop
  | .arr true ty sz es => ∃ xs, W.ownsRow fr.B ty sz (ν κ) es.length xs ∧ Es.rz W (fun _ => False) fr.B sz es xs fs
  | .arr false ty sz es => ∃ xs, W.ownsRow fr.B ty sz (ν κ) es.length xs ∧ Es.rz W ok fr.B sz es xs [] ∧ fs = []
  | .box xs => fs = [] ∧ ∃ b us ty, ν κ = .pointer (some ⟨b, 0, none⟩) ∧ fr.B ≤ b ∧ W.heap[b]? = some (.cells us.toArray ty (0, 0)) ∧ Ts.rz fr W ok ν h xs us ∧ ∀ u ∈ us, u.oneCell' = true
  | .fro sz es => fs = [] ∧ C.rz W ok 0 (.sl none sz es) (ν κ) []
  | .dead => fs = [] ∧ (ν κ).oneCell' = true
  | .opn ty sz pre mid post => ∃ xs ms ys f1 f2, W.ownsRow fr.B ty sz (ν κ) (pre.length + 1 + post.length) (xs ++ (ms ++ ys)) ∧ Es.rz W (fun _ => False) fr.B sz pre xs f1 ∧ Ts.rz fr W ok ν h mid ms ∧ (∀ u ∈ ms, u.oneCell' = true) ∧ mid.length = sz ∧
      Es.rz W (fun _ => False) fr.B sz post ys f2 ∧ fs = f1 ++ f2

structure Rel (fr : Fr) (st : St) (a : Act) (W : World) (ν : Nat → Value) (F : Nat → List Nat) : Prop where
  defers : a.defers = []
  size : a.tmps.size = fr.N
  below : BelowX fr.X fr.W0 W
  ok0 : ∀ b, fr.ok0 b → b < fr.W0.heap.size ∧ ¬ fr.X b
  slots : ∀ j, T.rz fr W (okOf fr W st.h ν) ν st.h (st.s j) (a.tmps.getD j undef)
  ghosts : ∀ j, T.rz fr W (okOf fr W st.h ν) ν st.h (st.g j) (fr.γ j)
  heap : ∀ κ blk, st.h κ = some blk → blk.rz fr W (okOf fr W st.h ν) ν st.h κ (F κ)
  none_ : ∀ κ, st.h κ = none → F κ = []
  d1 : ∀ κ κ' b, κ ≠ κ' → topOf st.h ν κ = some b → topOf st.h ν κ' ≠ some b
  d2 : ∀ κ κ' b, b ∈ F κ → topOf st.h ν κ' ≠ some b
  d3 : ∀ κ, (F κ).Nodup
  d4 : ∀ κ κ' b, κ ≠ κ' → b ∈ F κ → b ∉ F κ'
  n1 : ∀ κ b, topOf st.h ν κ = some b → fr.Top b
  n2 : ∀ κ b, b ∈ F κ → fr.New b

def RelE (fr : Fr) (st : St) (a : Act) (W : World) : Prop := ∃ ν F, Rel fr st a W ν F

/-! ### moves -/
theorem ownBlock_lt {W : World} {B e sz n : Nat} {v : Value} {xs : List Value} (h : W.ownsRow B e sz v n xs) {b : Nat} (hb : v.ownBlock = some b) : B ≤ b ∧ b < W.heap.size := h.lt b hb

theorem Dat.rz_move {W W' : World} {ok ok' : Nat → Prop} {B B' : Nat} (hok : ∀ b, ok b → ok' b ∧ W'.heap[b]? = W.heap[b]?) (hB : B' ≤ B) {d : Dat} {v : Value} {fp : List Nat}
    (hf : ∀ b, b ∈ fp → W'.heap[b]? = W.heap[b]?) (h : Dat.rz W ok B d v fp) : Dat.rz W' ok' B' d v fp := by
  obtain ⟨us, h1, h2⟩ := h
  exact ⟨us, Cs.rz_move hok hB _ _ _ hf h1, h2⟩
theorem Dats.rz_move {W W' : World} {ok ok' : Nat → Prop} {B B' : Nat} (hok : ∀ b, ok b → ok' b ∧ W'.heap[b]? = W.heap[b]?) (hB : B' ≤ B) :
    ∀ (ds : List Dat) (vs : List Value) (fp : List Nat), (∀ b, b ∈ fp → W'.heap[b]? = W.heap[b]?) → Dats.rz W ok B ds vs fp → Dats.rz W' ok' B' ds vs fp
  | [], vs, fp, _, h => by simpa only [Dats.rz] using h
  | d :: ds, vs, fp, hf, h => by
    simp only [Dats.rz] at h ⊢
    obtain ⟨v, vs', f1, f2, rfl, rfl, h1, h2⟩ := h
    exact ⟨v, vs', f1, f2, rfl, rfl, Dat.rz_move hok hB (fun b hb => hf b (by simp [hb])) h1, Dats.rz_move hok hB ds vs' f2 (fun b hb => hf b (by simp [hb])) h2⟩

mutual
theorem T.rz_move {fr : Fr} {W W' : World} {ok ok' : Nat → Prop} {ν ν' : Nat → Value} {h h' : Nat → Option Blk} (hok : ∀ b, ok b → ok' b ∧ W'.heap[b]? = W.heap[b]?)
    (hν : ∀ κ, (h κ).isSome = true → ν' κ = ν κ) (hh : ∀ κ, (h κ).isSome = true → (h' κ).isSome = true) :
    ∀ (t : T) (v : Value), T.rz fr W ok ν h t v → T.rz fr W' ok' ν' h' t v
  | .c x, v, hr => by simp only [T.rz] at hr ⊢; exact C.rz_move hok (Nat.le_refl _) x v [] (by simp) hr
  | .nilS, v, hr => by simpa only [T.rz] using hr
  | .ref κ, v, hr => by simp only [T.rz] at hr ⊢; exact ⟨by rw [hν κ hr.2]; exact hr.1, hh κ hr.2⟩
  | .ptr κ off, v, hr => by simp only [T.rz] at hr ⊢; exact ⟨hh κ hr.1, by rw [hν κ hr.1]; exact hr.2⟩
  | .ep κ sz i off, v, hr => by simp only [T.rz] at hr ⊢; exact ⟨hh κ hr.1, by rw [hν κ hr.1]; exact hr.2⟩
  | .pv xs, v, hr => by
    simp only [T.rz] at hr ⊢
    obtain ⟨b, o, us, h1, h2, h3, h4⟩ := hr
    exact ⟨b, o, us, h1, (hok b h2).1, Cs.rz_move hok (Nat.le_refl _) xs us [] (by simp) h3, fun i u hu => by rw [cell_of_block (hok b h2).2]; exact h4 i u hu⟩
  | .agg xs, v, hr => by
    simp only [T.rz] at hr ⊢
    obtain ⟨us, h1, h0, h2⟩ := hr
    exact ⟨us, h1, h0, Ts.rz_move hok hν hh xs us h2⟩
  | .tup xs, v, hr => by
    simp only [T.rz] at hr ⊢
    obtain ⟨us, h1, h2⟩ := hr
    exact ⟨us, h1, Ts.rz_move hok hν hh xs us h2⟩
  | .clo f xs, v, hr => by
    simp only [T.rz] at hr ⊢
    obtain ⟨us, h1, h2⟩ := hr
    exact ⟨us, h1, Ts.rz_move hok hν hh xs us h2⟩
  | .fn sem, v, hr => by simpa only [T.rz] using hr
  | .un, v, hr => by simp only [T.rz]
  | .nn sz es, v, hr => by simp only [T.rz] at hr ⊢; exact ⟨C.rz_move hok (Nat.le_refl _) _ v [] (by simp) hr.1, hr.2⟩
  | .ca x, v, hr => by simpa only [T.rz] using hr
theorem Ts.rz_move {fr : Fr} {W W' : World} {ok ok' : Nat → Prop} {ν ν' : Nat → Value} {h h' : Nat → Option Blk} (hok : ∀ b, ok b → ok' b ∧ W'.heap[b]? = W.heap[b]?)
    (hν : ∀ κ, (h κ).isSome = true → ν' κ = ν κ) (hh : ∀ κ, (h κ).isSome = true → (h' κ).isSome = true) :
    ∀ (ts : List T) (us : List Value), Ts.rz fr W ok ν h ts us → Ts.rz fr W' ok' ν' h' ts us
  | [], us, hr => by simpa only [Ts.rz] using hr
  | t :: ts, us, hr => by
    simp only [Ts.rz] at hr ⊢
    obtain ⟨u, us', h1, h2, h3⟩ := hr
    exact ⟨u, us', h1, T.rz_move hok hν hh t u h2, Ts.rz_move hok hν hh ts us' h3⟩
end
end Go.Vm

namespace Go.Vm
open Go Go.RowKit

/-- Only the blocks of X may have been written; blocks may have come. -/
structure Chg (W W' : World) (X : List Nat) : Prop where
  os : W'.os = W.os
  tape : W'.tape = W.tape
  output : W'.output = W.output
  size : W.heap.size ≤ W'.heap.size
  drawn : W.drawn ≤ W'.drawn
  block : ∀ b, b < W.heap.size → b ∉ X → W'.heap[b]? = W.heap[b]?

theorem Chg.refl (W : World) : Chg W W [] := ⟨rfl, rfl, rfl, Nat.le_refl _, Nat.le_refl _, fun _ _ _ => rfl⟩
theorem Chg.of_below {W W' : World} (h : Bel W.heap.size W W') : Chg W W' [] := ⟨h.os, h.tape, h.output, h.size, h.drawn, fun b hb _ => h.block b hb⟩
theorem Chg.alloc (W : World) (o : Obj) : Chg W (W.alloc o) [] :=
  ⟨rfl, rfl, rfl, by simp, Nat.le_refl _, fun b hb _ => Below.heap_alloc W o b hb⟩
theorem Chg.drew (W : World) : Chg W W.drew [] := ⟨rfl, rfl, rfl, Nat.le_refl _, Nat.le_succ _, fun _ _ _ => rfl⟩

structure Eff where
  t : T
  supp : List Nat
  mods : List (Nat × Blk)

def upd (s : Nat → T) (dst : Option Nat) (t : T) : Nat → T := match dst with
  | some d => fun j => if j = d then t else s j
  | none => s
def lk (κ : Nat) : List (Nat × Blk) → Option Blk
  | [] => none
  | (k, b) :: r => if κ = k then some b else lk κ r
def mrg (h : Nat → Option Blk) (m : List (Nat × Blk)) : Nat → Option Blk := fun κ => match lk κ m with | some b => some b | none => h κ
def app (st : St) (dst : Option Nat) (e : Eff) : St := ⟨upd st.s dst e.t, mrg st.h e.mods, st.g⟩

theorem mrg_some {h : Nat → Option Blk} {m : List (Nat × Blk)} {κ : Nat} {b : Blk} (hl : lk κ m = some b) : mrg h m κ = some b := by simp [mrg, hl]
theorem mrg_none {h : Nat → Option Blk} {m : List (Nat × Blk)} {κ : Nat} (hl : lk κ m = none) : mrg h m κ = h κ := by simp [mrg, hl]
theorem mrg_isSome {h : Nat → Option Blk} {m : List (Nat × Blk)} {κ : Nat} (hs : (h κ).isSome = true) : (mrg h m κ).isSome = true := by
  unfold mrg; split <;> simp_all

theorem topB_lt {fr : Fr} {W : World} {ok : Nat → Prop} {ν : Nat → Value} {h : Nat → Option Blk} {κ : Nat} {fs : List Nat} {blk : Blk} {b : Nat}
    (hr : blk.rz fr W ok ν h κ fs) (ht : topB ν κ (some blk) = some b) : fr.B ≤ b ∧ b < W.heap.size := by
  cases blk with
  | arr d ty sz es =>
    cases d <;> simp only [Blk.rz] at hr <;> obtain ⟨xs, ho, _⟩ := hr <;> exact ho.lt b ht
  | box xs =>
    simp only [Blk.rz] at hr
    obtain ⟨_, b', us, ty, hv, hB, hh, _⟩ := hr
    simp only [topB, hv, Option.some.injEq] at ht
    subst ht
    exact ⟨hB, (Array.getElem?_eq_some_iff.1 hh).1⟩
  | fro => simp [topB] at ht
  | dead => simp [topB] at ht
  | opn ty sz pre mid post => simp only [Blk.rz] at hr; obtain ⟨xs, ms, ys, f1, f2, ho, _⟩ := hr; exact ho.lt b ht

theorem Blk.rz_fp {fr : Fr} {W : World} {ok : Nat → Prop} {ν : Nat → Value} {h : Nat → Option Blk} {κ : Nat} {fs : List Nat} {blk : Blk} {b : Nat}
    (hr : blk.rz fr W ok ν h κ fs) (hb : b ∈ fs) : fr.B ≤ b ∧ b < W.heap.size := by
  cases blk with
  | arr d ty sz es =>
    cases d <;> simp only [Blk.rz] at hr
    · obtain ⟨xs, ho, _, hf⟩ := hr; subst hf; cases hb
    · obtain ⟨xs, ho, he⟩ := hr; exact Es.rz_fp sz es xs fs he b hb
  | box xs => simp only [Blk.rz] at hr; rw [hr.1] at hb; cases hb
  | fro => simp only [Blk.rz] at hr; rw [hr.1] at hb; cases hb
  | dead => simp only [Blk.rz] at hr; rw [hr.1] at hb; cases hb
  | opn ty sz pre mid post =>
    simp only [Blk.rz] at hr
    obtain ⟨xs, ms, ys, f1, f2, ho, h1, _, _, _, h2, rfl⟩ := hr
    rcases List.mem_append.1 hb with hb | hb
    · exact Es.rz_fp sz _ _ _ h1 b hb
    · exact Es.rz_fp sz _ _ _ h2 b hb

theorem Blk.rz_move {fr : Fr} {W W' : World} {ok ok' : Nat → Prop} {ν ν' : Nat → Value} {h h' : Nat → Option Blk} {κ : Nat} {fs : List Nat} {blk : Blk}
    (hok : ∀ b, ok b → ok' b ∧ W'.heap[b]? = W.heap[b]?) (hν : ∀ κ, (h κ).isSome = true → ν' κ = ν κ) (hh : ∀ κ, (h κ).isSome = true → (h' κ).isSome = true)
    (hκ : ν' κ = ν κ) (htop : ∀ b, topB ν κ (some blk) = some b → W'.heap[b]? = W.heap[b]?) (hf : ∀ b, b ∈ fs → W'.heap[b]? = W.heap[b]?)
    (hr : blk.rz fr W ok ν h κ fs) : blk.rz fr W' ok' ν' h' κ fs := by
  cases blk with
  | arr d ty sz es =>
    cases d <;> simp only [Blk.rz] at hr ⊢ <;> rw [hκ]
    · obtain ⟨xs, ho, he, hfs⟩ := hr
      exact ⟨xs, ownsRow_move ho htop, Es.rz_move hok (Nat.le_refl _) sz es xs [] (by simp) he, hfs⟩
    · obtain ⟨xs, ho, he⟩ := hr
      exact ⟨xs, ownsRow_move ho htop, Es.rz_move (fun b hb => hb.elim) (Nat.le_refl _) sz es xs fs hf he⟩
  | box xs =>
    simp only [Blk.rz] at hr ⊢
    rw [hκ]
    obtain ⟨hfs, b, us, ty, hv, hB, hb, hts, h1⟩ := hr
    refine ⟨hfs, b, us, ty, hv, hB, ?_, Ts.rz_move hok hν hh xs us hts, h1⟩
    rw [htop b (by simp [topB, hv])]; exact hb
  | fro sz es =>
    simp only [Blk.rz] at hr ⊢
    rw [hκ]
    exact ⟨hr.1, C.rz_move hok (Nat.le_refl _) _ _ [] (by simp) hr.2⟩
  | dead => simp only [Blk.rz] at hr ⊢; rw [hκ]; exact hr
  | opn ty sz pre mid post =>
    simp only [Blk.rz] at hr ⊢
    rw [hκ]
    obtain ⟨xs, ms, ys, f1, f2, ho, h1, h2, h3, h4, h5, rfl⟩ := hr
    exact ⟨xs, ms, ys, f1, f2, ownsRow_move ho htop, Es.rz_move (fun b hb => hb.elim) (Nat.le_refl _) _ _ _ _ (fun b hb => hf b (by simp [hb])) h1, Ts.rz_move hok hν hh mid ms h2, h3, h4,
      Es.rz_move (fun b hb => hb.elim) (Nat.le_refl _) _ _ _ _ (fun b hb => hf b (by simp [hb])) h5, rfl⟩

theorem topB_congr {ν ν' : Nat → Value} {κ : Nat} (b : Option Blk) (h : b.isSome = true → ν' κ = ν κ) : topB ν' κ b = topB ν κ b := by
  cases b with
  | none => rfl
  | some blk => cases blk <;> simp [topB, h rfl]

section
variable {fr : Fr} {st : St} {a : Act} {W W' : World} {ν ν' : Nat → Value} {F F' : Nat → List Nat}

theorem Rel.top_lt (h : Rel fr st a W ν F) {κ b : Nat} (ht : topOf st.h ν κ = some b) : fr.New b ∧ b < W.heap.size := by
  refine ⟨(h.n1 κ b ht).new, ?_⟩
  unfold topOf at ht
  cases hb : st.h κ with
  | none => simp [hb, topB] at ht
  | some blk => rw [hb] at ht; exact (topB_lt (h.heap κ blk hb) ht).2
theorem Rel.F_lt (h : Rel fr st a W ν F) {κ b : Nat} (hb : b ∈ F κ) : fr.New b ∧ b < W.heap.size := by
  refine ⟨h.n2 κ b hb, ?_⟩
  cases hk : st.h κ with
  | none => rw [h.none_ κ hk] at hb; cases hb
  | some blk => exact (Blk.rz_fp (h.heap κ blk hk) hb).2

/-- What was data at the call's beginning is so still. -/
theorem Rel.ca (h : Rel fr st a W ν F) {x : C} {v : Value} (hx : C.rz fr.W0 fr.ok0 0 x v []) : C.rz W (okOf fr W st.h ν) 0 x v [] :=
  C.rz_move (fun b hb => ⟨⟨.inl hb, Nat.lt_of_lt_of_le (h.ok0 b hb).1 h.below.size, fun κ ht => by
    rcases h.n1 κ b ht with h1 | h1
    · have := (h.ok0 b hb).1; omega
    · exact (h.ok0 b hb).2 h1⟩, h.below.block b (h.ok0 b hb).1 (h.ok0 b hb).2⟩) (Nat.le_refl _) x v [] (by simp) hx
/-- What a step may use for what it makes: new blocks, and those of what it modifies. -/
def Rel.free (st : St) (W : World) (ν : Nat → Value) (F : Nat → List Nat) (M : List (Nat × Blk)) (b : Nat) : Prop :=
  W.heap.size ≤ b ∨ ∃ κ, (lk κ M).isSome = true ∧ (topOf st.h ν κ = some b ∨ b ∈ F κ)

theorem Rel.new_of (h : Rel fr st a W ν F) {M : List (Nat × Blk)} {b : Nat} (hf : Rel.free st W ν F M b) : fr.New b := by
  rcases hf with hf | ⟨κ, _, hf | hf⟩
  · exact .inl (Nat.le_trans h.below.size hf)
  · exact (h.n1 κ b hf).new
  · exact h.n2 κ b hf

theorem put_size (a : Act) (dst : Option Nat) (v : Value) : (a.put dst v).tmps.size = a.tmps.size := by cases dst <;> simp [Act.put]
theorem put_defers (a : Act) (dst : Option Nat) (v : Value) : (a.put dst v).defers = a.defers := by cases dst <;> simp [Act.put]
theorem put_get (a : Act) (dst : Option Nat) (v : Value) (j : Nat) (hd : ∀ d, dst = some d → d < a.tmps.size) :
    (a.put dst v).tmps.getD j undef = if dst = some j then v else a.tmps.getD j undef := by
  cases dst with
  | none => simp [Act.put]
  | some d =>
    have := hd d rfl
    simp only [Act.put, Array.getD_eq_getD_getElem?, Array.getElem?_setIfInBounds, Option.some.injEq]
    split
    · subst_vars; simp
    · rfl

theorem Rel.ok_move (h : Rel fr st a W ν F) {M : List (Nat × Blk)} {X : List Nat} (hc : Chg W W' X) (hX : ∀ b ∈ X, ∃ κ, (lk κ M).isSome = true ∧ topOf st.h ν κ = some b)
    (hν : ∀ κ, (st.h κ).isSome = true → ν' κ = ν κ)
    (hR : ∀ κ b, (lk κ M).isSome = true → (topOf (mrg st.h M) ν' κ = some b ∨ b ∈ F' κ) → Rel.free st W ν F M b)
    (hT : ∀ κ b, (lk κ M).isSome = true → topOf (mrg st.h M) ν' κ = some b → W.heap.size ≤ b ∨ ∃ κ', topOf st.h ν κ' = some b) :
    ∀ b, okOf fr W st.h ν b → okOf fr W' (mrg st.h M) ν' b ∧ W'.heap[b]? = W.heap[b]? := by
  rintro b ⟨h1, h2, h3⟩
  refine ⟨⟨h1, Nat.lt_of_lt_of_le h2 hc.size, fun κ ht => ?_⟩, hc.block b h2 fun hb => ?_⟩
  · cases hl : lk κ M with
    | none =>
      rw [topOf, mrg_none hl, topB_congr _ (fun hs => hν κ hs)] at ht
      exact h3 κ ht
    | some blk =>
      rcases hT κ b (by simp [hl]) ht with hlt | ⟨κ', hk⟩
      · omega
      · exact h3 κ' hk
  · obtain ⟨κ, _, ht⟩ := hX b hb
    exact h3 κ ht

/-- THE MASTER LEMMA. -/
theorem Rel.step (h : Rel fr st a W ν F) {M : List (Nat × Blk)} {X : List Nat} {dst : Option Nat} {t : T} {v : Value}
    (hc : Chg W W' X) (hX : ∀ b ∈ X, ∃ κ, (lk κ M).isSome = true ∧ topOf st.h ν κ = some b)
    (hν : ∀ κ, (st.h κ).isSome = true → ν' κ = ν κ) (hF : ∀ κ, lk κ M = none → F' κ = F κ)
    (hT : ∀ κ b, (lk κ M).isSome = true → topOf (mrg st.h M) ν' κ = some b → W.heap.size ≤ b ∨ ∃ κ', (lk κ' M).isSome = true ∧ topOf st.h ν κ' = some b)
    (hFr : ∀ κ b, (lk κ M).isSome = true → b ∈ F' κ → Rel.free st W ν F M b)
    (i1 : ∀ κ κ' b, κ ≠ κ' → (lk κ M).isSome = true → (lk κ' M).isSome = true → topOf (mrg st.h M) ν' κ = some b → topOf (mrg st.h M) ν' κ' ≠ some b)
    (i2 : ∀ κ κ' b, (lk κ M).isSome = true → (lk κ' M).isSome = true → b ∈ F' κ → topOf (mrg st.h M) ν' κ' ≠ some b)
    (i3 : ∀ κ, (lk κ M).isSome = true → (F' κ).Nodup)
    (i4 : ∀ κ κ' b, κ ≠ κ' → (lk κ M).isSome = true → (lk κ' M).isSome = true → b ∈ F' κ → b ∉ F' κ')
    (hblk : ∀ κ blk, lk κ M = some blk → blk.rz fr W' (okOf fr W' (mrg st.h M) ν') ν' (mrg st.h M) κ (F' κ))
    (ht : T.rz fr W' (okOf fr W' (mrg st.h M) ν') ν' (mrg st.h M) t v) (hd : ∀ d, dst = some d → d < fr.N) :
    Rel fr ⟨upd st.s dst t, mrg st.h M, st.g⟩ (a.put dst v) W' ν' F' := by
  have hR : ∀ κ b, (lk κ M).isSome = true → (topOf (mrg st.h M) ν' κ = some b ∨ b ∈ F' κ) → Rel.free st W ν F M b := by
    intro κ b hs hb
    rcases hb with hb | hb
    · rcases hT κ b hs hb with hl | ⟨κ', hs', hk⟩
      · exact .inl hl
      · exact .inr ⟨κ', hs', .inl hk⟩
    · exact hFr κ b hs hb
  have hok := h.ok_move hc hX hν hR (fun κ b hs hb => (hT κ b hs hb).imp id fun ⟨κ', _, hk⟩ => ⟨κ', hk⟩)
  have hh : ∀ κ, (st.h κ).isSome = true → (mrg st.h M κ).isSome = true := fun κ hs => mrg_isSome hs
  have old : ∀ κ, lk κ M = none → topOf (mrg st.h M) ν' κ = topOf st.h ν κ := fun κ hl => by
    rw [topOf, mrg_none hl, topB_congr _ (fun hs => hν κ hs)]; rfl
  -- what is free is none of what isn't modified
  have free1 : ∀ κ b, lk κ M = none → Rel.free st W ν F M b → topOf st.h ν κ ≠ some b := by
    intro κ b hl hf ht
    rcases hf with hf | ⟨κ', hs, hf⟩
    · have := (h.top_lt ht).2; omega
    · have hne : κ' ≠ κ := by rintro rfl; simp [hl] at hs
      rcases hf with hf | hf
      · exact h.d1 κ' κ b hne hf ht
      · exact h.d2 κ' κ b hf ht
  have free2 : ∀ κ b, lk κ M = none → Rel.free st W ν F M b → b ∉ F κ := by
    intro κ b hl hf ht
    rcases hf with hf | ⟨κ', hs, hf⟩
    · have := (h.F_lt ht).2; omega
    · have hne : κ' ≠ κ := by rintro rfl; simp [hl] at hs
      rcases hf with hf | hf
      · exact h.d2 κ κ' b ht hf
      · exact h.d4 κ' κ b hne hf ht
  have hbX : ∀ κ b, lk κ M = none → topOf st.h ν κ = some b → W'.heap[b]? = W.heap[b]? := by
    intro κ b hl ht
    refine hc.block b (h.top_lt ht).2 fun hb => ?_
    obtain ⟨κ', hs, hk⟩ := hX b hb
    exact free1 κ b hl (.inr ⟨κ', hs, .inl hk⟩) ht
  have hbF : ∀ κ b, lk κ M = none → b ∈ F κ → W'.heap[b]? = W.heap[b]? := by
    intro κ b hl ht
    refine hc.block b (h.F_lt ht).2 fun hb => ?_
    obtain ⟨κ', hs, hk⟩ := hX b hb
    exact free2 κ b hl (.inr ⟨κ', hs, .inl hk⟩) ht
  constructor
  · rw [put_defers]; exact h.defers
  · rw [put_size]; exact h.size
  · refine ⟨hc.os.trans h.below.os, hc.tape.trans h.below.tape, hc.output.trans h.below.output, Nat.le_trans h.below.size hc.size, Nat.le_trans h.below.drawn hc.drawn, fun k hk hx => ?_⟩
    rw [hc.block k (Nat.lt_of_lt_of_le hk h.below.size) fun hb => ?_]
    · exact h.below.block k hk hx
    · obtain ⟨κ', _, hk'⟩ := hX k hb
      rcases h.n1 κ' k hk' with hn | hn
      · omega
      · exact hx hn
  · exact h.ok0
  · intro j
    rw [put_get a dst v j (by rw [h.size]; exact hd)]
    by_cases hj : dst = some j
    · subst hj; simpa [upd] using ht
    · rw [if_neg hj]
      have : (upd st.s dst t) j = st.s j := by
        cases dst with
        | none => rfl
        | some d => simp only [upd]; rw [if_neg (fun e => hj (by rw [e]))]
      show T.rz fr W' _ ν' _ (upd st.s dst t j) _
      rw [this]
      exact T.rz_move hok hν hh _ _ (h.slots j)
  · exact fun j => T.rz_move hok hν hh _ _ (h.ghosts j)
  · intro κ blk hb
    cases hl : lk κ M with
    | some blk' =>
      have hb' : mrg st.h M κ = some blk := hb
      rw [mrg_some hl] at hb'
      exact hblk κ blk (by rw [hl]; exact hb')
    | none =>
      have hb' : mrg st.h M κ = some blk := hb
      rw [mrg_none hl] at hb'
      rw [hF κ hl]
      refine Blk.rz_move hok hν hh (hν κ (by rw [hb']; rfl)) (fun b ht => hbX κ b hl (by rw [topOf, hb']; exact ht)) (fun b ht => hbF κ b hl ht) (h.heap κ blk hb')
  · intro κ hn
    have hn' : mrg st.h M κ = none := hn
    cases hl : lk κ M with
    | some blk => rw [mrg_some hl] at hn'; cases hn'
    | none => rw [mrg_none hl] at hn'; rw [hF κ hl]; exact h.none_ κ hn'
  · intro κ κ' b hne h1 h2
    have h1' : topOf (mrg st.h M) ν' κ = some b := h1
    have h2' : topOf (mrg st.h M) ν' κ' = some b := h2
    cases hl : lk κ M with
    | none =>
      rw [old κ hl] at h1'
      cases hl' : lk κ' M with
      | none => rw [old κ' hl'] at h2'; exact h.d1 κ κ' b hne h1' h2'
      | some _ => exact free1 κ b hl (hR κ' b (by simp [hl']) (.inl h2')) h1'
    | some _ =>
      cases hl' : lk κ' M with
      | none => rw [old κ' hl'] at h2'; exact free1 κ' b hl' (hR κ b (by simp [hl]) (.inl h1')) h2'
      | some _ => exact i1 κ κ' b hne (by simp [hl]) (by simp [hl']) h1' h2'
  · intro κ κ' b h1 h2
    have h2' : topOf (mrg st.h M) ν' κ' = some b := h2
    cases hl : lk κ M with
    | none =>
      rw [hF κ hl] at h1
      cases hl' : lk κ' M with
      | none => rw [old κ' hl'] at h2'; exact h.d2 κ κ' b h1 h2'
      | some _ => exact free2 κ b hl (hR κ' b (by simp [hl']) (.inl h2')) h1
    | some _ =>
      cases hl' : lk κ' M with
      | none => rw [old κ' hl'] at h2'; exact free1 κ' b hl' (hR κ b (by simp [hl]) (.inr h1)) h2'
      | some _ => exact i2 κ κ' b (by simp [hl]) (by simp [hl']) h1 h2'
  · intro κ
    cases hl : lk κ M with
    | none => rw [hF κ hl]; exact h.d3 κ
    | some _ => exact i3 κ (by simp [hl])
  · intro κ κ' b hne h1 h2
    cases hl : lk κ M with
    | none =>
      rw [hF κ hl] at h1
      cases hl' : lk κ' M with
      | none => rw [hF κ' hl'] at h2; exact h.d4 κ κ' b hne h1 h2
      | some _ => exact free2 κ b hl (hR κ' b (by simp [hl']) (.inr h2)) h1
    | some _ =>
      cases hl' : lk κ' M with
      | none => rw [hF κ' hl'] at h2; exact free2 κ' b hl' (hR κ b (by simp [hl]) (.inr h1)) h2
      | some _ => exact i4 κ κ' b hne (by simp [hl]) (by simp [hl']) h1 h2
  · intro κ b h1
    have h1' : topOf (mrg st.h M) ν' κ = some b := h1
    cases hl : lk κ M with
    | none => rw [old κ hl] at h1'; exact h.n1 κ b h1'
    | some _ =>
      rcases hT κ b (by simp [hl]) h1' with h2 | ⟨κ', _, h2⟩
      · exact .inl (Nat.le_trans h.below.size h2)
      · exact h.n1 κ' b h2
  · intro κ b h1
    cases hl : lk κ M with
    | none => rw [hF κ hl] at h1; exact h.n2 κ b h1
    | some _ => exact h.new_of (hR κ b (by simp [hl]) (.inr h1))
end
end Go.Vm

namespace Go.Vm
open Go Go.RowKit

inductive TK where
  | struct (fs : List (Nat × Nat))
  | slice (e : Nat)
  | int (k : IntKind)
  | bool
  | array
  | other
def tkind : TypeDesc → TK
  | .struct fs => .struct (fs.toList.map fun f => (f.offset, f.type))
  | .slice e => .slice e
  | .int k => .int k
  | .bool => .bool
  | .array _ _ => .array
  | _ => .other
/-- What the walk knows of a type. -/
structure TyI where
  size : Nat
  bytes : Nat
  zv : Value
  kind : TK
  cts : List (Nat × Nat)
  scal : Bool
  psz : Nat
  zts : List T
structure TyOk (P : Program) (t : Nat) (i : TyI) : Prop where
  info : (P.info? t).map (fun x => (x.size, x.bytes, x.zero)) = some (i.size, i.bytes, some i.zv)
  und : (P.underlying t).map tkind = some i.kind
def TK.agg : TK → Bool
  | .struct _ => true
  | _ => false
def LOk (P : Program) (L : Nat → Option TyI) : Prop := ∀ t i, L t = some i → TyOk P t i

section
variable {P : Program} {t : Nat} {i : TyI}
theorem TyOk.info' (h : TyOk P t i) : ∃ x, P.info? t = some x ∧ x.size = i.size ∧ x.bytes = i.bytes ∧ x.zero = some i.zv := by
  have := h.info
  cases hx : P.info? t with
  | none => simp [hx] at this
  | some x => simp only [hx, Option.map_some, Option.some.injEq, Prod.mk.injEq] at this; exact ⟨x, rfl, this⟩
theorem TyOk.und' (h : TyOk P t i) : ∃ d, P.underlying t = some d ∧ tkind d = i.kind := by
  have := h.und
  cases hx : P.underlying t with
  | none => simp [hx] at this
  | some x => simp only [hx, Option.map_some, Option.some.injEq] at this; exact ⟨x, rfl, this⟩
theorem TyOk.size (h : TyOk P t i) (W : World) : (sizeOf t).run P W = .ok i.size W := by
  obtain ⟨x, hx, h1, h2, h3⟩ := h.info'
  simp [sizeOf, typeInfo, hx, h1]
theorem TyOk.zero (h : TyOk P t i) (W : World) : (zeroValue t).run P W = .ok i.zv W := by
  obtain ⟨x, hx, h1, h2, h3⟩ := h.info'
  simp [zeroValue, typeInfo, hx, h3]
theorem TyOk.agg (h : TyOk P t i) (hk : i.kind ≠ .array) (W : World) : (isAgg t).run P W = .ok i.kind.agg W := by
  obtain ⟨d, hd, hdk⟩ := h.und'
  unfold isAgg
  rw [Sem.run_bind, run_underlying hd W]
  rw [← hdk] at hk ⊢
  cases d <;> first | rfl | exact absurd rfl hk
theorem TyOk.slice (h : TyOk P t i) {e : Nat} (hk : i.kind = .slice e) : P.underlying t = some (.slice e) := by
  obtain ⟨d, hd, hdk⟩ := h.und'
  rw [hd]
  cases d <;> simp_all [tkind]
theorem TyOk.bool (h : TyOk P t i) (hk : i.kind = .bool) : P.underlying t = some .bool := by
  obtain ⟨d, hd, hdk⟩ := h.und'
  rw [hd]
  cases d <;> simp_all [tkind]
theorem TyOk.struct (h : TyOk P t i) {fs : List (Nat × Nat)} (hk : i.kind = .struct fs) : ∃ fa, P.underlying t = some (.struct fa) ∧ fa.toList.map (fun f => (f.offset, f.type)) = fs := by
  obtain ⟨d, hd, hdk⟩ := h.und'
  cases d <;> simp_all [tkind]
end

/-- A struct's cells as one value; a lone cell by itself. -/
def pack (i : TyI) (us : List Value) : Value := if i.kind.agg then .agg us.toArray else us.headD undef

section
variable {P : Program} {t : Nat} {i : TyI} {W : World}
theorem run_loadAt_cells (h : TyOk P t i) (hk : i.kind ≠ .array) (b o : Nat) (us : List Value) (hl : us.length = i.size) (h1 : i.kind.agg = false → i.size = 1)
    (hc : ∀ j u, us[j]? = some u → W.cell? ⟨b, o + j, none⟩ = some u) : (Instr.loadAt t (.pointer (some ⟨b, o, none⟩))).run P W = .ok (pack i us) W := by
  simp only [Instr.loadAt, Instr.sureAddr, loadVar, Sem.run_bind, Sem.run_pure, Result.andThen_ok, h.agg hk, pack]
  cases ha : i.kind.agg with
  | true =>
    have := run_loadCells_list (P := P) W ⟨b, o, none⟩ us (fun j v hv => by rw [add_plain]; exact hc j v hv)
    simp only [if_true, Sem.run_bind, h.size, Result.andThen_ok, ← hl, this, Sem.run_pure]
  | false =>
    have hs := h1 ha
    match us, hl with
    | [u], _ =>
      have := hc 0 u rfl
      simp only [Nat.add_zero] at this
      simp [run_load, this]
    | [], hl => simp at hl; omega
    | _ :: _ :: _, hl => simp at hl; omega

theorem run_storeAt_cells (h : TyOk P t i) (b o : Nat) (v : Value) (cur : Array Value) (ty : Nat) (hb : W.heap[b]? = some (.cells cur ty (0, 0))) (hl : v.cells.size = i.size)
    (hf : o + v.cells.size ≤ cur.size) (h1 : ∀ u ∈ v.cells.toList, u.oneCell' = true) :
    ∃ W', (Instr.storeAt t (.pointer (some ⟨b, o, none⟩)) v).run P W = .ok () W' ∧ Chg W W' [b] ∧
      W'.heap[b]? = some (.cells (cur.toList.take o ++ v.cells.toList ++ cur.toList.drop (o + v.cells.size)).toArray ty (0, 0)) := by
  have hst := run_storeCells_at P b o ty v.cells.toList 0 cur W hb (by simpa using hf) h1
  simp only [Nat.add_zero, Array.length_toList] at hst
  refine ⟨_, by simp only [Instr.storeAt, Instr.sureAddr, storeVar, Sem.run_bind, Sem.run_pure, Result.andThen_ok, h.size, hl, ne_eq, not_true_eq_false, if_false, hst]; rfl, ?_, ?_⟩
  · exact ⟨rfl, rfl, rfl, by simp [World.setRow], Nat.le_refl _, fun k hk hkb => setRow_other W b k _ (fun e => hkb (by simp [e]))⟩
  · rw [hl]; exact setRow_heap W b cur _ ty _ hb
end
end Go.Vm

namespace Go.Vm
open Go Go.RowKit

def constT : Value → T
  | .int k n => .c (.int k n)
  | .bool b => .c (.bool b)
  | .slice none n c => if n = 0 ∧ c = 0 then .nilS else .un
  | .func (.func f) x y => if x.size = 0 ∧ y.size = 0 then .clo f [] else .un
  | _ => .un
def opd (s : Nat → T) : Operand → T
  | .tmp t => s t
  | .const v => constT v
  | .func f => .clo f []
  | .global _ => .un
def opTmps (op : Op) : List Nat := op.operands.toList.filterMap fun | .tmp t => some t | _ => none

/-- What an operation does to the abstract state, whatever else the state holds. -/
def StepO (fr : Fr) (o : Oper) (st : St) (e : Eff) : Prop :=
  ∀ (Q : Exit → Act → World → Prop) (st' : St) (a : Act) (W : World) (K : Act → World → Prop), (∀ t, t ∈ opTmps o.op → st'.s t = st.s t) →
    (∀ κ, (κ ∈ e.supp ∨ (lk κ e.mods).isSome = true) → st'.h κ = st.h κ) → RelE fr st' a W →
    (∀ v W', RelE fr (app st' o.dst e) (a.put o.dst v) W' → K (a.put o.dst v) W') → o.wp fr.P a W K Q

section
variable {fr : Fr} {st st' : St} {a : Act} {W : World} {ν : Nat → Value} {F : Nat → List Nat} {o : Oper} {e : Eff}

theorem constT_rz (fr : Fr) (W : World) (ok : Nat → Prop) (ν : Nat → Value) (h : Nat → Option Blk) (v : Value) : T.rz fr W ok ν h (constT v) v := by
  unfold constT
  split
  · simp [T.rz, C.rz]
  · simp [T.rz, C.rz]
  · rename_i n c; split
    · rename_i hh; obtain ⟨rfl, rfl⟩ := hh; simp [T.rz]
    · simp [T.rz]
  · rename_i f x y; split
    · rename_i hh; obtain ⟨h1, h2⟩ := hh
      have e1 : x = #[] := Array.eq_empty_of_size_eq_zero h1
      have e2 : y = #[] := Array.eq_empty_of_size_eq_zero h2
      subst e1 e2; simp [T.rz, Ts.rz]
    · simp [T.rz]
  · simp [T.rz]

theorem Rel.opd (h : Rel fr st a W ν F) (x : Operand) : T.rz fr W (okOf fr W st.h ν) ν st.h (opd st.s x) (a.eval x) := by
  cases x with
  | tmp t => exact h.slots t
  | const v => exact constT_rz ..
  | global g => simp [Vm.opd, T.rz]
  | func f => simp [Vm.opd, T.rz, Ts.rz, Act.eval]

theorem opd_agree {s s' : Nat → T} {op : Op} (h : ∀ t, t ∈ opTmps op → s' t = s t) {x : Operand} (hx : x ∈ op.operands.toList) : opd s' x = opd s x := by
  cases x with
  | tmp t => exact h t (by unfold opTmps; exact List.mem_filterMap.2 ⟨.tmp t, hx, rfl⟩)
  | _ => rfl

/-- From a run that yields a value. -/
theorem StepO.of_value (H : ∀ (st' : St) (a : Act) (W : World) ν F, (∀ x, x ∈ o.op.operands.toList → Vm.opd st'.s x = Vm.opd st.s x) →
    (∀ κ, (κ ∈ e.supp ∨ (lk κ e.mods).isSome = true) → st'.h κ = st.h κ) → Rel fr st' a W ν F →
    ∃ v W', (execOp a.eval o).run fr.P W = .ok (.value v) W' ∧ RelE fr (app st' o.dst e) (a.put o.dst v) W') : StepO fr o st e := by
  intro Q st' a W K h1 h2 ⟨ν, F, hr⟩ hK
  obtain ⟨v, W', hrun, hrel⟩ := H st' a W ν F (fun x hx => opd_agree h1 hx) h2 hr
  unfold Oper.wp
  rw [hrun, Oper.upon_value]
  exact hK v W' hrel
theorem StepO.of_skip (H : ∀ (st' : St) (a : Act) (W : World) ν F, (∀ x, x ∈ o.op.operands.toList → Vm.opd st'.s x = Vm.opd st.s x) →
    (∀ κ, (κ ∈ e.supp ∨ (lk κ e.mods).isSome = true) → st'.h κ = st.h κ) → Rel fr st' a W ν F →
    ∃ W', (execOp a.eval o).run fr.P W = .ok .skip W' ∧ RelE fr (app st' o.dst e) (a.put o.dst undef) W') : StepO fr o st e := by
  intro Q st' a W K h1 h2 ⟨ν, F, hr⟩ hK
  obtain ⟨W', hrun, hrel⟩ := H st' a W ν F (fun x hx => opd_agree h1 hx) h2 hr
  unfold Oper.wp
  rw [hrun, Oper.upon_skip]
  exact hK _ W' hrel

theorem mrg_nil (h : Nat → Option Blk) : mrg h [] = h := rfl
/-- Nothing but a slot turns. -/
theorem Rel.pure (h : Rel fr st a W ν F) {dst : Option Nat} {t : T} {v : Value} {supp : List Nat} (ht : T.rz fr W (okOf fr W st.h ν) ν st.h t v) (hd : ∀ d, dst = some d → d < fr.N) :
    RelE fr (app st dst ⟨t, supp, []⟩) (a.put dst v) W :=
  ⟨ν, F, h.step (M := []) (X := []) (Chg.refl W) (by simp) (fun _ _ => rfl) (fun _ _ => rfl) (by simp [lk]) (by simp [lk]) (by simp [lk]) (by simp [lk]) (by simp [lk]) (by simp [lk]) (by simp [lk]) ht hd⟩
/-- .. and blocks have come, or a draw: what nobody knows of. -/
theorem Rel.grow (h : Rel fr st a W ν F) {W' : World} (hc : Chg W W' []) {dst : Option Nat} {t : T} {v : Value} {supp : List Nat} (ht : T.rz fr W' (okOf fr W' st.h ν) ν st.h t v) (hd : ∀ d, dst = some d → d < fr.N) :
    RelE fr (app st dst ⟨t, supp, []⟩) (a.put dst v) W' :=
  ⟨ν, F, h.step (M := []) (X := []) hc (by simp) (fun _ _ => rfl) (fun _ _ => rfl) (by simp [lk]) (by simp [lk]) (by simp [lk]) (by simp [lk]) (by simp [lk]) (by simp [lk]) (by simp [lk]) ht hd⟩

theorem step_move {x : Operand} (ho : o.op = .move x ∨ o.op = .assign x) (hd : ∀ d, o.dst = some d → d < fr.N) : StepO fr o st ⟨opd st.s x, [], []⟩ :=
  .of_value fun st' a W ν F h1 h2 h => by
    have hx : Vm.opd st'.s x = Vm.opd st.s x := h1 x (by rcases ho with ho | ho <;> simp [ho, Op.operands])
    refine ⟨a.eval x, W, ?_, h.pure (by rw [← hx]; exact h.opd x) hd⟩
    rcases ho with ho | ho <;> simp [execOp, ho]

theorem rz_bool {ok : Nat → Prop} {h : Nat → Option Blk} {b : Bool} {v : Value} (hr : T.rz fr W ok ν h (.c (.bool b)) v) : v = .bool b := by simpa [T.rz, C.rz] using hr
theorem rz_int {ok : Nat → Prop} {h : Nat → Option Blk} {k : IntKind} {n : Int} {v : Value} (hr : T.rz fr W ok ν h (.c (.int k n)) v) : v = .int k n := by simpa [T.rz, C.rz] using hr
theorem rz_bool' {ok : Nat → Prop} {h : Nat → Option Blk} (b : Bool) : T.rz fr W ok ν h (.c (.bool b)) (.bool b) := by simp [T.rz, C.rz]
theorem rz_int' {ok : Nat → Prop} {h : Nat → Option Blk} (k : IntKind) (n : Int) : T.rz fr W ok ν h (.c (.int k n)) (.int k n) := by simp [T.rz, C.rz]

theorem step_pick {c x y : Operand} {q : Bool} (ho : o.op = .pick c x y) (hc : opd st.s c = .c (.bool q)) (hd : ∀ d, o.dst = some d → d < fr.N) :
    StepO fr o st ⟨if q then opd st.s x else opd st.s y, [], []⟩ :=
  .of_value fun st' a W ν F h1 h2 h => by
    have ec := h1 c (by simp [ho, Op.operands])
    have ex := h1 x (by simp [ho, Op.operands])
    have ey := h1 y (by simp [ho, Op.operands])
    have hv := rz_bool (by rw [← hc, ← ec]; exact h.opd c)
    refine ⟨if q then a.eval x else a.eval y, W, ?_, h.pure ?_ hd⟩
    · simp [execOp, ho, hv, asBool]
    · cases q
      · simpa [← ey] using h.opd y
      · simpa [← ex] using h.opd x

def arith (op : BinOp) (k : IntKind) (a b : Int) : Option C :=
  match op with
  | .add => some (.int k (k.wrap (a + b)))
  | .sub => some (.int k (k.wrap (a - b)))
  | .mul => some (.int k (k.wrap (a * b)))
  | .lss => some (.bool (decide (a < b)))
  | .leq => some (.bool (decide (a ≤ b)))
  | .gtr => some (.bool (decide (b < a)))
  | .geq => some (.bool (decide (b ≤ a)))
  | .eql => some (.bool (a == b))
  | .neq => some (.bool (a != b))
  | .rem => if b = 0 then none else some (.int k (a.tmod b))
  | .quo => if b = 0 then none else some (.int k (k.wrap (a.tdiv b)))
  | _ => none

theorem step_binOp {op : BinOp} {xt yt : Nat} {x y : Operand} {k : IntKind} {n m : Int} {r : C} (ho : o.op = .binOp op xt x y yt) (hx : opd st.s x = .c (.int k n)) (hy : opd st.s y = .c (.int k m))
    (hr : arith op k n m = some r) (hd : ∀ d, o.dst = some d → d < fr.N) : StepO fr o st ⟨.c r, [], []⟩ :=
  .of_value fun st' a W ν F h1 h2 h => by
    have ex := h1 x (by simp [ho, Op.operands])
    have ey := h1 y (by simp [ho, Op.operands])
    have vx := rz_int (by rw [← hx, ← ex]; exact h.opd x)
    have vy := rz_int (by rw [← hy, ← ey]; exact h.opd y)
    have key : ∃ v, (execOp a.eval o).run fr.P W = .ok (.value v) W ∧ C.rz W (okOf fr W st'.h ν) 0 r v [] := by
      by_cases hq : op = .rem ∨ op = .quo
      · by_cases hm : m = 0
        · rcases hq with rfl | rfl <;> simp [arith, hm] at hr
        · rcases hq with rfl | rfl <;> simp only [arith, if_neg hm, Option.some.injEq] at hr <;> subst hr <;>
            refine ⟨_, by simp [execOp, ho, eqGuard, vx, vy, binOp, Op.intDiv, hm]; rfl, by simp [C.rz]⟩
      · have h1 : op ≠ .rem := fun h => hq (.inl h)
        have h2 : op ≠ .quo := fun h => hq (.inr h)
        clear hq
        cases op <;> simp only [arith, Option.some.injEq, reduceCtorEq, ne_eq, not_true_eq_false] at hr h1 h2 <;> subst hr <;>
          refine ⟨_, by simp [execOp, ho, eqGuard, vx, vy, binOp, Op.intArith, Op.intCmp]; rfl, by simp [C.rz]⟩
    obtain ⟨v, hv, hc⟩ := key
    exact ⟨v, W, hv, h.pure (by simpa only [T.rz] using hc) hd⟩
def logic (op : BinOp) (a b : Bool) : Option C :=
  match op with
  | .eql => some (.bool (a == b))
  | .neq => some (.bool (a != b))
  | _ => none
theorem run_equal_bool {P : Program} {t : Nat} {n m : Bool} {W : World} (ht : P.underlying t = some .bool) : (Op.equal t (.bool n) (.bool m)).run P W = .ok (n == m) W := by
  have : ∀ d, (Op.equalIn (d + 1) t (.bool n) (.bool m)).run P W = .ok (n == m) W := by
    intro d
    simp only [Op.equalIn, Sem.run_bind, run_underlying ht, Result.andThen_ok, Sem.run_pure]
  exact this 9999
theorem step_binOpB {op : BinOp} {xt yt : Nat} {x y : Operand} {n m : Bool} {r : C} {i : TyI} (ht : TyOk fr.P xt i) (hk : i.kind = .bool) (ho : o.op = .binOp op xt x y yt) (hx : opd st.s x = .c (.bool n)) (hy : opd st.s y = .c (.bool m))
    (hr : logic op n m = some r) (hd : ∀ d, o.dst = some d → d < fr.N) : StepO fr o st ⟨.c r, [], []⟩ :=
  .of_value fun st' a W ν F h1 h2 h => by
    have ex := h1 x (by simp [ho, Op.operands])
    have ey := h1 y (by simp [ho, Op.operands])
    have vx := rz_bool (by rw [← hx, ← ex]; exact h.opd x)
    have vy := rz_bool (by rw [← hy, ← ey]; exact h.opd y)
    have key : ∃ v, (execOp a.eval o).run fr.P W = .ok (.value v) W ∧ C.rz W (okOf fr W st'.h ν) 0 r v [] := by
      cases op <;> simp only [logic, Option.some.injEq, reduceCtorEq] at hr <;> subst hr <;>
        refine ⟨_, by simp [execOp, ho, eqGuard, vx, vy, binOp, run_equal_bool (ht.bool hk)]; rfl, by simp [C.rz]; try (cases n <;> cases m <;> rfl)⟩
    obtain ⟨v, hv, hc⟩ := key
    exact ⟨v, W, hv, h.pure (by simpa only [T.rz] using hc) hd⟩
theorem run_equal_nil {P : Program} {t e : Nat} {ad : Option Addr} {n c : Nat} {W : World} (ht : P.underlying t = some (.slice e)) : (Op.equal t (.slice ad n c) (.slice none 0 0)).run P W = .ok ad.isNone W := by
  have : ∀ d, (Op.equalIn (d + 1) t (.slice ad n c) (.slice none 0 0)).run P W = .ok ad.isNone W := by
    intro d
    cases ad <;> simp only [Op.equalIn, Sem.run_bind, run_underlying ht, Result.andThen_ok, Sem.run_pure, Option.isNone_none, Option.isNone_some]
  exact this 9999
def isNilB (op : BinOp) (q : Bool) : Option C :=
  match op with
  | .eql => some (.bool q)
  | .neq => some (.bool (!q))
  | _ => none
theorem step_eqNil {op : BinOp} {xt yt el : Nat} {x y : Operand} {q : Bool} {r : C} {i : TyI} (ht : TyOk fr.P xt i) (hk : i.kind = .slice el) (ho : o.op = .binOp op xt x y yt)
    (hx : (opd st.s x = .nilS ∧ q = true) ∨ ∃ sz es, opd st.s x = .nn sz es ∧ q = false) (hy : opd st.s y = .nilS)
    (hr : isNilB op q = some r) (hd : ∀ d, o.dst = some d → d < fr.N) : StepO fr o st ⟨.c r, [], []⟩ :=
  .of_value fun st' a W ν F h1 h2 h => by
    have ex := h1 x (by simp [ho, Op.operands])
    have ey := h1 y (by simp [ho, Op.operands])
    have vy := h.opd y
    rw [ey, hy] at vy
    simp only [T.rz] at vy
    have vx : ∃ ad n c, a.eval x = .slice ad n c ∧ ad.isNone = q := by
      have h0 := h.opd x
      rw [ex] at h0
      rcases hx with ⟨hx, rfl⟩ | ⟨sz, es, hx, rfl⟩
      · rw [hx] at h0; simp only [T.rz] at h0; exact ⟨none, 0, 0, h0, rfl⟩
      · rw [hx] at h0; simp only [T.rz] at h0; obtain ⟨_, ad, n, c, h0⟩ := h0; exact ⟨some ad, n, c, h0, rfl⟩
    obtain ⟨ad, n, c, vx, rfl⟩ := vx
    have key : ∃ v, (execOp a.eval o).run fr.P W = .ok (.value v) W ∧ C.rz W (okOf fr W st'.h ν) 0 r v [] := by
      cases op <;> simp only [isNilB, Option.some.injEq, reduceCtorEq] at hr <;> subst hr <;>
        refine ⟨_, by simp [execOp, ho, eqGuard, vx, vy, binOp, run_equal_nil (ht.slice hk)]; rfl, by simp [C.rz]⟩
    obtain ⟨v, hv, hc⟩ := key
    exact ⟨v, W, hv, h.pure (by simpa only [T.rz] using hc) hd⟩
end
end Go.Vm

namespace Go.Vm
open Go Go.RowKit

section
variable {fr : Fr} {st st' : St} {a : Act} {W : World} {ν : Nat → Value} {F : Nat → List Nat} {o : Oper} {e : Eff} {L : Nat → Option TyI}
  {ok : Nat → Prop} {h : Nat → Option Blk}

theorem step_not {t : Nat} {x : Operand} {q : Bool} (ho : o.op = .unOp .not t x) (hx : opd st.s x = .c (.bool q)) (hd : ∀ d, o.dst = some d → d < fr.N) : StepO fr o st ⟨.c (.bool (!q)), [], []⟩ :=
  .of_value fun st' a W ν F h1 h2 h => by
    have ex := h1 x (by simp [ho, Op.operands])
    have vx := rz_bool (by rw [← hx, ← ex]; exact h.opd x)
    exact ⟨.bool !q, W, by simp [execOp, ho, vx, Op.unary], h.pure (rz_bool' _) hd⟩
theorem step_neg {t : Nat} {x : Operand} {k : IntKind} {n : Int} (ho : o.op = .unOp .neg t x) (hx : opd st.s x = .c (.int k n)) (hd : ∀ d, o.dst = some d → d < fr.N) : StepO fr o st ⟨.c (.int k (k.wrap (0 - n))), [], []⟩ :=
  .of_value fun st' a W ν F h1 h2 h => by
    have ex := h1 x (by simp [ho, Op.operands])
    have vx := rz_int (by rw [← hx, ← ex]; exact h.opd x)
    exact ⟨.int k (k.wrap (0 - n)), W, by simp [execOp, ho, vx, Op.unary, Op.intArith], h.pure (rz_int' _ _) hd⟩
theorem step_convert {s t : Nat} {x : Operand} {k k' : IntKind} {n : Int} {i j : TyI} (ho : o.op = .convert s t x) (hx : opd st.s x = .c (.int k n)) (hs : TyOk fr.P s i) (ht : TyOk fr.P t j) (hk : j.kind = .int k')
    (hd : ∀ d, o.dst = some d → d < fr.N) : StepO fr o st ⟨.c (.int k' (k'.wrap n)), [], []⟩ :=
  .of_value fun st' a W ν F h1 h2 h => by
    have ex := h1 x (by simp [ho, Op.operands])
    have vx := rz_int (by rw [← hx, ← ex]; exact h.opd x)
    obtain ⟨d1, hd1, _⟩ := hs.und'
    obtain ⟨d2, hd2, hk2⟩ := ht.und'
    rw [hk] at hk2
    have : d2 = .int k' := by cases d2 <;> simp_all [tkind]
    subst this
    exact ⟨.int k' (k'.wrap n), W, by simp [execOp, ho, vx, convert, run_underlying hd1, run_underlying hd2, Conv.intToInt], h.pure (rz_int' _ _) hd⟩

def T.isPtr : T → Bool
  | .ptr .. | .ep .. | .pv _ => true
  | _ => false
theorem rz_isPtr {t : T} {v : Value} (ht : t.isPtr = true) (hr : T.rz fr W ok ν h t v) : ∃ b o, v = .pointer (some ⟨b, o, none⟩) := by
  cases t <;> simp only [T.isPtr, Bool.false_eq_true] at ht <;> simp only [T.rz] at hr
  · obtain ⟨_, b, _, rfl⟩ := hr; exact ⟨_, _, rfl⟩
  · obtain ⟨_, b, _, _, _, rfl⟩ := hr; exact ⟨_, _, rfl⟩
  · obtain ⟨b, o, us, rfl, _⟩ := hr; exact ⟨_, _, rfl⟩
theorem step_nilCheck {x : Operand} (ho : o.op = .nilCheck x) (hx : (opd st.s x).isPtr = true) (hd : ∀ d, o.dst = some d → d < fr.N) : StepO fr o st ⟨opd st.s x, [], []⟩ :=
  .of_value fun st' a W ν F h1 h2 h => by
    have ex := h1 x (by simp [ho, Op.operands])
    have hr := h.opd x
    rw [ex] at hr
    obtain ⟨b, p, hv⟩ := rz_isPtr hx hr
    exact ⟨a.eval x, W, by simp [execOp, ho, hv], h.pure hr hd⟩

theorem Ts.rz_drop : ∀ (n : Nat) (ts : List T) (us : List Value), Ts.rz fr W ok ν h ts us → Ts.rz fr W ok ν h (ts.drop n) (us.drop n)
  | 0, ts, us, hr => hr
  | n + 1, [], us, hr => by simp only [Ts.rz] at hr; subst hr; simp [Ts.rz]
  | n + 1, t :: ts, us, hr => by
    simp only [Ts.rz] at hr
    obtain ⟨u, us', rfl, h1, h2⟩ := hr
    exact Ts.rz_drop n ts us' h2
theorem Ts.rz_take : ∀ (n : Nat) (ts : List T) (us : List Value), Ts.rz fr W ok ν h ts us → Ts.rz fr W ok ν h (ts.take n) (us.take n)
  | 0, ts, us, hr => by simp [Ts.rz]
  | n + 1, [], us, hr => by simp only [Ts.rz] at hr; subst hr; simp [Ts.rz]
  | n + 1, t :: ts, us, hr => by
    simp only [Ts.rz] at hr
    obtain ⟨u, us', rfl, h1, h2⟩ := hr
    simp only [List.take_succ_cons, Ts.rz]
    exact ⟨u, _, rfl, h1, Ts.rz_take n ts us' h2⟩
theorem Ts.rz_append : ∀ (ts ts' : List T) (us us' : List Value), Ts.rz fr W ok ν h ts us → Ts.rz fr W ok ν h ts' us' → Ts.rz fr W ok ν h (ts ++ ts') (us ++ us')
  | [], ts', us, us', hr, hr' => by simp only [Ts.rz] at hr; subst hr; exact hr'
  | t :: ts, ts', us, us', hr, hr' => by
    simp only [Ts.rz] at hr
    obtain ⟨u, us1, rfl, h1, h2⟩ := hr
    simp only [List.cons_append, Ts.rz]
    exact ⟨u, _, rfl, h1, Ts.rz_append ts ts' us1 us' h2 hr'⟩
theorem Ts.rz_length : ∀ (ts : List T) (us : List Value), Ts.rz fr W ok ν h ts us → us.length = ts.length
  | [], us, hr => by simp only [Ts.rz] at hr; simp [hr]
  | t :: ts, us, hr => by
    simp only [Ts.rz] at hr
    obtain ⟨u, us', rfl, h1, h2⟩ := hr
    simp [Ts.rz_length ts us' h2]
theorem Ts.of_Cs : ∀ (cs : List C) (us : List Value), Cs.rz W ok 0 cs us [] → Ts.rz fr W ok ν h (cs.map .c) us
  | [], us, hr => by simp only [Cs.rz] at hr; simp [hr.1, Ts.rz]
  | c :: cs, us, hr => by
    simp only [Cs.rz] at hr
    obtain ⟨u, us', f1, f2, rfl, hf, h1, h2⟩ := hr
    obtain ⟨rfl, rfl⟩ : f1 = [] ∧ f2 = [] := by simpa using hf.symm
    simp only [List.map_cons, Ts.rz]
    exact ⟨u, us', rfl, by simpa only [T.rz] using h1, Ts.of_Cs cs us' h2⟩
theorem Cs.rz_drop : ∀ (n : Nat) (ts : List C) (us : List Value), Cs.rz W ok 0 ts us [] → Cs.rz W ok 0 (ts.drop n) (us.drop n) []
  | 0, ts, us, hr => hr
  | n + 1, [], us, hr => by simp only [Cs.rz] at hr; simp [Cs.rz, hr.1]
  | n + 1, t :: ts, us, hr => by
    simp only [Cs.rz] at hr
    obtain ⟨u, us', f1, f2, rfl, hf, h1, h2⟩ := hr
    obtain ⟨rfl, rfl⟩ : f1 = [] ∧ f2 = [] := by simpa using hf.symm
    exact Cs.rz_drop n ts us' h2
theorem Cs.rz_take : ∀ (n : Nat) (ts : List C) (us : List Value), Cs.rz W ok 0 ts us [] → Cs.rz W ok 0 (ts.take n) (us.take n) []
  | 0, ts, us, hr => by simp [Cs.rz]
  | n + 1, [], us, hr => by simp only [Cs.rz] at hr; simp [Cs.rz, hr.1]
  | n + 1, t :: ts, us, hr => by
    simp only [Cs.rz] at hr
    obtain ⟨u, us', f1, f2, rfl, hf, h1, h2⟩ := hr
    obtain ⟨rfl, rfl⟩ : f1 = [] ∧ f2 = [] := by simpa using hf.symm
    simp only [List.take_succ_cons, Cs.rz]
    exact ⟨u, _, [], [], rfl, rfl, h1, Cs.rz_take n ts us' h2⟩

/-- One value out of cells, as the type has it. -/
def packT (i : TyI) (ts : List T) : T := if i.kind.agg then .agg ts else ts.headD .un
theorem packT_rz {i : TyI} {ts : List T} {us : List Value} (h1 : ∀ u ∈ us, u.oneCell' = true) (hr : Ts.rz fr W ok ν h ts us) : T.rz fr W ok ν h (packT i ts) (pack i us) := by
  unfold packT pack
  split
  · simp only [T.rz]; exact ⟨us, rfl, h1, hr⟩
  · cases ts with
    | nil => simp [T.rz]
    | cons t ts => simp only [Ts.rz] at hr; obtain ⟨u, us', rfl, h1, h2⟩ := hr; exact h1

/-- The address of a field. -/
def fldT (off : Nat) : T → T
  | .ptr κ p => .ptr κ (p + off)
  | .ep κ sz i p => .ep κ sz i (p + off)
  | .pv xs => .pv (xs.drop off)
  | t => t
theorem fldT_rz {t : T} {b p off : Nat} (ht : t.isPtr = true) (hr : T.rz fr W ok ν h t (.pointer (some ⟨b, p, none⟩))) : T.rz fr W ok ν h (fldT off t) (.pointer (some ⟨b, p + off, none⟩)) := by
  cases t <;> simp only [T.isPtr, Bool.false_eq_true] at ht <;> simp only [T.rz, fldT] at hr ⊢
  · obtain ⟨h0, b', hv, he⟩ := hr
    simp only [Value.pointer.injEq, Option.some.injEq, Addr.mk.injEq] at he
    exact ⟨h0, b', hv, by simp [he.1, he.2.1]⟩
  · obtain ⟨h0, b', n, c, hv, he⟩ := hr
    simp only [Value.pointer.injEq, Option.some.injEq, Addr.mk.injEq] at he
    exact ⟨h0, b', n, c, hv, by simp [he.1, he.2.1]; omega⟩
  · obtain ⟨b', o', us, he, hok, hc, hx⟩ := hr
    simp only [Value.pointer.injEq, Option.some.injEq, Addr.mk.injEq] at he
    obtain ⟨rfl, rfl, _⟩ := he
    exact ⟨b, p + off, us.drop off, rfl, hok, Cs.rz_drop off _ _ hc, fun i u hu => by
      rw [List.getElem?_drop] at hu
      rw [Nat.add_assoc]; exact hx _ u hu⟩
theorem step_fieldAddr {s f off ft : Nat} {x : Operand} {i j : TyI} {fs : List (Nat × Nat)} (ho : o.op = .fieldAddr s x f) (hx : (opd st.s x).isPtr = true) (hs : TyOk fr.P s i) (hk : i.kind = .struct fs)
    (hf : fs[f]? = some (off, ft)) (hj : TyOk fr.P ft j) (h0 : 0 < j.size) (hd : ∀ d, o.dst = some d → d < fr.N) : StepO fr o st ⟨fldT off (opd st.s x), [], []⟩ :=
  .of_value fun st' a W ν F h1 h2 h => by
    have ex := h1 x (by simp [ho, Op.operands])
    have hr := h.opd x
    rw [ex] at hr
    obtain ⟨b, p, hv⟩ := rz_isPtr hx hr
    rw [hv] at hr
    obtain ⟨fa, hu, hfa⟩ := hs.struct hk
    have hf' : ∃ fl, fa[f]? = some fl ∧ fl.offset = off ∧ fl.type = ft := by
      rw [← hfa, List.getElem?_map] at hf
      cases hq : fa.toList[f]? with
      | none => simp [hq] at hf
      | some fl => simp only [hq, Option.map_some, Option.some.injEq, Prod.mk.injEq] at hf; exact ⟨fl, by simpa using hq, hf⟩
    obtain ⟨fl, hfl, rfl, rfl⟩ := hf'
    refine ⟨_, W, ?_, h.pure (fldT_rz hx hr) hd⟩
    have hne : ¬ j.size = 0 := by omega
    simp [execOp, ho, hv, Instr.fieldAt, run_underlying hu, hfl, Instr.sureAddr, fieldPlace, hj.size, hne, add_plain]

/-- Which element of a row that is read. -/
theorem step_indexAddr {t el : Nat} {x y : Operand} {sz : Nat} {es : List (List C)} {k : IntKind} {n : Int} {e : List C} {i j : TyI} (ho : o.op = .indexAddr t x y) (hx : opd st.s x = .c (.sl none sz es)) (hy : opd st.s y = .c (.int k n))
    (ht : TyOk fr.P t i) (hk : i.kind = .slice el) (hj : TyOk fr.P el j) (hsz : j.size = sz) (h0 : 0 ≤ n) (he : es[n.toNat]? = some e) (hd : ∀ d, o.dst = some d → d < fr.N) : StepO fr o st ⟨.pv e, [], []⟩ :=
  .of_value fun st' a W ν F h1 h2 h => by
    have ex := h1 x (by simp [ho, Op.operands])
    have ey := h1 y (by simp [ho, Op.operands])
    have vx : T.rz .. := h.opd x
    rw [ex, hx] at vx
    have vy := rz_int (by rw [← hy, ← ey]; exact h.opd y)
    simp only [T.rz, C.rz] at vx
    obtain ⟨_, A, c, xs, hv, hc, hm, hs, hcell, hes⟩ := vx
    have hne : es ≠ [] := by rintro rfl; simp at he
    have hlt : n.toNat < es.length := (List.getElem?_eq_some_iff.1 he).1
    obtain ⟨b, p, rfl, hb, hx'⟩ := hcell hne
    obtain ⟨ys, gs, hy', hl, hgs, hi⟩ := Es.rz_get es xs [] n.toNat e hes he
    have hgs' : gs = [] := by cases gs with | nil => rfl | cons g _ => exact absurd (hgs g (by simp)) (by simp)
    subst hgs'
    subst hsz
    have hu := ht.slice hk
    refine ⟨.pointer (some ⟨b, p + n.toNat * j.size, none⟩), W, ?_, h.pure ?_ hd⟩
    · have : 0 ≤ n ∧ n < (es.length : Int) := by omega
      simp [execOp, ho, hv, vy, Instr.indexAt, run_underlying hu, asIntOf, this, hj.size, add_plain]
    · simp only [T.rz]
      exact ⟨b, p + n.toNat * j.size, ys, rfl, hb, hy', fun q u hu => by rw [Nat.add_assoc]; exact hx' _ u (hi q u hu)⟩

/-- The length of a row. -/
def lenT (st : St) : T → Option Nat
  | .c (.sl none _ es) => some es.length
  | .nilS => some 0
  | .ref κ => match st.h κ with
    | some (.arr _ _ _ es) => some es.length
    | some (.fro _ es) => some es.length
    | some (.opn _ _ pre _ post) => some (pre.length + 1 + post.length)
    | _ => none
  | _ => none
def keysT : T → List Nat
  | .ref κ => [κ]
  | _ => []
theorem lenT_rz {t : T} {n : Nat} {v : Value} {F : Nat → List Nat} (hr : Rel fr st a W ν F) (hl : lenT st t = some n) (hv : T.rz fr W (okOf fr W st.h ν) ν st.h t v) : ∃ A c, v = .slice A n c := by
  cases t with
  | c x =>
    cases x with
    | sl tag sz es =>
      cases tag with
      | none =>
        simp only [lenT, Option.some.injEq] at hl
        simp only [T.rz, C.rz] at hv
        obtain ⟨_, A, c, xs, hv, _⟩ := hv
        exact ⟨A, c, by rw [hv, hl]⟩
      | some _ => simp [lenT] at hl
    | _ => simp [lenT] at hl
  | nilS =>
    simp only [lenT, Option.some.injEq] at hl
    simp only [T.rz] at hv
    exact ⟨none, 0, by rw [hv, ← hl]⟩
  | ref κ =>
    simp only [T.rz] at hv
    simp only [lenT] at hl
    cases hb : st.h κ with
    | none => simp [hb] at hl
    | some blk =>
      have hblk := hr.heap κ blk hb
      cases blk with
      | arr d ty sz es =>
        simp only [hb, Option.some.injEq] at hl
        rw [hv.1]
        cases d <;> simp only [Blk.rz] at hblk <;> obtain ⟨xs, ho, _⟩ := hblk <;> obtain ⟨A, c, he, _⟩ := ownsRow_maxLen ho <;> exact ⟨A, c, by rw [he, hl]⟩
      | fro sz es =>
        simp only [hb, Option.some.injEq] at hl
        rw [hv.1]
        simp only [Blk.rz, C.rz] at hblk
        obtain ⟨_, _, A, c, xs, he, _⟩ := hblk
        exact ⟨A, c, by rw [he, hl]⟩
      | opn ty sz pre mid post =>
        simp only [hb, Option.some.injEq] at hl
        rw [hv.1]
        simp only [Blk.rz] at hblk
        obtain ⟨xs, ms, ys, f1, f2, ho, _⟩ := hblk
        obtain ⟨A, c, he, _⟩ := ownsRow_maxLen ho
        exact ⟨A, c, by rw [he, hl]⟩
      | _ => simp [hb] at hl
  | _ => simp [lenT] at hl
theorem lenT_agree {t : T} (hk : ∀ κ, κ ∈ keysT t → st'.h κ = st.h κ) : lenT st' t = lenT st t := by
  cases t with
  | ref κ => have := hk κ (by simp [keysT]); simp only [lenT, this]
  | c x => cases x with
    | sl tag sz es => cases tag <;> rfl
    | _ => rfl
  | _ => rfl
theorem step_len {t el n : Nat} {x : Operand} {i : TyI} {ats : Array Nat} (ho : o.op = .call { callee := .builtin .len, args := #[x], argTypes := #[t] }) (hx : lenT st (opd st.s x) = some n) (ht : TyOk fr.P t i) (hk : i.kind = .slice el)
    (hd : ∀ d, o.dst = some d → d < fr.N) : StepO fr o st ⟨.c (.int .i64 n), keysT (opd st.s x), []⟩ :=
  .of_value fun st' a W ν F h1 h2 h => by
    have ex := h1 x (by simp [ho, Op.operands, Call.operands])
    have hr := h.opd x
    rw [ex] at hr
    have hl : lenT st' (opd st.s x) = some n := by rw [lenT_agree fun κ hκ => h2 κ (.inl hκ)]; exact hx
    obtain ⟨A, c, hv⟩ := lenT_rz h hl hr
    have hu := ht.slice hk
    refine ⟨.int .i64 n, W, ?_, h.pure (rz_int' _ _) hd⟩
    simp [execOp, ho, resolve, invoke, builtin, hv, Builtin.len_, run_underlying hu, goInt]
theorem step_min {t : Nat} {x y : Operand} {k : IntKind} {n m : Int} {ats : Array Nat} (ho : o.op = .call { callee := .builtin .min, args := #[x, y], argTypes := ats }) (hx : opd st.s x = .c (.int k n)) (hy : opd st.s y = .c (.int k m))
    (hd : ∀ d, o.dst = some d → d < fr.N) : StepO fr o st ⟨.c (.int k (min n m)), [], []⟩ :=
  .of_value fun st' a W ν F h1 h2 h => by
    have ex := h1 x (by simp [ho, Op.operands, Call.operands])
    have ey := h1 y (by simp [ho, Op.operands, Call.operands])
    have vx := rz_int (by rw [← hx, ← ex]; exact h.opd x)
    have vy := rz_int (by rw [← hy, ← ey]; exact h.opd y)
    have : (if m < n then m else n) = min n m := by omega
    refine ⟨.int k (min n m), W, ?_, h.pure (rz_int' _ _) hd⟩
    simp [execOp, ho, resolve, invoke, builtin, vx, vy, Builtin.min_, Builtin.min2, this]
theorem step_max3 {x y z : Operand} {k : IntKind} {n m p : Int} {ats : Array Nat} (ho : o.op = .call { callee := .builtin .max, args := #[x, y, z], argTypes := ats }) (hx : opd st.s x = .c (.int k n)) (hy : opd st.s y = .c (.int k m))
    (hz : opd st.s z = .c (.int k p)) (hd : ∀ d, o.dst = some d → d < fr.N) : StepO fr o st ⟨.c (.int k (max (max n m) p)), [], []⟩ :=
  .of_value fun st' a W ν F h1 h2 h => by
    have ex := h1 x (by simp [ho, Op.operands, Call.operands])
    have ey := h1 y (by simp [ho, Op.operands, Call.operands])
    have ez := h1 z (by simp [ho, Op.operands, Call.operands])
    have vx := rz_int (by rw [← hx, ← ex]; exact h.opd x)
    have vy := rz_int (by rw [← hy, ← ey]; exact h.opd y)
    have vz := rz_int (by rw [← hz, ← ez]; exact h.opd z)
    have e1 : (if n < m then m else n) = max n m := by omega
    have e2 : (if max n m < p then p else max n m) = max (max n m) p := by omega
    refine ⟨.int k (max (max n m) p), W, ?_, h.pure (rz_int' _ _) hd⟩
    simp [execOp, ho, resolve, invoke, builtin, vx, vy, vz, Builtin.max_, Builtin.max2, e1, e2]
theorem step_max {t : Nat} {x y : Operand} {k : IntKind} {n m : Int} {ats : Array Nat} (ho : o.op = .call { callee := .builtin .max, args := #[x, y], argTypes := ats }) (hx : opd st.s x = .c (.int k n)) (hy : opd st.s y = .c (.int k m))
    (hd : ∀ d, o.dst = some d → d < fr.N) : StepO fr o st ⟨.c (.int k (max n m)), [], []⟩ :=
  .of_value fun st' a W ν F h1 h2 h => by
    have ex := h1 x (by simp [ho, Op.operands, Call.operands])
    have ey := h1 y (by simp [ho, Op.operands, Call.operands])
    have vx := rz_int (by rw [← hx, ← ex]; exact h.opd x)
    have vy := rz_int (by rw [← hy, ← ey]; exact h.opd y)
    have : (if n < m then m else n) = max n m := by omega
    refine ⟨.int k (max n m), W, ?_, h.pure (rz_int' _ _) hd⟩
    simp [execOp, ho, resolve, invoke, builtin, vx, vy, Builtin.max_, Builtin.max2, this]

theorem Rel.F_ok {F : Nat → List Nat} (hr : Rel fr st a W ν F) {κ b : Nat} (hb : b ∈ F κ) : okOf fr W st.h ν b :=
  ⟨.inr (hr.F_lt hb).1, (hr.F_lt hb).2, fun κ' ht => hr.d2 κ κ' b hb ht⟩

/-- The cells that a pointer points at, as they may be read. -/
def atT (st : St) : T → Option (List T)
  | .ptr κ off => match st.h κ with
    | some (.box xs) => some (xs.drop off)
    | _ => none
  | .ep κ sz i off => match st.h κ with
    | some (.arr _ _ sz' es) => if sz = sz' then (es[i]?).map fun e => ((Cs.strip e).drop off).map .c else none
    | some (.opn _ sz' pre mid _) => if sz = sz' ∧ i = pre.length then some (mid.drop off) else none
    | _ => none
  | .pv xs => some (xs.map .c)
  | _ => none
def ptrKeys : T → List Nat
  | .ptr κ _ => [κ]
  | .ep κ _ _ _ => [κ]
  | _ => []
theorem atT_agree {t : T} (hk : ∀ κ, κ ∈ ptrKeys t → st'.h κ = st.h κ) : atT st' t = atT st t := by
  cases t with
  | ptr κ off => have := hk κ (by simp [ptrKeys]); simp only [atT, this]
  | ep κ sz i off => have := hk κ (by simp [ptrKeys]); simp only [atT, this]
  | _ => rfl
theorem atT_rz {t : T} {ts : List T} {v : Value} {F : Nat → List Nat} (hr : Rel fr st a W ν F) (hl : atT st t = some ts) (hv : T.rz fr W (okOf fr W st.h ν) ν st.h t v) :
    ∃ b p us, v = .pointer (some ⟨b, p, none⟩) ∧ Ts.rz fr W (okOf fr W st.h ν) ν st.h ts us ∧ (∀ u ∈ us, u.oneCell' = true) ∧ ∀ j u, us[j]? = some u → W.cell? ⟨b, p + j, none⟩ = some u := by
  cases t with
  | ptr κ off =>
    simp only [T.rz] at hv
    obtain ⟨_, b, hb, rfl⟩ := hv
    cases hk : st.h κ with
    | none => simp [atT, hk] at hl
    | some blk =>
      cases blk with
      | box xs =>
        simp only [atT, hk, Option.some.injEq] at hl
        subst hl
        have hblk := hr.heap κ _ hk
        simp only [Blk.rz] at hblk
        obtain ⟨_, b', us, ty, hb', hB, hh, hts, h1c⟩ := hblk
        rw [hb] at hb'
        simp only [Value.pointer.injEq, Option.some.injEq, Addr.mk.injEq] at hb'
        obtain ⟨rfl, _⟩ := hb'
        refine ⟨b, off, us.drop off, rfl, Ts.rz_drop off xs us hts, fun u hu => h1c u (List.mem_of_mem_drop hu), fun j u hu => ?_⟩
        rw [cell_of_row W b _ _ _ _ hh]
        rw [List.getElem?_drop] at hu
        simpa using hu
      | _ => simp [atT, hk] at hl
  | ep κ sz i off =>
    simp only [T.rz] at hv
    obtain ⟨_, b, n, c, hb, rfl⟩ := hv
    cases hk : st.h κ with
    | none => simp [atT, hk] at hl
    | some blk =>
      cases blk with
      | arr d ty sz' es =>
        simp only [atT, hk] at hl
        split at hl
        · rename_i hs; subst hs
          rw [Option.map_eq_some_iff] at hl
          obtain ⟨e, he, rfl⟩ := hl
          have hblk := hr.heap κ _ hk
          have key : ∃ xs fs ok', W.ownsRow fr.B ty sz (ν κ) es.length xs ∧ Es.rz W ok' fr.B sz es xs fs ∧ (∀ b, ok' b → okOf fr W st.h ν b) ∧ (∀ b ∈ fs, okOf fr W st.h ν b) := by
            cases d <;> simp only [Blk.rz] at hblk
            · obtain ⟨xs, ho, he, _⟩ := hblk; exact ⟨xs, [], _, ho, he, fun _ h => h, by simp⟩
            · obtain ⟨xs, ho, he⟩ := hblk; exact ⟨xs, _, _, ho, he, fun _ h => h.elim, fun b hb => hr.F_ok hb⟩
          obtain ⟨xs, fs, ok', ho, hes, hok', hfs⟩ := key
          obtain ⟨ys, gs, hy, hl, hgs, hi⟩ := Es.rz_get es xs fs i e hes he
          have hy2 : Cs.rz W (okOf fr W st.h ν) 0 (Cs.strip e) ys [] :=
            Cs.rz_strip e ys gs (fun b hb => hfs b (hgs b hb)) (Cs.rz_move (W' := W) (fun b hb => ⟨hok' b hb, rfl⟩) (Nat.le_refl _) e ys gs (fun _ _ => rfl) hy)
          refine ⟨b, i * sz + off, ys.drop off, rfl, ?_, fun u hu => Cs.rz_one _ _ _ hy u (List.mem_of_mem_drop hu), fun j u hu => ?_⟩
          · have := Ts.of_Cs (fr := fr) (ν := ν) (h := st.h) _ _ (Cs.rz_drop off _ _ hy2)
            exact this
          · have := ho.cells (g := b) (by rw [hb]; rfl) (i * sz + (off + j)) u (hi _ u (by rw [List.getElem?_drop] at hu; exact hu))
            rw [add_plain] at this
            rw [show i * sz + off + j = 0 + (i * sz + (off + j)) by omega]; exact this
        · cases hl
      | opn ty sz' pre mid post =>
        simp only [atT, hk] at hl
        split at hl
        · rename_i hs; obtain ⟨rfl, rfl⟩ := hs
          simp only [Option.some.injEq] at hl
          subst hl
          have hblk := hr.heap κ _ hk
          simp only [Blk.rz] at hblk
          obtain ⟨xs, ms, ys, f1, f2, ho, e1, e2, e3, e4, e5, _⟩ := hblk
          have hx := Es.rz_length _ _ _ e1
          have hm := Ts.rz_length _ _ e2
          refine ⟨b, pre.length * sz + off, ms.drop off, rfl, Ts.rz_drop off _ _ e2, fun u hu => e3 u (List.mem_of_mem_drop hu), fun j u hu => ?_⟩
          rw [List.getElem?_drop] at hu
          have hlt := (List.getElem?_eq_some_iff.1 hu).1
          have := ho.cells (g := b) (by rw [hb]; rfl) (pre.length * sz + (off + j)) u (by
            rw [List.getElem?_append_right (by omega), hx, show pre.length * sz + (off + j) - pre.length * sz = off + j by omega, List.getElem?_append_left hlt]; exact hu)
          rw [add_plain] at this
          rw [show pre.length * sz + off + j = 0 + (pre.length * sz + (off + j)) by omega]; exact this
        · cases hl
      | _ => simp [atT, hk] at hl
  | pv xs =>
    simp only [T.rz] at hv
    obtain ⟨b, p, us, rfl, hb, hc, hx⟩ := hv
    simp only [atT, Option.some.injEq] at hl
    subst hl
    exact ⟨b, p, us, rfl, Ts.of_Cs _ _ hc, Cs.rz_one _ _ _ hc, hx⟩
  | _ => simp [atT] at hl
theorem step_load {t : Nat} {x : Operand} {i : TyI} {ts : List T} (ho : o.op = .load t x) (hx : atT st (opd st.s x) = some ts) (ht : TyOk fr.P t i) (hk : i.kind ≠ .array) (hs : i.size ≤ ts.length) (h1s : i.kind.agg = false → i.size = 1)
    (hd : ∀ d, o.dst = some d → d < fr.N) : StepO fr o st ⟨packT i (ts.take i.size), ptrKeys (opd st.s x), []⟩ :=
  .of_value fun st' a W ν F h1 h2 h => by
    have ex := h1 x (by simp [ho, Op.operands])
    have hr := h.opd x
    rw [ex] at hr
    have hl : atT st' (opd st.s x) = some ts := by rw [atT_agree fun κ hκ => h2 κ (.inl hκ)]; exact hx
    obtain ⟨b, p, us, hv, hts, h1c, hc⟩ := atT_rz h hl hr
    have hlen := Ts.rz_length _ _ hts
    have hrun := run_loadAt_cells ht hk b p (us.take i.size) (W := W) (by rw [List.length_take]; omega) h1s (fun j u hu => hc j u (by
      rw [List.getElem?_take] at hu; split at hu <;> simp_all))
    refine ⟨_, W, ?_, h.pure (packT_rz (fun u hu => h1c u (List.mem_of_mem_take hu)) (Ts.rz_take i.size _ _ hts)) hd⟩
    simp [execOp, ho, hv, hrun]
end
end Go.Vm

namespace Go.Vm
open Go Go.RowKit

section
variable {fr : Fr} {st st' : St} {a : Act} {W W' : World} {ν ν' : Nat → Value} {F F' : Nat → List Nat} {o : Oper} {e : Eff} {L : Nat → Option TyI}
  {ok : Nat → Prop} {h : Nat → Option Blk}

/-- A value's cells. -/
def unT : T → Option (List T)
  | .agg xs => some xs
  | .c x => some [.c x]
  | .nilS => some [.nilS]
  | .ref κ => some [.ref κ]
  | .ptr κ p => some [.ptr κ p]
  | .ep κ z i p => some [.ep κ z i p]
  | .pv xs => some [.pv xs]
  | .clo f xs => some [.clo f xs]
  | .fn s => some [.fn s]
  | .ca x => some [.ca x]
  | _ => none
theorem Rel.one (hr : Rel fr st a W ν F) {κ : Nat} (hk : (st.h κ).isSome = true) : (ν κ).oneCell' = true := by
  cases hb : st.h κ with
  | none => simp [hb] at hk
  | some blk =>
    have hblk := hr.heap κ blk hb
    cases blk with
    | arr d ty sz es =>
      cases d <;> simp only [Blk.rz] at hblk <;> obtain ⟨xs, ho, _⟩ := hblk <;> obtain ⟨A, c, he, _⟩ := ownsRow_maxLen ho <;> rw [he] <;> rfl
    | box xs => simp only [Blk.rz] at hblk; obtain ⟨_, b, us, ty, he, _⟩ := hblk; rw [he]; first | done | rfl
    | fro sz es => simp only [Blk.rz] at hblk; exact C.rz_one _ _ _ hblk.2
    | dead => simp only [Blk.rz] at hblk; exact hblk.2
    | opn ty sz pre mid post => simp only [Blk.rz] at hblk; obtain ⟨xs, ms, ys, f1, f2, ho, _⟩ := hblk; obtain ⟨A, c, he, _⟩ := ownsRow_maxLen ho; rw [he]; rfl
theorem unT_rz (hr : Rel fr st a W ν F) {t : T} {ts : List T} {v : Value} (hu : unT t = some ts) (hv : T.rz fr W (okOf fr W st.h ν) ν st.h t v) :
    Ts.rz fr W (okOf fr W st.h ν) ν st.h ts v.cells.toList ∧ ∀ u ∈ v.cells.toList, u.oneCell' = true := by
  have lone : ∀ t : T, T.rz fr W (okOf fr W st.h ν) ν st.h t v → v.oneCell' = true → Ts.rz fr W (okOf fr W st.h ν) ν st.h [t] v.cells.toList ∧ ∀ u ∈ v.cells.toList, u.oneCell' = true := by
    intro t ht h1
    have hc : v.cells.toList = [v] := by cases v <;> simp_all [Value.cells, Value.oneCell']
    rw [hc]
    exact ⟨by simp only [Ts.rz]; exact ⟨v, [], rfl, ht, rfl⟩, by simpa using h1⟩
  cases t <;> simp only [unT, Option.some.injEq, reduceCtorEq] at hu <;> try subst hu
  · exact lone _ hv (by simp only [T.rz] at hv; exact C.rz_one _ _ _ hv)
  · exact lone _ hv (by simp only [T.rz] at hv; subst hv; rfl)
  · exact lone _ hv (by simp only [T.rz] at hv; rw [hv.1]; exact hr.one hv.2)
  · exact lone _ hv (by simp only [T.rz] at hv; obtain ⟨_, b, _, rfl⟩ := hv; rfl)
  · exact lone _ hv (by simp only [T.rz] at hv; obtain ⟨_, b, _, _, _, rfl⟩ := hv; rfl)
  · exact lone _ hv (by simp only [T.rz] at hv; obtain ⟨b, _, _, rfl, _⟩ := hv; rfl)
  · simp only [T.rz] at hv
    obtain ⟨us, rfl, h1, h2⟩ := hv
    exact ⟨by simpa [Value.cells] using h2, by simpa [Value.cells] using h1⟩
  · exact lone _ hv (by simp only [T.rz] at hv; obtain ⟨us, rfl, _⟩ := hv; rfl)
  · exact lone _ hv (by simp only [T.rz] at hv; obtain ⟨f, caps, rfl, _⟩ := hv; rfl)
  · exact lone _ hv (by simp only [T.rz] at hv; exact C.rz_one _ _ _ hv)

theorem lk_one {κ k : Nat} {b : Blk} : (lk k [(κ, b)]).isSome = true ↔ k = κ := by simp [lk]
theorem topOf_mrg_one {κ : Nat} {blk : Blk} : topOf (mrg st.h [(κ, blk)]) ν' κ = topB ν' κ (some blk) := by
  simp [topOf, mrg, lk]

/-- A new variable. -/
theorem Rel.newBox (hr : Rel fr st a W ν F) {κ : Nat} (hκ : st.h κ = none) {ts : List T} {us : List Value} {ty : Nat} (hts : Ts.rz fr W (okOf fr W st.h ν) ν st.h ts us) (h1 : ∀ u ∈ us, u.oneCell' = true)
    {dst : Option Nat} {supp : List Nat} (hd : ∀ d, dst = some d → d < fr.N) :
    RelE fr (app st dst ⟨.ptr κ 0, supp, [(κ, .box ts)]⟩) (a.put dst (.pointer (some ⟨W.heap.size, 0, none⟩))) (W.alloc (.cells us.toArray ty)) := by
  let ν' : Nat → Value := fun k => if k = κ then .pointer (some ⟨W.heap.size, 0, none⟩) else ν k
  have hν : ∀ k, (st.h k).isSome = true → ν' k = ν k := fun k hk => by
    show (if k = κ then _ else _) = _
    rw [if_neg (by rintro rfl; simp [hκ] at hk)]
  have hνκ : ν' κ = .pointer (some ⟨W.heap.size, 0, none⟩) := if_pos rfl
  have htop : topOf (mrg st.h [(κ, .box ts)]) ν' κ = some W.heap.size := by rw [topOf_mrg_one]; simp [topB, hνκ]
  have hc := Chg.alloc W (.cells us.toArray ty)
  have hF0 : F κ = [] := hr.none_ κ hκ
  have hok := hr.ok_move (M := [(κ, .box ts)]) (ν' := ν') (F' := F) hc (by simp) hν
    (fun k b hk hb => by
      rw [lk_one] at hk; subst hk
      rcases hb with hb | hb
      · rw [htop] at hb; simp at hb; exact .inl (by omega)
      · rw [hF0] at hb; cases hb)
    (fun k b hk hb => by rw [lk_one] at hk; subst hk; rw [htop] at hb; simp at hb; exact .inl (by omega))
  refine ⟨ν', F, hr.step (M := [(κ, .box ts)]) (X := []) hc (by simp) hν (fun _ _ => rfl) ?_ ?_ ?_ ?_ ?_ ?_ ?_ ?_ hd⟩
  · intro k b hk hb; rw [lk_one] at hk; subst hk; rw [htop] at hb; simp at hb; exact .inl (by omega)
  · intro k b hk hb; rw [lk_one] at hk; subst hk; rw [hF0] at hb; cases hb
  · intro k k' b hne hk hk'; rw [lk_one] at hk hk'; exact absurd (hk.trans hk'.symm) hne
  · intro k k' b hk hk' hb; rw [lk_one] at hk; subst hk; rw [hF0] at hb; cases hb
  · intro k hk; exact hr.d3 k
  · intro k k' b hne hk hk'; rw [lk_one] at hk hk'; exact absurd (hk.trans hk'.symm) hne
  · intro k blk hk
    have : k = κ := lk_one.1 (by rw [hk]; rfl)
    subst this
    simp only [lk, if_true, Option.some.injEq] at hk
    subst hk
    simp only [Blk.rz]
    exact ⟨hF0, W.heap.size, us, ty, hνκ, Nat.zero_le _, heap_alloc_new W _, Ts.rz_move hok hν (fun k hk => mrg_isSome hk) ts us hts, h1⟩
  · simp only [T.rz]
    exact ⟨by simp [mrg, lk], W.heap.size, hνκ, rfl⟩

theorem zero_rz (us : List Value) : Ts.rz fr W ok ν h (us.map constT) us := by
  induction us with
  | nil => simp [Ts.rz]
  | cons u us ih => simp only [List.map_cons, Ts.rz]; exact ⟨u, us, rfl, constT_rz .., ih⟩

theorem step_alloc {t κ : Nat} {i : TyI} (ho : o.op = .alloc t) (ht : TyOk fr.P t i) (hκ : st.h κ = none) (h1 : ∀ u ∈ i.zv.cells.toList, u.oneCell' = true) (hd : ∀ d, o.dst = some d → d < fr.N) :
    StepO fr o st ⟨.ptr κ 0, [], [(κ, .box (i.zv.cells.toList.map constT))]⟩ :=
  .of_value fun st' a W ν F e1 e2 hr => by
    have hκ' : st'.h κ = none := by rw [e2 κ (.inr (by simp [lk]))]; exact hκ
    refine ⟨.pointer (some ⟨W.heap.size, 0, none⟩), W.alloc (.cells i.zv.cells t), ?_, ?_⟩
    · simp [execOp, ho, Instr.alloc, ht.zero, newVar, newRow]
    · have := hr.newBox hκ' (ty := t) (zero_rz i.zv.cells.toList) h1 (supp := []) hd
      simpa using this
theorem step_box {t κ : Nat} {x : Operand} {ts : List T} (ho : o.op = .box t x) (hκ : st.h κ = none) (hx : unT (opd st.s x) = some ts) (hd : ∀ d, o.dst = some d → d < fr.N) :
    StepO fr o st ⟨.ptr κ 0, [], [(κ, .box ts)]⟩ :=
  .of_value fun st' a W ν F e1 e2 hr => by
    have ex := e1 x (by simp [ho, Op.operands])
    have hκ' : st'.h κ = none := by rw [e2 κ (.inr (by simp [lk]))]; exact hκ
    have hv := hr.opd x
    rw [ex] at hv
    obtain ⟨h2, h1⟩ := unT_rz hr hx hv
    refine ⟨.pointer (some ⟨W.heap.size, 0, none⟩), W.alloc (.cells (a.eval x).cells t), ?_, ?_⟩
    · simp [execOp, ho, Instr.box, newVar, newRow]
    · have := hr.newBox hκ' (ty := t) h2 h1 (supp := []) hd
      simpa using this
end
end Go.Vm

namespace Go.Vm
open Go Go.RowKit

section
variable {fr : Fr} {st st' : St} {a : Act} {W W' : World} {ν ν' : Nat → Value} {F F' : Nat → List Nat} {o : Oper} {e : Eff} {L : Nat → Option TyI}
  {ok : Nat → Prop} {h : Nat → Option Blk}

theorem Rel.ptr_box (hr : Rel fr st a W ν F) {κ p : Nat} {xs : List T} {v : Value} (hk : st.h κ = some (.box xs)) (hv : T.rz fr W (okOf fr W st.h ν) ν st.h (.ptr κ p) v) :
    ∃ b us ty, v = .pointer (some ⟨b, p, none⟩) ∧ ν κ = .pointer (some ⟨b, 0, none⟩) ∧ fr.B ≤ b ∧ W.heap[b]? = some (.cells us.toArray ty (0, 0)) ∧ Ts.rz fr W (okOf fr W st.h ν) ν st.h xs us ∧ (∀ u ∈ us, u.oneCell' = true) ∧ F κ = [] := by
  simp only [T.rz] at hv
  obtain ⟨_, b, hb, rfl⟩ := hv
  have hblk := hr.heap κ _ hk
  simp only [Blk.rz] at hblk
  obtain ⟨hF, b', us, ty, hb', hB, hh, hts, h1c⟩ := hblk
  rw [hb] at hb'
  simp only [Value.pointer.injEq, Option.some.injEq, Addr.mk.injEq] at hb'
  obtain ⟨rfl, _⟩ := hb'
  exact ⟨b, us, ty, rfl, hb, hB, hh, hts, h1c, hF⟩

theorem step_store {t κ p : Nat} {x y : Operand} {i : TyI} {xs ts : List T} (ho : o.op = .store t x y) (hx : opd st.s x = .ptr κ p) (hk : st.h κ = some (.box xs)) (hy : unT (opd st.s y) = some ts)
    (ht : TyOk fr.P t i) (hl : ts.length = i.size) (hp : p + i.size ≤ xs.length) (hdst : o.dst = none) :
    StepO fr o st ⟨.un, [], [(κ, .box (xs.take p ++ ts ++ xs.drop (p + i.size)))]⟩ :=
  .of_skip fun st' a W ν F e1 e2 hr => by
    have ex := e1 x (by simp [ho, Op.operands])
    have ey := e1 y (by simp [ho, Op.operands])
    have hk' : st'.h κ = some (.box xs) := by rw [e2 κ (.inr (by simp [lk]))]; exact hk
    have hv := hr.opd x
    rw [ex, hx] at hv
    obtain ⟨b, us, ty, hvx, hνκ, hB, hh, hts, h1c, hF⟩ := hr.ptr_box hk' hv
    have hvy := hr.opd y
    rw [ey] at hvy
    obtain ⟨hty, h1y⟩ := unT_rz hr hy hvy
    have hly := Ts.rz_length _ _ hty
    have hlu := Ts.rz_length _ _ hts
    have hsz : (a.eval y).cells.size = i.size := by rw [← Array.length_toList]; omega
    obtain ⟨W', hrun, hc, hb'⟩ := run_storeAt_cells ht b p (a.eval y) us.toArray ty hh hsz (by simp; omega) h1y
    have htop : topOf st'.h ν κ = some b := by simp [topOf, hk', topB, hνκ]
    have htop' : ∀ blk : List T, topOf (mrg st'.h [(κ, .box blk)]) ν κ = some b := fun blk => by rw [topOf_mrg_one]; simp [topB, hνκ]
    refine ⟨W', by simp [execOp, ho, hvx, hrun], ν, F, ?_⟩
    have hX : ∀ c ∈ [b], ∃ k, (lk k [(κ, Blk.box (xs.take p ++ ts ++ xs.drop (p + i.size)))]).isSome = true ∧ topOf st'.h ν k = some c := fun c hc => by
      simp at hc; subst hc; exact ⟨κ, lk_one.2 rfl, htop⟩
    have hok := hr.ok_move (M := [(κ, .box (xs.take p ++ ts ++ xs.drop (p + i.size)))]) (ν' := ν) (F' := F) hc hX (fun _ _ => rfl)
      (fun k c hk hc => by
        rw [lk_one] at hk; subst hk
        rcases hc with hc | hc
        · rw [htop'] at hc; exact .inr ⟨k, lk_one.2 rfl, .inl (by rw [htop]; exact hc)⟩
        · rw [hF] at hc; cases hc)
      (fun k c hk hc => by rw [lk_one] at hk; subst hk; rw [htop'] at hc; exact .inr ⟨k, by rw [htop]; exact hc⟩)
    refine hr.step (M := [(κ, .box (xs.take p ++ ts ++ xs.drop (p + i.size)))]) (X := [b]) hc hX (fun _ _ => rfl) (fun _ _ => rfl) ?_ ?_ ?_ ?_ ?_ ?_ ?_ ?_ (by simp [hdst])
    · intro k c hk hc; rw [lk_one] at hk; subst hk; rw [htop'] at hc; exact .inr ⟨k, lk_one.2 rfl, by rw [htop]; exact hc⟩
    · intro k c hk hc; rw [lk_one] at hk; subst hk; rw [hF] at hc; cases hc
    · intro k k' c hne hk hk'; rw [lk_one] at hk hk'; exact absurd (hk.trans hk'.symm) hne
    · intro k k' c hk hk' hc; rw [lk_one] at hk; subst hk; rw [hF] at hc; cases hc
    · intro k hk; exact hr.d3 k
    · intro k k' c hne hk hk'; rw [lk_one] at hk hk'; exact absurd (hk.trans hk'.symm) hne
    · intro k blk hk
      have : k = κ := lk_one.1 (by rw [hk]; rfl)
      subst this
      simp only [lk, if_true, Option.some.injEq] at hk
      subst hk
      simp only [Blk.rz]
      have mv : ∀ ts us, Ts.rz fr W (okOf fr W st'.h ν) ν st'.h ts us → Ts.rz fr W' (okOf fr W' (mrg st'.h [(k, .box (xs.take p ++ ts ++ xs.drop (p + i.size)))]) ν) ν (mrg st'.h [(k, .box (xs.take p ++ ts ++ xs.drop (p + i.size)))]) ts us := by
        intro ts' us' hh
        refine Ts.rz_move (fun c hc' => ?_) (fun _ _ => rfl) (fun k hk => mrg_isSome hk) ts' us' hh
        obtain ⟨⟨h1, h2, h3⟩, h4⟩ := hok c hc'
        refine ⟨⟨h1, h2, fun k' hk' => h3 k' ?_⟩, h4⟩
        rw [← hk']
        by_cases hkk : k' = k
        · subst hkk; rw [topOf_mrg_one, topOf_mrg_one]; rfl
        · simp [topOf, mrg, lk, hkk]
      refine ⟨hF, b, us.take p ++ (a.eval y).cells.toList ++ us.drop (p + i.size), ty, hνκ, hB, ?_, ?_, ?_⟩
      · rw [hb', hsz]
      · exact Ts.rz_move hok (fun _ _ => rfl) (fun k hk => mrg_isSome hk) _ _
          (Ts.rz_append _ _ _ _ (Ts.rz_append _ _ _ _ (Ts.rz_take p _ _ hts) hty) (Ts.rz_drop (p + i.size) _ _ hts))
      · intro u hu
        rcases List.mem_append.1 hu with hu | hu
        · rcases List.mem_append.1 hu with hu | hu
          · exact h1c u (List.mem_of_mem_take hu)
          · exact h1y u hu
        · exact h1c u (List.mem_of_mem_drop hu)
    · simp [T.rz]

/-! ### what is given away -/
def deads (ks : List Nat) : List (Nat × Blk) := ks.map fun k => (k, .dead)
theorem lk_deads (k : Nat) (ks : List Nat) : lk k (deads ks) = if k ∈ ks then some .dead else none := by
  induction ks with
  | nil => rfl
  | cons x ks ih =>
    simp only [deads, List.map_cons, lk, List.mem_cons] at ih ⊢
    by_cases hk : k = x
    · simp [hk]
    · simp only [hk, if_false, false_or]; exact ih
theorem lk_cons_deads (k κ : Nat) (b : Blk) (ks : List Nat) : (lk k ((κ, b) :: deads ks)).isSome = true ↔ k = κ ∨ k ∈ ks := by
  simp only [lk, lk_deads]
  by_cases h1 : k = κ
  · simp [h1]
  · by_cases h2 : k ∈ ks <;> simp [h1, h2]

/-- The blocks that a key holds: its own row's and those within. -/
def ownK (ν : Nat → Value) (F : Nat → List Nat) (h : Nat → Option Blk) (κ : Nat) : List Nat := (topOf h ν κ).toList ++ F κ

theorem Rel.setArr (hr : Rel fr st a W ν F) {κ : Nat} {ks : List Nat} (hκ : κ ∉ ks) (hks : ∀ k ∈ ks, (st.h k).isSome = true) {vκ : Value} (hνκ : (st.h κ).isSome = true → vκ = ν κ) {X : List Nat} (hc : Chg W W' X)
    (hX : ∀ b ∈ X, ∃ k, (k = κ ∨ k ∈ ks) ∧ topOf st.h ν k = some b)
    (htop : ∀ b, vκ.ownBlock = some b → W.heap.size ≤ b ∨ ∃ k, (k = κ ∨ k ∈ ks) ∧ topOf st.h ν k = some b)
    {fs : List Nat} (hfs : ∀ b ∈ fs, W.heap.size ≤ b ∨ ∃ k, (k = κ ∨ k ∈ ks) ∧ (topOf st.h ν k = some b ∨ b ∈ F k)) (hnd : fs.Nodup) (hdis : ∀ b ∈ fs, vκ.ownBlock ≠ some b)
    {d : Bool} {ty sz : Nat} {es : List (List C)} {xs : List Value} (hown : W'.ownsRow fr.B ty sz vκ es.length xs)
    (hes : if d then Es.rz W' (fun _ => False) fr.B sz es xs fs else
      (Es.rz W' (fun b => vκ.ownBlock ≠ some b ∧ b < W'.heap.size ∧ (okOf fr W st.h ν b ∨ W.heap.size ≤ b ∨ ∃ k, (k = κ ∨ k ∈ ks) ∧ (topOf st.h ν k = some b ∨ b ∈ F k))) fr.B sz es xs [] ∧ fs = []))
    {t : T} {v : Value} (ht : (t = .ref κ ∧ v = vκ) ∨ t = .un) {dst : Option Nat} {supp : List Nat} (hd : ∀ d, dst = some d → d < fr.N) :
    RelE fr (app st dst ⟨t, supp, (κ, .arr d ty sz es) :: deads ks⟩) (a.put dst v) W' := by
  let M : List (Nat × Blk) := (κ, .arr d ty sz es) :: deads ks
  let ν' : Nat → Value := fun k => if k = κ then vκ else ν k
  let F' : Nat → List Nat := fun k => if k = κ then fs else if k ∈ ks then [] else F k
  have hM : ∀ k, (lk k M).isSome = true ↔ k = κ ∨ k ∈ ks := fun k => lk_cons_deads k κ _ ks
  have hν : ∀ k, (st.h k).isSome = true → ν' k = ν k := fun k hk => by
    show (if k = κ then _ else _) = _
    split
    · rename_i e; subst e; exact hνκ hk
    · rfl
  have hνe : ν' κ = vκ := if_pos rfl
  have hFe : F' κ = fs := if_pos rfl
  have lkκ : lk κ M = some (.arr d ty sz es) := by simp [M, lk]
  have lkd : ∀ k, k ∈ ks → lk k M = some .dead := fun k hk => by
    have : k ≠ κ := by rintro rfl; exact hκ hk
    show (if k = κ then _ else _) = _
    rw [if_neg this, lk_deads, if_pos hk]
  have topκ : topOf (mrg st.h M) ν' κ = vκ.ownBlock := by simp [topOf, mrg, lkκ, topB, hνe]
  have topd : ∀ k, k ∈ ks → topOf (mrg st.h M) ν' k = none := fun k hk => by simp [topOf, mrg, lkd k hk, topB]
  have Fd : ∀ k, k ∈ ks → F' k = [] := fun k hk => by
    have : k ≠ κ := by rintro rfl; exact hκ hk
    show (if k = κ then _ else _) = _
    rw [if_neg this, if_pos hk]
  have hT : ∀ k b, (lk k M).isSome = true → topOf (mrg st.h M) ν' k = some b → W.heap.size ≤ b ∨ ∃ k', (lk k' M).isSome = true ∧ topOf st.h ν k' = some b := by
    intro k b hk hb
    rcases (hM k).1 hk with rfl | hk
    · rw [topκ] at hb
      exact (htop b hb).imp id fun ⟨k', h1, h2⟩ => ⟨k', (hM k').2 h1, h2⟩
    · rw [topd k hk] at hb; cases hb
  have hFr : ∀ k b, (lk k M).isSome = true → b ∈ F' k → Rel.free st W ν F M b := by
    intro k b hk hb
    rcases (hM k).1 hk with rfl | hk
    · rw [hFe] at hb
      exact (hfs b hb).imp id fun ⟨k', h1, h2⟩ => ⟨k', (hM k').2 h1, h2⟩
    · rw [Fd k hk] at hb; cases hb
  have hX' : ∀ b ∈ X, ∃ k, (lk k M).isSome = true ∧ topOf st.h ν k = some b := fun b hb => let ⟨k, h1, h2⟩ := hX b hb; ⟨k, (hM k).2 h1, h2⟩
  refine ⟨ν', F', hr.step (M := M) (X := X) hc hX' hν ?_ hT hFr ?_ ?_ ?_ ?_ ?_ ?_ hd⟩
  · intro k hk
    have : ¬ (k = κ ∨ k ∈ ks) := fun h => by have := (hM k).2 h; simp [hk] at this
    show (if k = κ then _ else if k ∈ ks then _ else _) = _
    rw [if_neg (fun e => this (.inl e)), if_neg (fun e => this (.inr e))]
  · intro k k' b hne hk hk' hb
    rcases (hM k).1 hk with rfl | hk
    · rcases (hM k').1 hk' with rfl | hk'
      · exact absurd rfl hne
      · rw [topd k' hk']; simp
    · rw [topd k hk] at hb; cases hb
  · intro k k' b hk hk' hb
    rcases (hM k).1 hk with rfl | hk
    · rcases (hM k').1 hk' with rfl | hk'
      · rw [topκ]; rw [hFe] at hb; exact hdis b hb
      · rw [topd k' hk']; simp
    · rw [Fd k hk] at hb; cases hb
  · intro k hk
    rcases (hM k).1 hk with rfl | hk
    · rw [hFe]; exact hnd
    · rw [Fd k hk]; exact List.nodup_nil
  · intro k k' b hne hk hk' hb
    rcases (hM k).1 hk with rfl | hk
    · rcases (hM k').1 hk' with rfl | hk'
      · exact absurd rfl hne
      · rw [Fd k' hk']; simp
    · rw [Fd k hk] at hb; cases hb
  · intro k blk hk
    rcases (hM k).1 (by rw [hk]; rfl) with rfl | hkk
    · rw [lkκ, Option.some.injEq] at hk
      subst hk
      rw [hFe]
      cases d with
      | true => simp only [Blk.rz, hνe]; exact ⟨xs, hown, hes⟩
      | false =>
        obtain ⟨h1, h2⟩ := hes
        simp only [Blk.rz, hνe]
        refine ⟨xs, hown, Es.rz_move (fun b hb => ⟨⟨?_, hb.2.1, fun k' hk' => ?_⟩, rfl⟩) (Nat.le_refl _) sz es xs [] (by simp) h1, h2⟩
        · rcases hb.2.2 with h | h | ⟨k', _, h | h⟩
          · exact h.1
          · exact .inr (.inl (Nat.le_trans hr.below.size h))
          · exact .inr (hr.top_lt h).1
          · exact .inr (hr.F_lt h).1
        · cases hl : lk k' M with
          | some blk' =>
            rcases (hM k').1 (by simp [hl]) with rfl | hk2
            · rw [topκ] at hk'; exact hb.1 hk'
            · rw [topd k' hk2] at hk'; cases hk'
          | none =>
            have hk2 : topOf st.h ν k' = some b := by
              rw [topOf, mrg_none hl, topB_congr _ (fun hs => hν k' hs)] at hk'; exact hk'
            have hn : ¬ (k' = k ∨ k' ∈ ks) := fun h => by have := (hM k').2 h; simp [hl] at this
            rcases hb.2.2 with h | h | ⟨k2, hk3, h | h⟩
            · exact h.2.2 k' hk2
            · have := (hr.top_lt hk2).2; omega
            · exact hr.d1 k2 k' b (by rintro rfl; exact hn hk3) h hk2
            · exact hr.d2 k2 k' b h hk2
    · rw [lkd k hkk, Option.some.injEq] at hk
      subst hk
      simp only [Blk.rz]
      refine ⟨Fd k hkk, ?_⟩
      rw [hν k (hks k hkk)]
      exact hr.one (hks k hkk)
  · rcases ht with ⟨rfl, rfl⟩ | rfl
    · simp only [T.rz]; exact ⟨hνe.symm, by show (mrg st.h M κ).isSome = true; simp [mrg, lkκ]⟩
    · simp [T.rz]
end
end Go.Vm

namespace Go.Vm
open Go Go.RowKit

/-- A slot's value as a cell of data, and the keys that are given away with it. -/
def absC (h : Nat → Option Blk) (deep : Bool) (ct : Nat × Nat) : T → Option (C × List Nat)
  | .c (.int k n) => some (.int k n, [])
  | .c (.bool b) => some (.bool b, [])
  | .c (.sl none sz es) => if deep then none else some (.sl none sz es, [])
  | .c (.val u) => if deep then none else some (.val u, [])
  | .ca (.sl none sz es) => if deep then none else some (.sl none sz es, [])
  | .nilS => some (if deep then .sl (some ct.1) ct.2 [] else .sl none ct.2 [], [])
  | .ref κ => match h κ with
    | some (.arr d ty sz es) => if deep then (if d then some (.sl (some ty) sz es, [κ]) else none) else some (.sl none sz (if d then Es.strip es else es), [κ])
    | some (.fro sz es) => if deep then none else some (.sl none sz es, [])
    | _ => none
  | _ => none
def absL (h : Nat → Option Blk) (deep : Bool) : List (Nat × Nat) → List T → Option (List C × List Nat)
  | _, [] => some ([], [])
  | cts, t :: ts => match absC h deep (cts.headD (0, 0)) t, absL h deep cts.tail ts with
    | some (c, k), some (cs, ks) => some (c :: cs, k ++ ks)
    | _, _ => none

section
variable {fr : Fr} {st st' : St} {a : Act} {W W' : World} {ν ν' : Nat → Value} {F F' : Nat → List Nat} {o : Oper} {e : Eff} {L : Nat → Option TyI}
  {ok : Nat → Prop} {h : Nat → Option Blk}

theorem absC_keys {deep : Bool} {ct : Nat × Nat} {t : T} {c : C} {ks : List Nat} (ha : absC h deep ct t = some (c, ks)) : ∀ k ∈ ks, (h k).isSome = true := by
  unfold absC at ha
  split at ha
  · simp only [Option.some.injEq, Prod.mk.injEq] at ha; simp [← ha.2]
  · simp only [Option.some.injEq, Prod.mk.injEq] at ha; simp [← ha.2]
  · split at ha
    · cases ha
    · simp only [Option.some.injEq, Prod.mk.injEq] at ha; simp [← ha.2]
  · split at ha
    · cases ha
    · simp only [Option.some.injEq, Prod.mk.injEq] at ha; simp [← ha.2]
  · split at ha
    · cases ha
    · simp only [Option.some.injEq, Prod.mk.injEq] at ha; simp [← ha.2]
  · simp only [Option.some.injEq, Prod.mk.injEq] at ha; simp [← ha.2]
  · rename_i κ
    split at ha
    · rename_i hk
      split at ha
      · split at ha
        · simp only [Option.some.injEq, Prod.mk.injEq] at ha; rw [← ha.2]; simp [hk]
        · cases ha
      · simp only [Option.some.injEq, Prod.mk.injEq] at ha; rw [← ha.2]; simp [hk]
    · split at ha
      · cases ha
      · simp only [Option.some.injEq, Prod.mk.injEq] at ha; simp [← ha.2]
    · cases ha
  · cases ha
theorem absL_cons {deep : Bool} {cts : List (Nat × Nat)} {t : T} {ts : List T} {cs : List C} {ks : List Nat} (ha : absL h deep cts (t :: ts) = some (cs, ks)) :
    ∃ c k cs' ks', absC h deep (cts.headD (0, 0)) t = some (c, k) ∧ absL h deep cts.tail ts = some (cs', ks') ∧ cs = c :: cs' ∧ ks = k ++ ks' := by
  unfold absL at ha
  split at ha
  · rename_i c k cs' ks' h1 h2
    simp only [Option.some.injEq, Prod.mk.injEq] at ha
    exact ⟨c, k, cs', ks', h1, h2, ha.1.symm, ha.2.symm⟩
  · cases ha
theorem absL_nil {deep : Bool} {cts : List (Nat × Nat)} {cs : List C} {ks : List Nat} (ha : absL h deep cts [] = some (cs, ks)) : cs = [] ∧ ks = [] := by
  simp only [absL, Option.some.injEq, Prod.mk.injEq] at ha; exact ⟨ha.1.symm, ha.2.symm⟩
theorem absL_keys {deep : Bool} : ∀ {ts : List T} {cts : List (Nat × Nat)} {cs : List C} {ks : List Nat}, absL h deep cts ts = some (cs, ks) → ∀ k ∈ ks, (h k).isSome = true
  | [], cts, cs, ks, ha => by simp [(absL_nil ha).2]
  | t :: ts, cts, cs, ks, ha => by
    obtain ⟨c, k, cs', ks', h1, h2, rfl, rfl⟩ := absL_cons ha
    intro x hx
    rcases List.mem_append.1 hx with hx | hx
    · exact absC_keys h1 x hx
    · exact absL_keys h2 x hx

theorem Rel.arr_own (hr : Rel fr st a W ν F) {κ : Nat} {d : Bool} {ty sz : Nat} {es : List (List C)} (hk : st.h κ = some (.arr d ty sz es)) :
    ∃ xs, W.ownsRow fr.B ty sz (ν κ) es.length xs ∧ (if d then Es.rz W (fun _ => False) fr.B sz es xs (F κ) else Es.rz W (okOf fr W st.h ν) fr.B sz es xs [] ∧ F κ = []) ∧ topOf st.h ν κ = (ν κ).ownBlock := by
  have hblk := hr.heap κ _ hk
  have ht : topOf st.h ν κ = (ν κ).ownBlock := by simp [topOf, hk, topB]
  cases d <;> simp only [Blk.rz] at hblk <;> obtain ⟨xs, h1, h2⟩ := hblk
  · exact ⟨xs, h1, by simpa using h2, ht⟩
  · exact ⟨xs, h1, by simpa using h2, ht⟩

theorem absC_deep (hr : Rel fr st a W ν F) {ct : Nat × Nat} {t : T} {c : C} {ks : List Nat} {v : Value} (ha : absC st.h true ct t = some (c, ks)) (hv : T.rz fr W (okOf fr W st.h ν) ν st.h t v) :
    C.rz W (fun _ => False) fr.B c v (ks.flatMap (ownK ν F st.h)) := by
  unfold absC at ha
  split at ha
  · simp only [Option.some.injEq, Prod.mk.injEq] at ha; obtain ⟨rfl, rfl⟩ := ha; simpa [T.rz, C.rz] using hv
  · simp only [Option.some.injEq, Prod.mk.injEq] at ha; obtain ⟨rfl, rfl⟩ := ha; simpa [T.rz, C.rz] using hv
  · simp at ha
  · simp at ha
  · simp at ha
  · simp only [if_true, Option.some.injEq, Prod.mk.injEq] at ha; obtain ⟨rfl, rfl⟩ := ha
    simp only [T.rz] at hv; subst hv
    simp only [C.rz]
    exact ⟨[], [], World.ownsRow_nil _ _ _ _, by simp [Value.ownBlock], by simp [Es.rz]⟩
  · rename_i κ
    split at ha
    · rename_i d ty sz es hk
      simp only [if_true] at ha
      split at ha
      · rename_i hd
        simp only [Option.some.injEq, Prod.mk.injEq] at ha; obtain ⟨rfl, rfl⟩ := ha
        obtain ⟨xs, h1, h2, h3⟩ := hr.arr_own hk
        rw [if_pos hd] at h2
        simp only [T.rz] at hv
        rw [hv.1]
        simp only [C.rz]
        exact ⟨xs, F κ, h1, by simp [ownK, h3], h2⟩
      · cases ha
    · simp at ha
    · cases ha
  · cases ha

theorem absC_flat (hr : Rel fr st a W ν F) {ct : Nat × Nat} {t : T} {c : C} {ks : List Nat} {v : Value} (ha : absC st.h false ct t = some (c, ks)) (hv : T.rz fr W (okOf fr W st.h ν) ν st.h t v) :
    C.rz W (fun b => okOf fr W st.h ν b ∨ ∃ k ∈ ks, b ∈ ownK ν F st.h k) fr.B c v [] := by
  have mv : ∀ c : C, C.rz W (okOf fr W st.h ν) 0 c v [] → ∀ ks : List Nat, C.rz W (fun b => okOf fr W st.h ν b ∨ ∃ k ∈ ks, b ∈ ownK ν F st.h k) 0 c v [] :=
    fun c hc ks => C.rz_move (fun b hb => ⟨.inl hb, rfl⟩) (Nat.le_refl _) c v [] (by simp) hc
  unfold absC at ha
  split at ha
  · simp only [Option.some.injEq, Prod.mk.injEq] at ha; obtain ⟨rfl, rfl⟩ := ha; simpa [T.rz, C.rz] using hv
  · simp only [Option.some.injEq, Prod.mk.injEq] at ha; obtain ⟨rfl, rfl⟩ := ha; simpa [T.rz, C.rz] using hv
  · rename_i sz es
    simp only [Bool.false_eq_true, if_false, Option.some.injEq, Prod.mk.injEq] at ha; obtain ⟨rfl, rfl⟩ := ha
    simp only [T.rz] at hv
    exact C.rz_base _ _ (mv _ hv [])
  · simp only [Bool.false_eq_true, if_false, Option.some.injEq, Prod.mk.injEq] at ha; obtain ⟨rfl, rfl⟩ := ha
    simpa [T.rz, C.rz] using hv
  · rename_i sz es
    simp only [Bool.false_eq_true, if_false, Option.some.injEq, Prod.mk.injEq] at ha; obtain ⟨rfl, rfl⟩ := ha
    simp only [T.rz] at hv
    exact C.rz_base _ _ (mv _ (hr.ca hv) [])
  · simp only [Bool.false_eq_true, if_false, Option.some.injEq, Prod.mk.injEq] at ha; obtain ⟨rfl, rfl⟩ := ha
    simp only [T.rz] at hv; subst hv
    simp only [C.rz]
    exact ⟨trivial, none, 0, [], rfl, by simp, by simp, by simp, by simp, by simp [Es.rz]⟩
  · rename_i κ
    split at ha
    · rename_i d ty sz es hk
      simp only [Bool.false_eq_true, if_false, Option.some.injEq, Prod.mk.injEq] at ha; obtain ⟨rfl, rfl⟩ := ha
      obtain ⟨xs, h1, h2, h3⟩ := hr.arr_own hk
      simp only [T.rz] at hv
      rw [hv.1]
      refine C.rz_share (e := ty) (B := fr.B) ?_ ?_ (fun b hb => .inr ⟨κ, by simp, by simp [ownK, h3, hb]⟩) (xs := xs)
      · cases d <;> simpa [Es.strip_length] using h1
      · cases d with
        | true =>
          simp only [if_true] at h2 ⊢
          exact Es.rz_strip sz es xs (F κ) (fun b hb => .inr ⟨κ, by simp, by simp [ownK, hb]⟩) (Es.rz_move (fun b hb => hb.elim) (Nat.le_refl _) sz es xs (F κ) (fun _ _ => rfl) h2)
        | false =>
          simp only [Bool.false_eq_true, if_false] at h2 ⊢
          exact Es.rz_move (fun b hb => ⟨.inl hb, rfl⟩) (Nat.le_refl _) sz es xs [] (by simp) h2.1
    · rename_i sz es hk
      simp only [Bool.false_eq_true, if_false, Option.some.injEq, Prod.mk.injEq] at ha; obtain ⟨rfl, rfl⟩ := ha
      have hblk := hr.heap κ _ hk
      simp only [Blk.rz] at hblk
      simp only [T.rz] at hv
      rw [hv.1]
      rw [hv.1] at mv
      exact C.rz_base _ _ (mv _ hblk.2 [])
    · cases ha
  · cases ha

theorem absL_deep (hr : Rel fr st a W ν F) : ∀ {ts : List T} {cts : List (Nat × Nat)} {cs : List C} {ks : List Nat} {us : List Value}, absL st.h true cts ts = some (cs, ks) → Ts.rz fr W (okOf fr W st.h ν) ν st.h ts us →
    Cs.rz W (fun _ => False) fr.B cs us (ks.flatMap (ownK ν F st.h))
  | [], cts, cs, ks, us, ha, hv => by
    obtain ⟨rfl, rfl⟩ := absL_nil ha
    simp only [Ts.rz] at hv; subst hv; simp [Cs.rz]
  | t :: ts, cts, cs, ks, us, ha, hv => by
    obtain ⟨c, k, cs', ks', h1, h2, rfl, rfl⟩ := absL_cons ha
    simp only [Ts.rz] at hv
    obtain ⟨u, us', rfl, h3, h4⟩ := hv
    simp only [Cs.rz]
    exact ⟨u, us', _, _, rfl, List.flatMap_append, absC_deep hr h1 h3, absL_deep hr h2 h4⟩
theorem absL_flat (hr : Rel fr st a W ν F) : ∀ {ts : List T} {cts : List (Nat × Nat)} {cs : List C} {ks : List Nat} {us : List Value}, absL st.h false cts ts = some (cs, ks) → Ts.rz fr W (okOf fr W st.h ν) ν st.h ts us →
    Cs.rz W (fun b => okOf fr W st.h ν b ∨ ∃ k ∈ ks, b ∈ ownK ν F st.h k) fr.B cs us []
  | [], cts, cs, ks, us, ha, hv => by
    obtain ⟨rfl, rfl⟩ := absL_nil ha
    simp only [Ts.rz] at hv; subst hv; simp [Cs.rz]
  | t :: ts, cts, cs, ks, us, ha, hv => by
    obtain ⟨c, k, cs', ks', h1, h2, rfl, rfl⟩ := absL_cons ha
    simp only [Ts.rz] at hv
    obtain ⟨u, us', rfl, h3, h4⟩ := hv
    simp only [Cs.rz]
    refine ⟨u, us', [], [], rfl, rfl, ?_, ?_⟩
    · exact C.rz_move (fun b hb => ⟨hb.imp id fun ⟨x, hx, hy⟩ => ⟨x, by simp [hx], hy⟩, rfl⟩) (Nat.le_refl _) _ _ [] (by simp) (absC_flat hr h1 h3)
    · exact Cs.rz_move (fun b hb => ⟨hb.imp id fun ⟨x, hx, hy⟩ => ⟨x, by simp [hx], hy⟩, rfl⟩) (Nat.le_refl _) _ _ [] (by simp) (absL_flat hr h2 h4)

theorem Rel.ownK_nodup (hr : Rel fr st a W ν F) (κ : Nat) : (ownK ν F st.h κ).Nodup := by
  unfold ownK
  cases ht : topOf st.h ν κ with
  | none => simpa using hr.d3 κ
  | some b =>
    simp only [Option.toList_some, List.singleton_append, List.nodup_cons]
    exact ⟨fun hb => hr.d2 κ κ b hb ht, hr.d3 κ⟩
theorem Rel.ownK_apart (hr : Rel fr st a W ν F) {κ κ' b : Nat} (hne : κ ≠ κ') (h1 : b ∈ ownK ν F st.h κ) : b ∉ ownK ν F st.h κ' := by
  unfold ownK at *
  intro h2
  rcases List.mem_append.1 h1 with h1 | h1 <;> rcases List.mem_append.1 h2 with h2 | h2
  · exact hr.d1 κ κ' b hne (by simpa using h1) (by simpa using h2)
  · exact hr.d2 κ' κ b h2 (by simpa using h1)
  · exact hr.d2 κ κ' b h1 (by simpa using h2)
  · exact hr.d4 κ κ' b hne h1 h2
theorem Rel.ownKs_nodup (hr : Rel fr st a W ν F) : ∀ {ks : List Nat}, ks.Nodup → (ks.flatMap (ownK ν F st.h)).Nodup
  | [], _ => by simp
  | k :: ks, hn => by
    rw [List.nodup_cons] at hn
    rw [List.flatMap_cons, List.nodup_append]
    refine ⟨hr.ownK_nodup k, hr.ownKs_nodup hn.2, fun x hx y hy => ?_⟩
    rintro rfl
    obtain ⟨k', hk', hx'⟩ := List.mem_flatMap.1 hy
    exact hr.ownK_apart (by rintro rfl; exact hn.1 hk') hx hx'
theorem mem_ownK {κ b : Nat} (hb : b ∈ ownK ν F h κ) : topOf h ν κ = some b ∨ b ∈ F κ := by
  rcases List.mem_append.1 hb with hb | hb
  · exact .inl (by simpa using hb)
  · exact .inr hb
theorem Rel.ownK_lt (hr : Rel fr st a W ν F) {κ b : Nat} (hb : b ∈ ownK ν F st.h κ) : fr.New b ∧ b < W.heap.size := by
  rcases mem_ownK hb with hb | hb
  · exact hr.top_lt hb
  · exact hr.F_lt hb
end
end Go.Vm
