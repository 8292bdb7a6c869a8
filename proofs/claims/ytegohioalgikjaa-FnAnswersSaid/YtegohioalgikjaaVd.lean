/- The abstract walk, fourth part: a statement's arguments, and its row out of a contract. No condition. -/
import Derived.Test.YtegohioalgikjaaVc
import Derived.ChangeOld
import Derived.ChangeArms
import Derived.ChangeReads
import Derived.WalkKit
import Derived.ProofKit
import Derived.OpenShut
import Derived.SizedLaws
set_option linter.unusedVariables false
set_option linter.unusedSimpArgs false
namespace Go.Vm
open Go Go.RowKit Go.ChangeShapes

/-- The fields lie one behind the other. -/
def layB (P : Program) : Nat → List Field → Option Nat
  | o, [] => some o
  | o, f :: fs => if f.offset = o then layB P (o + P.cellsOf f.type) fs else none
def plainT (P : Program) : Nat → Nat → Bool
  | 0, _ => false
  | n + 1, t => match P.underlying t with
    | some .bool => true
    | some (.int _) => true
    | some (.slice e) => decide (0 < P.cellsOf e) && plainT P n e
    | some (.struct fs) => (layB P 0 fs.toList == some (P.cellsOf t)) && fs.toList.all fun f => plainT P n f.type
    | _ => false
def shpF (shp : Nat → List C → Prop) : List Field → List C → Prop
  | [], cs => cs = []
  | f :: fs, cs => ∃ a b, cs = a ++ b ∧ shp f.type a ∧ shpF shp fs b
/-- The cells that a value of the type can have. -/
def shp (P : Program) : Nat → Nat → List C → Prop
  | 0, _, _ => False
  | n + 1, t, cs => match P.underlying t with
    | some .bool => ∃ b, cs = [.bool b]
    | some (.int k) => ∃ m, cs = [.int k m] ∧ (Lit.int k m).wf = true
    | some (.slice e) => ∃ es, cs = [.sl none (P.cellsOf e) es] ∧ es.length ≤ maxLen ∧ ∀ x ∈ es, shp P n e x
    | some (.struct fs) => shpF (shp P n) fs.toList cs
    | _ => False

section
variable {H : Type} {enc : TypeId × Value → H} {P : Program} {w w' : World} {sp : Nat → Bool} {ok : Nat → Prop}

theorem cells_read {a : Addr} {n : Nat} {us : List Value} (h : w.cells? 0 a n = some us) : us.length = n ∧ ∀ j u, us[j]? = some u → w.cell? (a.add j) = some u := by
  unfold World.cells? at h
  rw [if_pos (Nat.zero_le _)] at h
  refine ⟨by simpa using mapM_some_length h, fun j u hu => ?_⟩
  have hj : j < n := by have := mapM_some_length h; have := (List.getElem?_eq_some_iff.1 hu).1; simp at *; omega
  have := mapM_some_get h j j (by simp [hj])
  rw [this, hu]
theorem cell_blk {a : Addr} {u : Value} (h : w.cell? a = some u) : a.block < w.heap.size ∧ a.spot = none := by
  unfold World.cell? at h
  split at h
  · rename_i hb
    refine ⟨(Array.getElem?_eq_some_iff.1 hb).1, ?_⟩
    split at h
    · cases h
    · rename_i hs; simpa using hs
  · cases h
theorem add_block (a : Addr) (n : Nat) : (a.add n).block = a.block := by unfold Addr.add; split <;> rfl
theorem add_add (a : Addr) (n m : Nat) : (a.add n).add m = a.add (n + m) := by
  unfold Addr.add
  by_cases h1 : n = 0 <;> by_cases h2 : m = 0 <;> simp [h1, h2, Nat.add_assoc]
theorem cells_move {a : Addr} {n : Nat} (hb : w'.heap[a.block]? = w.heap[a.block]?) : w'.cells? 0 a n = w.cells? 0 a n := by
  unfold World.cells?
  have : ∀ i, w'.cell? (a.add i) = w.cell? (a.add i) := fun i => by unfold World.cell?; rw [add_block, hb]
  simp only [this]
theorem mapM_congr {α β : Type} {f g : α → Option β} : ∀ {l : List α}, (∀ x ∈ l, f x = g x) → l.mapM f = l.mapM g
  | [], _ => rfl
  | x :: l, h => by rw [List.mapM_cons, List.mapM_cons, h x (by simp), mapM_congr fun y hy => h y (by simp [hy])]
theorem mapM_all {α β : Type} {f : α → Option β} : ∀ {l : List α} {r : List β}, l.mapM f = some r → ∀ x ∈ l, ∃ y, f x = some y
  | [], _, _, x, hx => by cases hx
  | z :: l, r, h, x, hx => by
    rw [List.mapM_cons] at h
    cases hz : f z with
    | none => simp [hz] at h
    | some y =>
      cases hl : l.mapM f with
      | none => simp [hz, hl] at h
      | some r' =>
        rcases List.mem_cons.1 hx with rfl | hx
        · exact ⟨y, hz⟩
        · exact mapM_all hl x hx

theorem layB_le {P : Program} : ∀ {fs : List Field} {o e : Nat}, layB P o fs = some e → o ≤ e
  | [], o, e, h => by simp only [layB, Option.some.injEq] at h; omega
  | f :: fs, o, e, h => by
    simp only [layB] at h
    split at h
    · have := layB_le h; omega
    · cases h

def Reads1 (enc : TypeId × Value → H) (P : Program) (w : World) (n t : Nat) : Prop :=
  ∀ fuel cs x, DataW.trod enc P w 0 (fun _ => true) true fuel t cs = some x →
    (∃ ys, shp P n t ys ∧ Cs.rz w (fun b => b < w.heap.size) 0 ys cs []) ∧
    ∀ (w' : World) (sp : Nat → Bool), (∀ b, b < w.heap.size → w'.heap[b]? = w.heap[b]? ∧ sp b = true) → DataW.trod enc P w' 0 sp true fuel t cs = some x

theorem reads_fields {n fuel : Nat} {cs : List Value} (hr : ∀ t, plainT P n t = true → Reads1 enc P w n t) :
    ∀ (fs : List Field) (o : Nat), layB P o fs = some cs.length → (∀ f ∈ fs, plainT P n f.type = true) → (∀ f ∈ fs, ∃ y, DataW.trod enc P w 0 (fun _ => true) true fuel f.type ((cs.drop f.offset).take (P.cellsOf f.type)) = some y) →
      ∃ ys, shpF (shp P n) fs ys ∧ Cs.rz w (fun b => b < w.heap.size) 0 ys (cs.drop o) [] := by
  intro fs
  induction fs with
  | nil =>
    intro o ho _ _
    simp only [layB, Option.some.injEq] at ho
    exact ⟨[], rfl, by simp [Cs.rz, ho]⟩
  | cons f fs ih =>
    intro o ho hp ht
    simp only [layB] at ho
    split at ho
    · rename_i hfo
      obtain ⟨y, hy⟩ := ht f (by simp)
      obtain ⟨⟨ys, h1, h2⟩, _⟩ := hr _ (hp f (by simp)) _ _ _ hy
      obtain ⟨zs, h3, h4⟩ := ih _ ho (fun g hg => hp g (by simp [hg])) (fun g hg => ht g (by simp [hg]))
      refine ⟨ys ++ zs, ⟨ys, zs, rfl, h1, h3⟩, ?_⟩
      have := Cs.rz_append _ _ _ _ _ _ h2 h4
      rw [hfo] at this
      rw [← List.drop_drop, List.take_append_drop] at this
      exact this
    · cases ho

theorem reads_elems {n fuel sz : Nat} {e : Nat} {a : Addr} (hsz : sz = P.cellsOf e) (hr : Reads1 enc P w n e) : ∀ (k : Nat), (∀ i, i < k → ∃ y, (w.cells? 0 (a.add (i * sz)) sz).bind (DataW.trod enc P w 0 (fun _ => true) true fuel e) = some y) →
    ∃ es xs, es.length = k ∧ (∀ x ∈ es, shp P n e x) ∧ xs.length = k * sz ∧ Es.rz w (fun b => b < w.heap.size) 0 sz es xs [] ∧ ∀ j u, xs[j]? = some u → w.cell? (a.add j) = some u := by
  intro k
  induction k with
  | zero => intro _; exact ⟨[], [], rfl, by simp, by simp, by simp [Es.rz], by simp⟩
  | succ k ih =>
    intro h
    obtain ⟨es, xs, h1, h2, h3, h4, h5⟩ := ih fun i hi => h i (by omega)
    obtain ⟨y, hy⟩ := h k (by omega)
    cases hc : w.cells? 0 (a.add (k * sz)) sz with
    | none => simp [hc] at hy
    | some us =>
      simp only [hc, Option.bind_some] at hy
      obtain ⟨⟨ys, g1, g2⟩, _⟩ := hr _ _ _ hy
      obtain ⟨hl, hcell⟩ := cells_read hc
      refine ⟨es ++ [ys], xs ++ us, by simp [h1], fun x hx => ?_, by simp [h3, hl, Nat.succ_mul], ?_, fun j u hu => ?_⟩
      · rcases List.mem_append.1 hx with hx | hx
        · exact h2 x hx
        · simp only [List.mem_singleton] at hx; subst hx; exact g1
      · refine Es.rz_append es [ys] xs us [] [] h4 ?_
        simp only [Es.rz]
        exact ⟨us, [], [], [], by simp, rfl, by rw [← Cs.rz_length _ _ _ g2]; exact hl, g2, rfl, rfl⟩
      · rw [List.getElem?_append] at hu
        split at hu
        · exact h5 j u hu
        · rename_i hj
          have := hcell _ u hu
          rw [add_add, h3, show k * sz + (j - k * sz) = j by omega] at this
          exact this
end
end Go.Vm

namespace Go.Vm
open Go Go.RowKit Go.ChangeShapes

section
variable {H : Type} {enc : TypeId × Value → H} {P : Program} {w w' : World} {sp : Nat → Bool} {ok : Nat → Prop}

theorem reads1 : ∀ (n t : Nat), plainT P n t = true → Reads1 enc P w n t := by
  intro n
  induction n with
  | zero => intro t h; simp [plainT] at h
  | succ n ih =>
    intro t hp fuel cs x hx
    simp only [plainT] at hp
    split at hp
    · rename_i hu
      obtain ⟨b, rfl, rfl⟩ := DataW.trod_bool hu hx
      refine ⟨⟨[.bool b], by simp only [shp, hu]; exact ⟨b, rfl⟩, by simp only [Cs.rz, C.rz]; exact ⟨_, [], [], [], rfl, rfl, ⟨rfl, rfl⟩, rfl, rfl⟩⟩, fun w' sp h => ?_⟩
      cases fuel with
      | zero => simp [DataW.trod] at hx
      | succ m => unfold DataW.trod; rw [hu]
    · rename_i k hu
      obtain ⟨m, rfl, rfl, hw⟩ := DataW.trod_int hu hx
      refine ⟨⟨[.int k m], by simp only [shp, hu]; exact ⟨m, rfl, hw⟩, by simp only [Cs.rz, C.rz]; exact ⟨_, [], [], [], rfl, rfl, ⟨rfl, rfl⟩, rfl, rfl⟩⟩, fun w' sp h => ?_⟩
      cases fuel with
      | zero => simp [DataW.trod] at hx
      | succ m => unfold DataW.trod; rw [hu]; simp [hw]
    · rename_i e hu
      simp only [Bool.and_eq_true, decide_eq_true_eq] at hp
      obtain ⟨hsz, hpe⟩ := hp
      have hre := ih e hpe
      have hx0 := hx
      rcases DataW.trod_slice hu hx with ⟨rfl, rfl⟩ | ⟨a, len, cap, elems, rest, m, rfl, rfl, rfl, hb, hl, hm, hlen, hel, hsp, _⟩
      · refine ⟨⟨[.sl none (P.cellsOf e) []], by simp only [shp, hu]; exact ⟨[], rfl, Nat.zero_le _, by simp⟩, ?_⟩, fun w' sp h => ?_⟩
        · simp only [Cs.rz, C.rz]
          exact ⟨_, [], [], [], rfl, rfl, ⟨rfl, none, 0, [], rfl, Nat.le_refl _, Nat.zero_le _, ⟨fun _ => rfl, trivial⟩, by simp, by simp [Es.rz]⟩, rfl, rfl⟩
        · cases fuel with
          | zero => simp [DataW.trod] at hx
          | succ m => unfold DataW.trod; rw [hu]; rfl
      · have hsp := hsp rfl
        have heach : ∀ i, i < cap → ∃ y, (w.cells? 0 (a.add (i * P.cellsOf e)) (P.cellsOf e)).bind (DataW.trod enc P w 0 (fun _ => true) true m e) = some y := by
          intro i hi
          by_cases hil : i < len
          · rw [hel i hil, List.getElem?_eq_getElem (by omega)]; exact ⟨_, rfl⟩
          · have := hsp.2 (i - len) (by omega)
            rw [show len + (i - len) = i by omega] at this
            rw [this, List.getElem?_eq_getElem (by omega)]; exact ⟨_, rfl⟩
        obtain ⟨es, xs, h1, h2, h3, h4, h5⟩ := reads_elems (sz := P.cellsOf e) rfl hre len (fun i hi => heach i (by omega))
        refine ⟨⟨[.sl none (P.cellsOf e) es], by simp only [shp, hu]; exact ⟨es, rfl, by omega, h2⟩, ?_⟩, fun w' sp h => ?_⟩
        · simp only [Cs.rz, C.rz]
          refine ⟨_, [], [], [], rfl, rfl, ⟨rfl, some a, cap, xs, by rw [h1], by omega, by omega, ⟨(by simp), trivial⟩, fun hne => ?_, h4⟩, rfl, rfl⟩
          have hpos : 0 < len := by
            rcases Nat.eq_zero_or_pos len with h0 | h0
            · exact absurd (List.eq_nil_of_length_eq_zero (h1.trans h0)) hne
            · exact h0
          have hxpos : 0 < xs.length := by rw [h3]; exact Nat.mul_pos hpos hsz
          have h0 := h5 0 _ (List.getElem?_eq_getElem hxpos)
          have ha0 : a.add 0 = a := by simp [Addr.add]
          rw [ha0] at h0
          obtain ⟨hbk, hspot⟩ := cell_blk h0
          refine ⟨a.block, a.off, by rw [← addr_of_spot hspot], hbk, fun i u hu => ?_⟩
          have := h5 i u hu
          rw [addr_of_spot hspot, add_plain] at this
          exact this
        · -- it reads alike
          have hblk : 0 < cap → a.block < w.heap.size := by
            intro hc
            obtain ⟨y, hy⟩ := heach 0 hc
            cases hcc : w.cells? 0 (a.add (0 * P.cellsOf e)) (P.cellsOf e) with
            | none => rw [hcc] at hy; simp at hy
            | some us =>
              have hlt := World.cells?_block hcc hsz
              rwa [add_block] at hlt
          have hsame : ∀ i, i < cap → (w'.cells? 0 (a.add (i * P.cellsOf e)) (P.cellsOf e)).bind (DataW.trod enc P w' 0 sp true m e) = (w.cells? 0 (a.add (i * P.cellsOf e)) (P.cellsOf e)).bind (DataW.trod enc P w 0 (fun _ => true) true m e) := by
            intro i hi
            rw [cells_move (w' := w') (w := w) (a := a.add (i * P.cellsOf e)) (n := P.cellsOf e) (by rw [add_block]; exact (h _ (hblk (by omega))).1)]
            obtain ⟨y, hy⟩ := heach i hi
            cases hcc : w.cells? 0 (a.add (i * P.cellsOf e)) (P.cellsOf e) with
            | none => simp [hcc] at hy
            | some us =>
              simp only [hcc, Option.bind_some] at hy ⊢
              rw [hy]
              exact (hre _ _ _ hy).2 w' sp h
          unfold DataW.trod at hx0 ⊢
          rw [hu] at hx0 ⊢
          simp only [] at hx0 ⊢
          rw [← hx0]
          have e1 : (List.range len).mapM (fun i => (w'.cells? 0 (a.add (i * P.cellsOf e)) (P.cellsOf e)).bind (DataW.trod enc P w' 0 sp true m e)) = (List.range len).mapM (fun i => (w.cells? 0 (a.add (i * P.cellsOf e)) (P.cellsOf e)).bind (DataW.trod enc P w 0 (fun _ => true) true m e)) :=
            mapM_congr fun i hi => hsame i (by have := List.mem_range.1 hi; omega)
          have e2 : (if sp a.block = true then (List.range (cap - len)).mapM fun j => (w'.cells? 0 (a.add ((len + j) * P.cellsOf e)) (P.cellsOf e)).bind (DataW.trod enc P w' 0 sp true m e) else some []) =
              (List.range (cap - len)).mapM fun j => (w.cells? 0 (a.add ((len + j) * P.cellsOf e)) (P.cellsOf e)).bind (DataW.trod enc P w 0 (fun _ => true) true m e) := by
            rcases Nat.eq_zero_or_pos (cap - len) with h0 | h0
            · rw [h0]; simp
            · rw [if_pos (h _ (hblk (by omega))).2]
              exact mapM_congr fun j hj => hsame (len + j) (by have := List.mem_range.1 hj; omega)
          rw [e1, e2]
          simp only [if_true]
    · rename_i fs hu
      simp only [Bool.and_eq_true, beq_iff_eq] at hp
      obtain ⟨hlay, hpf⟩ := hp
      have hpf' : ∀ f ∈ fs.toList, plainT P n f.type = true := fun f hf => List.all_eq_true.1 hpf f hf
      have hx0 := hx
      obtain ⟨ys, m, rfl, rfl, hlen, hyl, hf⟩ := DataW.trod_struct hu hx
      have hfm : ∀ f ∈ fs.toList, ∃ y, DataW.trod enc P w 0 (fun _ => true) true m f.type ((cs.drop f.offset).take (P.cellsOf f.type)) = some y := by
        intro f hmem
        obtain ⟨i, hi⟩ := List.mem_iff_getElem?.1 hmem
        have hlt : i < ys.length := by rw [hyl]; exact (Array.getElem?_eq_some_iff.1 (by simpa using hi : fs[i]? = some f)).1
        exact ⟨_, by rw [hf i f (by simpa using hi), List.getElem?_eq_getElem hlt]⟩
      refine ⟨?_, fun w' sp h => ?_⟩
      · obtain ⟨zs, g1, g2⟩ := reads_fields (fuel := m) ih fs.toList 0 (by rw [hlay, hlen]) hpf' hfm
        refine ⟨zs, by simp only [shp, hu]; exact g1, by simpa using g2⟩
      · unfold DataW.trod at hx0 ⊢
        rw [hu] at hx0 ⊢
        simp only [] at hx0 ⊢
        rw [← hx0]
        have : (fs.toList.mapM fun f => DataW.trod enc P w' 0 sp true m f.type ((cs.drop f.offset).take (P.cellsOf f.type))) = fs.toList.mapM fun f => DataW.trod enc P w 0 (fun _ => true) true m f.type ((cs.drop f.offset).take (P.cellsOf f.type)) := by
          refine mapM_congr fun f hmem => ?_
          obtain ⟨y, hy⟩ := hfm f hmem
          rw [hy]
          exact (ih _ (hpf' f hmem) _ _ _ hy).2 w' sp h
        rw [this]
    · cases hp
end
end Go.Vm

namespace Go.Vm
open Go Go.RowKit Go.ChangeShapes Go.WideShapes Go.ChangeAt

def isAggT (P : Program) (t : Nat) : Bool := match P.underlying t with
  | some (.struct _) => true
  | _ => false
/-- The arguments that a statement can get. -/
def shpA (P : Program) (n : Nat) : List Nat → List Arg → Prop
  | [], gs => gs = []
  | t :: ts, gs => ∃ ys gs', gs = .d (isAggT P t, ys) :: gs' ∧ shp P n t ys ∧ shpA P n ts gs'

section
variable {H : Type} {enc : TypeId × Value → H} {P : Program} {W : World}
theorem arg_read {n t : Nat} {v : Value} {d : DataW H} {p : List MemPlace} (hp : plainT P n t = true) (hv : Value.okWide P W .any 0 t v) (h : DataW.Trod enc P W 0 (fun _ => true) true t v d p) :
    (∃ ys, shp P n t ys ∧ (Arg.d (isAggT P t, ys)).rz P W (fun b => b < W.heap.size) v) ∧
    ∀ (w' : World) (sp : Nat → Bool), (∀ b, b < W.heap.size → w'.heap[b]? = W.heap[b]? ∧ sp b = true) → DataW.Trod enc P w' 0 sp true t v d p := by
  obtain ⟨fuel, hx⟩ := h
  obtain ⟨⟨ys, h1, h2⟩, h3⟩ := reads1 n t hp _ _ _ hx
  refine ⟨⟨ys, h1, v.cells.toList, h2, ?_⟩, fun w' sp h => ⟨fuel, h3 w' sp h⟩⟩
  cases n with
  | zero => simp [plainT] at hp
  | succ n =>
    simp only [plainT] at hp
    split at hp
    · rename_i hu
      obtain ⟨b, rfl⟩ := okWide_bool hu hv
      simp [isAggT, hu, Value.cells]
    · rename_i k hu
      obtain ⟨b, rfl⟩ := okWide_int hu hv
      simp [isAggT, hu, Value.cells]
    · rename_i e hu
      obtain ⟨a, l, c, rfl⟩ := okWide_slice hu hv
      simp [isAggT, hu, Value.cells]
    · rename_i fs hu
      obtain ⟨cs, rfl, _⟩ := okWide_struct hu hv
      simp [isAggT, hu, Value.cells]
    · cases hp
theorem args_read {n : Nat} : ∀ {ts : List Nat} {vs : List Value} {ds : List (DataW H)} {p : List MemPlace}, ts.all (plainT P n) = true → (∀ (j : Nat) t v, ts[j]? = some t → vs[j]? = some v → Value.okWide P W .any 0 t v) →
    DataW.TrodAll enc P W 0 (fun _ => true) true ts vs ds p →
    (∃ gs, shpA P n ts gs ∧ Args.rz P W (fun b => b < W.heap.size) gs vs) ∧
    ∀ (w' : World) (sp : Nat → Bool), (∀ b, b < W.heap.size → w'.heap[b]? = W.heap[b]? ∧ sp b = true) → DataW.TrodAll enc P w' 0 sp true ts vs ds p
  | [], [], [], p, _, _, h => ⟨⟨[], rfl, rfl⟩, fun _ _ _ => h⟩
  | t :: ts, v :: vs, d :: ds, p, hp, hv, ⟨p1, p2, h1, h2, hpp⟩ => by
    simp only [List.all_cons, Bool.and_eq_true] at hp
    obtain ⟨⟨ys, g1, g2⟩, g3⟩ := arg_read hp.1 (hv 0 t v rfl rfl) h1
    obtain ⟨⟨gs, g4, g5⟩, g6⟩ := args_read hp.2 (fun j t v h h' => hv (j + 1) t v (by simpa using h) (by simpa using h')) h2
    exact ⟨⟨_, ⟨ys, gs, rfl, g1, g4⟩, v, vs, rfl, g2, g5⟩, fun w' sp h => ⟨p1, p2, g3 w' sp h, g6 w' sp h, hpp⟩⟩
  | [], _ :: _, _, _, _, _, h => h.elim
  | [], [], _ :: _, _, _, _, h => h.elim
  | _ :: _, [], _, _, _, _, h => h.elim
  | _ :: _, _ :: _, [], _, _, _, h => h.elim

theorem trods_length {w : World} {base : Nat} {sp : Nat → Bool} {held : Bool} : ∀ {ts : List TypeId} {vs : List Value} {ds : List (DataW H)} {ps : List MemPlace}, DataW.TrodAll enc P w base sp held ts vs ds ps → ds.length = ts.length
  | [], [], [], _, _ => rfl
  | _ :: _, _ :: _, _ :: _, _, ⟨_, _, _, h, _⟩ => by simp [trods_length h]
  | [], _ :: _, _, _, h => h.elim
  | [], [], _ :: _, _, h => h.elim
  | _ :: _, [], _, _, h => h.elim
  | _ :: _, _ :: _, [], _, h => h.elim
theorem row_true {a : Assume} {C : Checked} {os : Os} {f : FuncId} {fn : Func} {s : ChangeSpec} {conds : List PathCond} {tb : Nat}
    (own : ownKnob C.prog.godebug = none) (started : os.Started) (noInit : C.prog.inits.idxOf? f = none) (hfn : C.prog.funcs[f]? = some fn)
    (witness : ∃ (w : World) (tape : Tape) (i : Input), w.os = os ∧ (w.forCall tape i).Shaped C.prog ∧ i.vars = [] ∧ Input.okWide C.prog (w.forCall tape i) .any w.heap.size f i ∧
      s.pre6 enc C.prog fn conds false (w.forCall tape i).memory i.args ∧ a.holds C.prog (lone (Frame.enter C.prog f i.args .normal) [] (w.forCall tape i)))
    (n : Nat) (hplain : fn.params.toList.all (plainT C.prog n) = true) (hvars : s.vars = []) (hres : fn.resultTypes = #[tb]) (htb : C.prog.underlying tb = some .bool)
    (hs : ∀ ds : List (DataW H), ds.length = fn.params.size → (s.fn H ds).results = [.lit (.bool true)] ∧ (s.fn H ds).args = ds ∧ (s.fn H ds).vars = [])
    (hsat : ∀ gs, shpA C.prog n fn.params.toList gs → Sat C.prog f gs true [(false, [.bool true])]) :
    ReturnsInHanded a C os f .any (s.pre6 enc C.prog fn conds false) (s.post enc C.prog fn false true false false) := by
  refine returnsInHanded_of_change_sized (C := C) own started noInit hfn witness ?_
  intro W base args ds gs before hval0 hW hcnd hsz0 _
  have hW' := hW
  obtain ⟨p, q, hA, hV, rfl, hfz, hnd⟩ := hW
  rw [hvars] at hV
  obtain ⟨rfl, rfl⟩ := trodVars_none hV
  have hlen := trods_length hA
  obtain ⟨⟨gs, g1, g2⟩, g3⟩ := args_read (n := n) hplain (fun j t v h h' => Value.okWide_any_base (hval0 j t v (by simpa using h) (by simpa using h'))) hA
  have hcall := (hsat gs g1).2 W (fun b => b < W.heap.size) args.toList (fun b h => h) g2
  rw [show args.toList.toArray = args by simp] at hcall
  refine hcall.mono fun e W' ⟨bel, v, he, vs, fp, hv, hd, _⟩ => ?_
  obtain ⟨h1, h2, h3⟩ := hs (ds ++ []) (by simpa using hlen)
  have hvb : v = .bool true := by
    simp only [Dats.rz] at hd
    obtain ⟨u, us, f1, f2, rfl, rfl, ⟨ws, hw, hws⟩, rfl, rfl⟩ := hd
    simp only [Bool.false_eq_true, if_false] at hws
    subst hws
    simp only [Cs.rz] at hw
    obtain ⟨u', us', f1', f2', he2, _, h4, _⟩ := hw
    simp only [List.cons.injEq] at he2
    obtain ⟨rfl, _⟩ := he2
    simp only [Vm.C.rz] at h4
    rw [hv]; exact h4.1
  subst hvb
  refine ⟨_, he, ds, [], _, [], p, [], hW', ?_, ?_, ?_, bel.below.frame _, fun h => by cases h⟩
  · rw [h1, hres]
    exact trodAll_mk1 (shut_bool htb _)
  · rw [h2]
    simp only [List.append_nil]
    exact g3 W' _ fun b hb => ⟨bel.block b hb, by simp [hb]⟩
  · rw [h3, hvars]
    exact rfl
end
end Go.Vm

namespace Go.Vm
open Go Go.RowKit Go.IntWalk

section
variable {α β : Type}
theorem getD_lt {xs : List α} {k : Nat} {d : α} (h : k < xs.length) : xs.getD k d = xs[k] := by simp [List.getD_eq_getElem?_getD, List.getElem?_eq_getElem h]
theorem getD_mem {xs : List α} {k : Nat} {d : α} (h : k < xs.length) : xs.getD k d ∈ xs := by rw [getD_lt h]; exact List.getElem_mem h
theorem take_step {xs : List α} {k : Nat} {d : α} (h : k < xs.length) : xs.take (k + 1) = xs.take k ++ [xs.getD k d] := by
  rw [List.take_succ_eq_append_getElem h, getD_lt h]
theorem all_step {p : α → Bool} {xs : List α} {k : Nat} {d : α} (h : k < xs.length) (h1 : (xs.take k).all p = true) (h2 : p (xs.getD k d) = true) : (xs.take (k + 1)).all p = true := by
  rw [take_step (d := d) h]; simp only [List.all_append, h1, h2, List.all_cons, List.all_nil, Bool.and_true]
theorem all_done {p : α → Bool} {xs : List α} {k : Nat} (h : xs.length ≤ k) (h1 : (xs.take k).all p = true) : xs.all p = true := by
  rwa [List.take_of_length_le h] at h1
theorem all_not {p : α → Bool} {xs : List α} {k : Nat} {d : α} (h : k < xs.length) (h2 : p (xs.getD k d) = false) : xs.all p = false := by
  rw [← Bool.not_eq_true]
  intro ha
  rw [List.all_eq_true] at ha
  rw [ha _ (getD_mem h)] at h2; cases h2
theorem any_step {p : α → Bool} {xs : List α} {k : Nat} {d : α} (h : k < xs.length) (h1 : (xs.take k).any p = false) (h2 : p (xs.getD k d) = false) : (xs.take (k + 1)).any p = false := by
  rw [take_step (d := d) h]; simp only [List.any_append, h1, h2, List.any_cons, List.any_nil, Bool.or_false]
theorem any_done {p : α → Bool} {xs : List α} {k : Nat} (h : xs.length ≤ k) (h1 : (xs.take k).any p = false) : xs.any p = false := by
  rwa [List.take_of_length_le h] at h1
theorem any_yes {p : α → Bool} {xs : List α} {k : Nat} {d : α} (h : k < xs.length) (h2 : p (xs.getD k d) = true) : xs.any p = true :=
  List.any_eq_true.2 ⟨_, getD_mem h, h2⟩
theorem eq_step {xs ys : List α} {k : Nat} {d e : α} (h : k < xs.length) (h' : k < ys.length) (h1 : xs.take k = ys.take k) (h2 : xs.getD k d = ys.getD k e) : xs.take (k + 1) = ys.take (k + 1) := by
  rw [take_step (d := d) h, take_step (d := e) h', h1, h2]
theorem eq_done {xs ys : List α} {k : Nat} (h : xs.length ≤ k) (h' : ys.length ≤ k) (h1 : xs.take k = ys.take k) : xs = ys := by
  rwa [List.take_of_length_le h, List.take_of_length_le h'] at h1
theorem eq_not {xs ys : List α} {k : Nat} {d : α} (h2 : xs.getD k d ≠ ys.getD k d) : xs ≠ ys := by
  rintro rfl; exact h2 rfl
theorem findIdx_here {p : α → Bool} {xs : List α} {k : Nat} {d : α} (h : k < xs.length) (h1 : (xs.take k).any p = false) (h2 : p (xs.getD k d) = true) : xs.findIdx p = k := by
  rw [List.findIdx_eq h]
  rw [getD_lt h] at h2
  refine ⟨h2, fun j hj => ?_⟩
  rw [← Bool.not_eq_true]
  intro hp
  have hm : xs[j] ∈ xs.take k := by rw [List.mem_take_iff_getElem]; exact ⟨j, by omega, rfl⟩
  have := List.any_eq_true.2 ⟨xs[j], hm, hp⟩
  rw [h1] at this; cases this
theorem map_of {f : α → β} {q : α → Prop} : ∀ {es : List β}, (∀ x ∈ es, ∃ a, x = f a ∧ q a) → ∃ xs : List α, es = xs.map f ∧ ∀ a ∈ xs, q a
  | [], _ => ⟨[], rfl, by simp⟩
  | e :: es, h => by
    obtain ⟨a, rfl, h1⟩ := h e (by simp)
    obtain ⟨xs, rfl, h2⟩ := map_of (es := es) fun x hx => h x (by simp [hx])
    exact ⟨a :: xs, rfl, by simpa using ⟨h1, h2⟩⟩
/-- Half filled: the first k are xs's. -/
def mix (xs : List α) (z : α) (k : Nat) : List α := xs.take k ++ List.replicate (xs.length - k) z
theorem mix_length {xs : List α} {z : α} {k : Nat} (h : k ≤ xs.length) : (mix xs z k).length = xs.length := by simp [mix]; omega
theorem mix_zero {xs : List α} {z : α} : mix xs z 0 = List.replicate xs.length z := by simp [mix]
theorem mix_full {xs : List α} {z : α} {k : Nat} (h : xs.length ≤ k) : mix xs z k = xs := by simp [mix, List.take_of_length_le h, show xs.length - k = 0 by omega]
theorem mix_set {xs : List α} {z d : α} {k : Nat} (h : k < xs.length) : (mix xs z k).set k (xs.getD k d) = mix xs z (k + 1) := by
  unfold mix
  rw [take_step (d := d) h, List.set_append, if_neg (by simp; omega)]
  rw [show xs.length - k = (xs.length - (k + 1)) + 1 by omega, List.replicate_succ, List.length_take, show k - min k xs.length = 0 by omega]
  simp
theorem mix_set_map {f : α → β} {xs : List α} {z d : α} {k : Nat} (h : k < xs.length) : ((mix xs z k).map f).set k (f (xs.getD k d)) = (mix xs z (k + 1)).map f := by
  rw [← mix_set (z := z) (d := d) h, List.map_set]
theorem wrap_nat {k n : Nat} (h : k < n) (hn : n ≤ maxLen) : IntKind.i64.wrap ((k : Int) + 1) = ((k + 1 : Nat) : Int) := by
  have : maxLen = 9223372036854775807 := rfl
  rw [i64_in] <;> omega
theorem wrap_succ {k n : Nat} (h : k < n) (hn : n ≤ 1048576) : IntKind.i64.wrap ((k : Int) + 1) = ((k + 1 : Nat) : Int) := by
  rw [i64_in] <;> omega
end
/-- All below n. -/
def allLt (n : Nat) (p : Nat → Bool) : Bool := (List.range n).all p
theorem allLt_iff {n : Nat} {p : Nat → Bool} : allLt n p = true ↔ ∀ j, j < n → p j = true := by simp [allLt]
theorem allLt_step {k : Nat} {p : Nat → Bool} (h1 : allLt k p = true) (h2 : p k = true) : allLt (k + 1) p = true := by
  rw [allLt_iff] at *
  intro j hj
  rcases Nat.lt_succ_iff_lt_or_eq.1 hj with h | rfl
  · exact h1 j h
  · exact h2
theorem allLt_not {n k : Nat} {p : Nat → Bool} (h : k < n) (h2 : p k = false) : allLt n p = false := by
  rw [← Bool.not_eq_true, allLt_iff]
  intro ha
  rw [ha k h] at h2; cases h2
theorem allLt_done {n k : Nat} {p : Nat → Bool} (h : n ≤ k) (h1 : allLt k p = true) : allLt n p = true := by
  rw [allLt_iff] at *
  exact fun j hj => h1 j (by omega)
theorem allLt_zero {p : Nat → Bool} : allLt 0 p = true := rfl
/-- Numbers, as cells. -/
def eI (n : Int) : List C := [.int .i64 n]
@[go_sem] theorem eI_eq (n : Int) : eI n = [.int .i64 n] := rfl
@[go_sem] theorem strip_eI (xs : List Int) : Es.strip (xs.map eI) = xs.map eI := by rw [Es.strip_map]; simp [eI, Cs.strip, C.strip]
@[go_sem] theorem scal_eI (xs : List Int) : Es.scal (xs.map eI) := by simp [Es.scal, eI, C.scal]
@[go_sem] theorem bnd_eI (xs : List Int) : Es.bnd (xs.map eI) := by simp [Es.bnd_map, eI, Cs.bnd, C.bnd]
@[go_sem] theorem stripC_eI (n : Int) : Cs.strip [C.int .i64 n] = [.int .i64 n] := rfl
/-- A number that int64 holds. -/
def I64 (n : Int) : Prop := -9223372036854775808 ≤ n ∧ n ≤ 9223372036854775807
theorem wf_i64 {n : Int} (h : (Lit.int .i64 n).wf = true) : I64 n := by
  simp [Lit.wf, IntKind.has, IntKind.min, IntKind.max, IntKind.signed, IntKind.bits] at h
  exact h
section
variable {P : Program} {n t e : Nat} {cs : List C}
theorem shp_i64 (ht : P.underlying t = some (.int .i64)) (h : shp P (n + 1) t cs) : ∃ m, cs = [.int .i64 m] ∧ I64 m := by
  simp only [shp, ht] at h
  obtain ⟨m, h1, h2⟩ := h
  exact ⟨m, h1, wf_i64 h2⟩
theorem shp_bool (ht : P.underlying t = some .bool) (h : shp P (n + 1) t cs) : ∃ b, cs = [.bool b] := by
  simp only [shp, ht] at h
  exact h
theorem shp_rows {α : Type} {f : α → List C} {q : α → Prop} {sz : Nat} (ht : P.underlying t = some (.slice e)) (hz : P.cellsOf e = sz) (hf : ∀ x, shp P n e x → ∃ a, x = f a ∧ q a) (h : shp P (n + 1) t cs) :
    ∃ xs : List α, cs = [.sl none sz (xs.map f)] ∧ xs.length ≤ maxLen ∧ ∀ a ∈ xs, q a := by
  simp only [shp, ht] at h
  obtain ⟨es, rfl, h1, h2⟩ := h
  obtain ⟨xs, rfl, h3⟩ := map_of fun x hx => hf x (h2 x hx)
  exact ⟨xs, by rw [hz], by simpa using h1, h3⟩
theorem shp_ints (ht : P.underlying t = some (.slice e)) (he : P.underlying e = some (.int .i64)) (hz : P.cellsOf e = 1) (h : shp P (n + 2) t cs) : ∃ xs : List Int, cs = [.sl none 1 (xs.map eI)] ∧ xs.length ≤ maxLen ∧ ∀ a ∈ xs, I64 a :=
  shp_rows ht hz (fun x hx => shp_i64 he hx) h
def fieldTs : TypeDesc → Option (List Nat)
  | .struct fs => some (fs.toList.map (·.type))
  | _ => none
def shpL (P : Program) (n : Nat) : List Nat → List C → Prop
  | [], cs => cs = []
  | t :: ts, cs => ∃ a b, cs = a ++ b ∧ shp P n t a ∧ shpL P n ts b
theorem shpF_T : ∀ {fs : List Field} {cs : List C}, shpF (shp P n) fs cs → shpL P n (fs.map (·.type)) cs
  | [], cs, h => h
  | f :: fs, cs, h => let ⟨a, b, h1, h2, h3⟩ := h; ⟨a, b, h1, h2, shpF_T h3⟩
theorem shp_struct {ts : List Nat} (ht : (P.underlying t).bind fieldTs = some ts) (h : shp P (n + 1) t cs) : shpL P n ts cs := by
  cases hu : P.underlying t with
  | none => simp [hu] at ht
  | some d =>
    cases d <;> simp [hu, fieldTs] at ht
    rename_i fs
    simp only [shp, hu] at h
    rw [← ht]
    exact shpF_T h
end
end Go.Vm
