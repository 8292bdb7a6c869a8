/- The abstract walk, third part: regions in any order, loops, and a function's contract out of a walk. No condition. -/
import Derived.Test.YtegohioalgikjaaVb
import Derived.Scope
import Derived.LoopN
import Derived.Attr
set_option linter.unusedVariables false
set_option linter.unusedSimpArgs false
set_option linter.unusedSectionVars false
namespace Go.Vm
open Go Go.RowKit

/-! ### one step of a region, with its guard -/
def StepG (fr : Fr) (ops : Array Oper) (o : Oper) (st : St) (e : Eff) : Prop :=
  ∀ (Q : Exit → Act → World → Prop) (st' : St) (a : Act) (W : World) (K : Act → World → Prop), (∀ t, t ∈ o.looksAt ops → st'.s t = st.s t) →
    (∀ κ, (κ ∈ e.supp ∨ (lk κ e.mods).isSome = true) → st'.h κ = st.h κ) → RelE fr st' a W →
    (∀ v W', RelE fr (app st' o.dst e) (a.put o.dst v) W' → K (a.put o.dst v) W') →
    (if Region.wanted o (yielded ops a.tmps) then o.wp fr.P a W K Q else K (a.put o.dst undef) W)

def gslot (ops : Array Oper) (o : Oper) : Option Nat := match o.guard with
  | some (g, _) => (ops[g]?).bind (·.dst)
  | none => none

section
variable {fr : Fr} {st st' : St} {a : Act} {W W' : World} {ops : Array Oper} {o : Oper} {e : Eff}

theorem looks_ops {t : Nat} (h : t ∈ opTmps o.op) : t ∈ o.looksAt ops := List.mem_append_left _ h

theorem yielded_bool {ν : Nat → Value} {F : Nat → List Nat} {g d : Nat} {b : Bool} (hr : Rel fr st a W ν F) (hd : (ops[g]?).bind (·.dst) = some d) (hs : st.s d = .c (.bool b)) (hn : d < fr.N) : yielded ops a.tmps g = some b := by
  have h := hr.slots d
  rw [hs] at h
  have := rz_bool h
  have hd' : d < a.tmps.size := by rw [hr.size]; exact hn
  rw [Array.getD_eq_getD_getElem?, Array.getElem?_eq_getElem hd'] at this
  simp only [Option.getD_some] at this
  simp [yielded, hd, Array.getElem?_eq_getElem hd', this]
theorem yielded_skip {ν : Nat → Value} {F : Nat → List Nat} {g d : Nat} (hr : Rel fr st a W ν F) (hd : (ops[g]?).bind (·.dst) = some d) (hs : st.s d = .tup []) (hn : d < fr.N) : yielded ops a.tmps g = none := by
  have h := hr.slots d
  rw [hs] at h
  simp only [T.rz, Ts.rz] at h
  obtain ⟨us, h, rfl⟩ := h
  have hd' : d < a.tmps.size := by rw [hr.size]; exact hn
  rw [Array.getD_eq_getD_getElem?, Array.getElem?_eq_getElem hd'] at h
  simp only [Option.getD_some] at h
  simp [yielded, hd, Array.getElem?_eq_getElem hd', h]

theorem stepG_free (hg : o.guard = none) (h : StepO fr o st e) : StepG fr ops o st e := by
  intro Q st' a W K h1 h2 hr hK
  rw [if_pos (by simp [Region.wanted, hg])]
  exact h Q st' a W K (fun t ht => h1 t (looks_ops ht)) h2 hr hK
theorem stepG_run {g d : Nat} {want : Bool} (hg : o.guard = some (g, want)) (hd : (ops[g]?).bind (·.dst) = some d) (hs : st.s d = .c (.bool want)) (hn : d < fr.N) (h : StepO fr o st e) : StepG fr ops o st e := by
  intro Q st' a W K h1 h2 hr hK
  obtain ⟨ν, F, hr'⟩ := hr
  have hs' : st'.s d = .c (.bool want) := by rw [h1 d (List.mem_append_right _ (by simp [hg, hd]))]; exact hs
  rw [if_pos (by simp [Region.wanted, hg, yielded_bool hr' hd hs' hn])]
  exact h Q st' a W K (fun t ht => h1 t (looks_ops ht)) h2 ⟨ν, F, hr'⟩ hK
theorem stepG_skip {g d : Nat} {want : Bool} (hg : o.guard = some (g, want)) (hd : (ops[g]?).bind (·.dst) = some d) (hs : st.s d = .c (.bool (!want)) ∨ st.s d = .tup []) (hn : d < fr.N) (hdst : ∀ d, o.dst = some d → d < fr.N) :
    StepG fr ops o st ⟨.tup [], [], []⟩ := by
  intro Q st' a W K h1 h2 hr hK
  obtain ⟨ν, F, hr'⟩ := hr
  have h1' := h1 d (List.mem_append_right _ (by simp [hg, hd]))
  have hw : Region.wanted o (yielded ops a.tmps) = false := by
    rcases hs with hs | hs
    · rw [← h1'] at hs
      simp only [Region.wanted, hg, yielded_bool hr' hd hs hn]
      cases want <;> rfl
    · rw [← h1'] at hs
      simp only [Region.wanted, hg, yielded_skip hr' hd hs hn]
      rfl
  rw [if_neg (by simp [hw])]
  refine hK undef W (hr'.pure ?_ hdst)
  simp [T.rz, Ts.rz, undef]

/-! ### in the text's order -/
inductive Chain (fr : Fr) (ops : Array Oper) : List Oper → List Eff → St → St → Prop
  | nil {st : St} : Chain fr ops [] [] st st
  | cons {o : Oper} {os : List Oper} {e : Eff} {es : List Eff} {st st' : St} : StepG fr ops o st e → Chain fr ops os es (app st o.dst e) st' → Chain fr ops (o :: os) (e :: es) st st'

theorem Chain.wpOps {Q : Exit → Act → World → Prop} : ∀ {os : List Oper} {es : List Eff} {st st' : St} {k : Nat} {a : Act} {W : World}, Chain fr ops os es st st' → (∀ j, os[j]? = ops[k + j]?) → RelE fr st a W →
    (∀ a W, RelE fr st' a W → Q .normal a W) → Go.wpOps fr.P ops Q (List.range' k os.length) a W := by
  intro os
  induction os with
  | nil => intro es st st' k a W hc ho hr hK; cases hc; exact hK a W hr
  | cons o os ih =>
    intro es st st' k a W hc ho hr hK
    cases hc with
    | cons hg hc =>
    have h0 : ops[k]? = some o := by simpa using (ho 0).symm
    rw [List.length_cons, List.range'_succ, wpOps_cons, wpOp, h0]
    simp only []
    have := hg Q st a W (Go.wpOps fr.P ops Q (List.range' (k + 1) os.length)) (fun _ _ => rfl) (fun _ _ => rfl) hr
      (fun v W' hr' => ih hc (fun j => by have := ho (j + 1); simpa [Nat.add_assoc, Nat.add_comm 1 j] using this) hr' hK)
    by_cases hw : Region.wanted o (yielded ops a.tmps) = true
    · rw [if_pos hw] at this ⊢; exact .inl this
    · rw [if_neg hw] at this ⊢; exact this

/-! ### in any order -/
def keysE (e : Eff) : List Nat := e.mods.map (·.1)
theorem lk_isSome {κ : Nat} {m : List (Nat × Blk)} : (lk κ m).isSome = true ↔ κ ∈ m.map (·.1) := by
  induction m with
  | nil => simp [lk]
  | cons p m ih =>
    obtain ⟨k, b⟩ := p
    simp only [lk, List.map_cons, List.mem_cons]
    split
    · simp_all
    · rename_i h; simp [ih, h]

def fold (S : Nat → Bool) : Nat → List Oper → List Eff → St → St
  | i, o :: os, e :: es, st => fold S (i + 1) os es (if S i then app st o.dst e else st)
  | _, _, _, st => st

/-- st and st2 are alike at the slots X and the keys Y. -/
def Alike (X Y : List Nat) (st st2 : St) : Prop := (∀ t ∈ X, st.s t = st2.s t) ∧ (∀ κ ∈ Y, st.h κ = st2.h κ) ∧ st.g = st2.g
theorem Alike.both {X Y : List Nat} {st st2 : St} {d : Option Nat} {e : Eff} (h : Alike X Y st st2) : Alike X Y (app st d e) (app st2 d e) := by
  refine ⟨fun t ht => ?_, fun κ hκ => ?_, h.2.2⟩
  · cases d with
    | none => exact h.1 t ht
    | some d => simp only [Vm.app, upd]; split; rfl; exact h.1 t ht
  · simp only [Vm.app, mrg]; split; rfl; exact h.2.1 κ hκ
theorem Alike.skip {X Y : List Nat} {st st2 : St} {d : Option Nat} {e : Eff} (h : Alike X Y st st2) (hd : ∀ t, d = some t → t ∉ X) (hm : ∀ κ ∈ keysE e, κ ∉ Y) : Alike X Y (app st d e) st2 := by
  refine ⟨fun t ht => ?_, fun κ hκ => ?_, h.2.2⟩
  · cases d with
    | none => exact h.1 t ht
    | some d =>
      simp only [Vm.app, upd]; split
      · subst_vars; exact absurd ht (hd _ rfl)
      · exact h.1 t ht
  · simp only [Vm.app, mrg]; split
    · rename_i b hb; exact absurd hκ (hm κ (lk_isSome.1 (by simp [hb])))
    · exact h.2.1 κ hκ
theorem Alike.symm {X Y : List Nat} {st st2 : St} (h : Alike X Y st st2) : Alike X Y st2 st := ⟨fun t ht => (h.1 t ht).symm, fun t ht => (h.2.1 t ht).symm, h.2.2.symm⟩

/-- o's step touches none of these. -/
def Off (X Y : List Nat) (o : Oper) (e : Eff) : Prop := (∀ t, o.dst = some t → t ∉ X) ∧ ∀ κ ∈ keysE e, κ ∉ Y

theorem fold_alike {X Y : List Nat} {S S' : Nat → Bool} : ∀ {os : List Oper} {es : List Eff} {i : Nat} {st st2 : St},
    (∀ j o e, os[j]? = some o → es[j]? = some e → S (i + j) = S' (i + j) ∨ Off X Y o e) → Alike X Y st st2 → Alike X Y (fold S i os es st) (fold S' i os es st2) := by
  intro os
  induction os with
  | nil => intro es i st st2 h1 h2; exact h2
  | cons o os ih =>
    intro es i st st2 h1 h2
    cases es with
    | nil => exact h2
    | cons e es =>
      refine ih (fun j o' e' ho he => by have := h1 (j + 1) o' e' (by simpa using ho) (by simpa using he); simpa [Nat.add_assoc, Nat.add_comm 1 j] using this) ?_
      rcases h1 0 o e rfl rfl with h | ⟨h3, h4⟩
      · simp only [Nat.add_zero] at h; rw [h]; split
        · exact h2.both
        · exact h2
      · split <;> split
        · exact h2.both
        · exact h2.skip h3 h4
        · exact (h2.symm.skip h3 h4).symm
        · exact h2

theorem app_comm {st : St} {d d' : Option Nat} {e e' : Eff} (hd : ∀ t, d = some t → d' ≠ some t) (hm : ∀ κ ∈ keysE e, κ ∉ keysE e') : app (app st d e) d' e' = app (app st d' e') d e := by
  have h1 : upd (upd st.s d e.t) d' e'.t = upd (upd st.s d' e'.t) d e.t := by
    cases d with
    | none => rfl
    | some t => cases d' with
      | none => rfl
      | some t' =>
        have : t' ≠ t := fun h => hd t rfl (by rw [h])
        funext j
        simp only [upd]
        by_cases h1 : j = t' <;> by_cases h2 : j = t <;> simp_all
  have h2 : mrg (mrg st.h e.mods) e'.mods = mrg (mrg st.h e'.mods) e.mods := by
    funext κ
    simp only [mrg]
    cases h1 : lk κ e.mods with
    | none => rfl
    | some b => cases h2 : lk κ e'.mods with
      | none => rfl
      | some b' => exact absurd (lk_isSome.1 (by simp [h2])) (hm κ (lk_isSome.1 (by simp [h1])))
  simp only [app, h1, h2]

theorem fold_app {S : Nat → Bool} {d : Option Nat} {e : Eff} : ∀ {os : List Oper} {es : List Eff} {i : Nat} {st : St},
    (∀ j o e', os[j]? = some o → es[j]? = some e' → S (i + j) = false ∨ ((∀ t, o.dst = some t → d ≠ some t) ∧ ∀ κ ∈ keysE e', κ ∉ keysE e)) → app (fold S i os es st) d e = fold S i os es (app st d e) := by
  intro os
  induction os with
  | nil => intro es i st h; rfl
  | cons o os ih =>
    intro es i st h
    cases es with
    | nil => rfl
    | cons e' es =>
      simp only [fold]
      rw [ih fun j o' e'' ho he => by have := h (j + 1) o' e'' (by simpa using ho) (by simpa using he); simpa [Nat.add_assoc, Nat.add_comm 1 j] using this]
      congr 1
      rcases h 0 o e' rfl rfl with h0 | ⟨h0, h0'⟩
      · simp only [Nat.add_zero] at h0; simp [h0]
      · split
        · exact app_comm h0 h0'
        · rfl

theorem fold_congr {S S' : Nat → Bool} : ∀ {os : List Oper} {es : List Eff} {i : Nat} {st : St}, (∀ j, j < os.length → S (i + j) = S' (i + j)) → fold S i os es st = fold S' i os es st := by
  intro os
  induction os with
  | nil => intro es i st h; rfl
  | cons o os ih =>
    intro es i st h
    cases es with
    | nil => rfl
    | cons e' es =>
      simp only [fold]
      rw [show S i = S' i by simpa using h 0 (by simp)]
      exact ih fun j hj => by have := h (j + 1) (by simpa using hj); simpa [Nat.add_assoc, Nat.add_comm 1 j] using this
theorem fold_split {S : Nat → Bool} : ∀ {os os2 : List Oper} {es es2 : List Eff} {i : Nat} {st : St}, os.length = es.length → fold S i (os ++ os2) (es ++ es2) st = fold S (i + os.length) os2 es2 (fold S i os es st) := by
  intro os
  induction os with
  | nil => intro os2 es es2 i st h; cases es with
    | nil => rfl
    | cons => simp at h
  | cons o os ih =>
    intro os2 es es2 i st h
    cases es with
    | nil => simp at h
    | cons e es =>
      simp only [List.cons_append, fold, List.length_cons]
      rw [ih (by simpa using h), show i + 1 + os.length = i + (os.length + 1) by omega]

theorem Chain.length {os : List Oper} {es : List Eff} {st st' : St} (h : Chain fr ops os es st st') : os.length = es.length := by
  induction h with
  | nil => rfl
  | cons _ _ ih => simp [ih]
theorem Chain.fold {os : List Oper} {es : List Eff} {st st' : St} {S : Nat → Bool} {i : Nat} (h : Chain fr ops os es st st') (hS : ∀ j, j < os.length → S (i + j) = true) : fold S i os es st = st' := by
  induction h generalizing i with
  | nil => rfl
  | cons _ _ ih =>
    simp only [Vm.fold]
    rw [if_pos (by simpa using hS 0 (by simp))]
    exact ih fun j hj => by have := hS (j + 1) (by simpa using hj); simpa [Nat.add_assoc, Nat.add_comm 1 j] using this
theorem Chain.at {os : List Oper} {es : List Eff} {st st' : St} (h : Chain fr ops os es st st') : ∀ i o, os[i]? = some o → ∃ e, es[i]? = some e ∧ StepG fr ops o (Vm.fold (fun j => decide (j < i)) 0 os es st) e := by
  have gen : ∀ {os : List Oper} {es : List Eff} {st st' : St}, Chain fr ops os es st st' → ∀ k i o, os[i]? = some o → ∃ e, es[i]? = some e ∧ StepG fr ops o (Vm.fold (fun j => decide (j < k + i)) k os es st) e := by
    intro os es st st' h
    have off : ∀ (os : List Oper) (es : List Eff) (k n : Nat) (st : St), n ≤ k → Vm.fold (fun j => decide (j < n)) k os es st = st := by
      intro os
      induction os with
      | nil => intros; rfl
      | cons o os ih =>
        intro es k n st hn
        cases es with
        | nil => rfl
        | cons e es =>
          simp only [Vm.fold]
          rw [if_neg (by simp; omega)]
          exact ih es (k + 1) n st (by omega)
    induction h with
    | nil => intro k i o ho; simp at ho
    | @cons o os e es st st' hg hc ih =>
      intro k i o' ho
      cases i with
      | zero =>
        obtain rfl : o = o' := by simpa using ho
        refine ⟨e, rfl, ?_⟩
        simp only [Vm.fold]
        rw [if_neg (by simp), off _ _ _ _ _ (by omega)]
        exact hg
      | succ i =>
        obtain ⟨e', h1, h2⟩ := ih (k + 1) i o' (by simpa using ho)
        refine ⟨e', by simpa using h1, ?_⟩
        simp only [Vm.fold]
        rw [if_pos (by simp)]
        simpa [Nat.add_assoc, Nat.add_comm 1 i] using h2
  intro i o ho
  simpa using gen h 0 i o ho

/-- What must come before: the numbers of an operation's ancestors. -/
inductive Anc (ops : Array Oper) : Nat → Nat → Prop
  | one {i j : Nat} {o : Oper} {e : Edge} : ops[j]? = some o → e ∈ o.after → Region.binds .any e = true → e.on = i → Anc ops i j
  | more {i k j : Nat} {o : Oper} {e : Edge} : ops[j]? = some o → e ∈ o.after → Region.binds .any e = true → e.on = k → Anc ops i k → Anc ops i j

def Apart (ops : Array Oper) (o o' : Oper) (e e' : Eff) : Prop :=
  o.apart ops o' = true ∧ (∀ κ ∈ keysE e, κ ∉ keysE e') ∧ (∀ κ ∈ keysE e, κ ∉ e'.supp) ∧ (∀ κ ∈ keysE e', κ ∉ e.supp)

structure Indep (ops : Array Oper) (es : List Eff) : Prop where
  apart : ∀ i j o o' e e', i < j → ops[i]? = some o → ops[j]? = some o' → es[i]? = some e → es[j]? = some e' → Anc ops i j ∨ Apart ops o o' e e'
  back : ∀ (j : Nat) (o : Oper) (e : Edge), ops[j]? = some o → e ∈ o.after → Region.binds .any e = true → e.on < j

/-- Closed: with an operation, all that must come before it. -/
def Closed (ops : Array Oper) (S : Nat → Bool) : Prop := ∀ j o (e : Edge), S j = true → ops[j]? = some o → e ∈ o.after → Region.binds .any e = true → S e.on = true
theorem Closed.anc {S : Nat → Bool} (h : Closed ops S) {i j : Nat} (ha : Anc ops i j) (hj : S j = true) : S i = true := by
  induction ha with
  | one h1 h2 h3 h4 => exact h4 ▸ h _ _ _ hj h1 h2 h3
  | more h1 h2 h3 h4 _ ih => exact ih (h4 ▸ h _ _ _ hj h1 h2 h3)

theorem mem_split {α : Type} {l : List α} {i : Nat} {x : α} (h : l[i]? = some x) : l = l.take i ++ x :: l.drop (i + 1) := by
  obtain ⟨hi, rfl⟩ := List.getElem?_eq_some_iff.1 h
  rw [List.getElem_cons_drop, List.take_append_drop]

theorem wpAny_chain {Q : Exit → Act → World → Prop} {es : List Eff} {st st' : St} (hc : Chain fr ops ops.toList es st st') (hi : Indep ops es) (hQ : ∀ a W, RelE fr st' a W → Q .normal a W) :
    ∀ (fuel : Nat) (listed : Array Bool) (a : Act) (W : World), listed.size = ops.size → Closed ops (fun j => listed.getD j false) →
      (listed.toList.countP (fun b => !b)) ≤ fuel → RelE fr (fold (fun j => listed.getD j false) 0 ops.toList es st) a W → wpAny fr.P .any ops Q fuel listed a W := by
  have hlen : ops.size = es.length := by simpa using hc.length
  have done : ∀ (listed : Array Bool) (a : Act) (W : World), listed.size = ops.size → Closed ops (fun j => listed.getD j false) → Region.ready .any ops listed = [] →
      RelE fr (fold (fun j => listed.getD j false) 0 ops.toList es st) a W → Q .normal a W := by
    intro listed a W hsz hcl hr hrel
    have all : ∀ j, j < ops.size → listed.getD j false = true := by
      intro j
      induction j using Nat.strongRecOn with
      | _ j ih =>
        intro hj
        by_cases hl : listed.getD j false = true
        · exact hl
        · exfalso
          have : j ∈ Region.ready .any ops listed := by
            rw [mem_ready]
            have hj' : j < listed.size := by omega
            refine ⟨?_, ops[j], Array.getElem?_eq_getElem hj, fun e he hb => ?_⟩
            · simp only [Array.getD_eq_getD_getElem?, Array.getElem?_eq_getElem hj', Option.getD_some] at hl ⊢
              simpa using hl
            · have hlt := hi.back j _ e (Array.getElem?_eq_getElem hj) he hb
              exact ih e.on hlt (by omega)
          rw [hr] at this
          cases this
    rw [hc.fold (fun j hj => by simpa using all j (by simpa using hj))] at hrel
    exact hQ a W hrel
  intro fuel
  induction fuel with
  | zero =>
    intro listed a W hsz hcl hcnt hrel
    have hr : Region.ready .any ops listed = [] := by
      rw [List.eq_nil_iff_forall_not_mem]
      intro i hi'
      obtain ⟨h1, o, ho, _⟩ := mem_ready.1 hi'
      have hi2 : i < listed.size := by rw [hsz]; exact (Array.getElem?_eq_some_iff.1 ho).1
      have h0 : listed.toList.countP (fun b => !b) = 0 := by omega
      rw [List.countP_eq_zero] at h0
      have := h0 listed[i] (by simp)
      simp only [Array.getD_eq_getD_getElem?, Array.getElem?_eq_getElem hi2, Option.getD_some] at h1
      simp [h1] at this
    exact ⟨hr, done listed a W hsz hcl hr hrel⟩
  | succ fuel ih =>
    intro listed a W hsz hcl hcnt hrel
    refine ⟨fun hr => done listed a W hsz hcl hr hrel, fun i hir => ?_⟩
    obtain ⟨h1, o, ho, hpre⟩ := mem_ready.1 hir
    have hi1 : i < ops.size := (Array.getElem?_eq_some_iff.1 ho).1
    have hi2 : i < listed.size := by omega
    have hSi : listed.getD i false = false := by
      simp only [Array.getD_eq_getD_getElem?, Array.getElem?_eq_getElem hi2, Option.getD_some] at h1 ⊢; exact h1
    have hol : ops.toList[i]? = some o := by simpa using ho
    obtain ⟨e, he, hg⟩ := hc.at i o hol
    have hs1 := mem_split hol
    have hs2 := mem_split he
    -- what holds of those before and of those behind
    have hbefore : ∀ j o' e', j < i → ops[j]? = some o' → es[j]? = some e' → listed.getD j false = true ∨ Apart ops o' o e' e := by
      intro j o' e' hj ho' he'
      rcases hi.apart j i o' o e' e hj ho' ho he' he with ha | ha
      · left
        cases ha with
        | one h2 h3 h4 h5 =>
          have h9 := Option.some.inj (ho.symm.trans h2)
          rw [← h9] at h3; rw [← h5]; exact hpre _ h3 h4
        | more h2 h3 h4 h5 h6 =>
          have h9 := Option.some.inj (ho.symm.trans h2)
          rw [← h9] at h3; rw [← h5] at h6; exact hcl.anc h6 (hpre _ h3 h4)
      · exact .inr ha
    have hbehind : ∀ j o' e', i < j → ops[j]? = some o' → es[j]? = some e' → listed.getD j false = false ∨ Apart ops o o' e e' := by
      intro j o' e' hj ho' he'
      rcases hi.apart i j o o' e e' hj ho ho' he he' with ha | ha
      · left
        cases hb : listed.getD j false with
        | false => rfl
        | true => have := hcl.anc ha hb; rw [hSi] at this; cases this
      · exact .inr ha
    have hlp : (ops.toList.take i).length = i := by simp; omega
    have hle : (ops.toList.take i).length = (es.take i).length := by simp [hlen]
    have key : ∀ S : Nat → Bool, fold S 0 ops.toList es st = fold S (i + 1) (ops.toList.drop (i + 1)) (es.drop (i + 1)) (if S i then app (fold S 0 (ops.toList.take i) (es.take i) st) o.dst e else fold S 0 (ops.toList.take i) (es.take i) st) := by
      intro S
      conv => lhs; rw [hs1, hs2]
      rw [fold_split hle, hlp]
      simp only [fold, Nat.zero_add]
    have tk : ∀ {α : Type} (l : List α) (j : Nat) (x : α), (l.take i)[j]? = some x → j < i ∧ l[j]? = some x := by
      intro α l j x hx
      rw [List.getElem?_take] at hx
      split at hx
      · exact ⟨by assumption, hx⟩
      · cases hx
    have dp : ∀ {α : Type} (l : List α) (j : Nat) (x : α), (l.drop (i + 1))[j]? = some x → l[i + 1 + j]? = some x := by
      intro α l j x hx
      rwa [List.getElem?_drop] at hx
    -- the state is as in the text where it matters
    have hal : Alike (o.looksAt ops) (e.supp ++ keysE e) (fold (fun j => listed.getD j false) 0 ops.toList es st) (fold (fun j => decide (j < i)) 0 ops.toList es st) := by
      rw [key, key]
      simp only [hSi, Bool.false_eq_true, if_false, Nat.lt_irrefl, decide_false]
      refine fold_alike (fun j o' e' ho' he' => ?_) (fold_alike (fun j o' e' ho' he' => ?_) ⟨fun _ _ => rfl, fun _ _ => rfl, rfl⟩)
      · rcases hbehind (i + 1 + j) o' e' (by omega) (by simpa using dp _ j o' ho') (dp _ j e' he') with hb | ⟨h2, h3, h4, h5⟩
        · left; simp only [hb]; symm; simp; omega
        · right
          obtain ⟨h6, h7, h8⟩ := Oper.apart_spec h2
          exact ⟨h8, fun κ hκ hm => by rcases List.mem_append.1 hm with hm | hm; exact h5 κ hκ hm; exact h3 κ hm hκ⟩
      · obtain ⟨hj, ho2⟩ := tk _ j o' ho'
        rcases hbefore j o' e' hj (by simpa using ho2) (tk _ j e' he').2 with hb | ⟨h2, h3, h4, h5⟩
        · left; rw [Nat.zero_add, hb]; simp [hj]
        · right
          obtain ⟨h6, h7, h8⟩ := Oper.apart_spec h2
          exact ⟨h6, fun κ hκ hm => by rcases List.mem_append.1 hm with hm | hm; exact h4 κ hκ hm; exact h3 κ hκ hm⟩
    have hnext : ∀ v W', RelE fr (app (fold (fun j => listed.getD j false) 0 ops.toList es st) o.dst e) (a.put o.dst v) W' →
        wpAny fr.P .any ops Q fuel (listed.setIfInBounds i true) (a.put o.dst v) W' := by
      intro v W' hrel'
      refine ih _ _ _ (by simp [hsz]) ?_ ?_ ?_
      · intro j o' e' hj ho' he' hb
        by_cases hji : j = i
        · subst hji
          obtain rfl : o = o' := by rw [ho] at ho'; exact Option.some.inj ho'
          exact getD_set_true (hpre e' he' hb)
        · have hj' : listed.getD j false = true := by rw [← getD_set_ne false (Ne.symm hji)]; exact hj
          exact getD_set_true (hcl j o' e' hj' ho' he' hb)
      · have hlt : listed.toList.countP (fun b => !b) = (listed.setIfInBounds i true).toList.countP (fun b => !b) + 1 := by
          have h5 : listed.toList[i]? = some false := by
            have : listed[i]? = some false := by
              rw [Array.getElem?_eq_getElem hi2]; simp only [Array.getD_eq_getD_getElem?, Array.getElem?_eq_getElem hi2, Option.getD_some] at hSi; rw [hSi]
            simpa using this
          have h6 := mem_split h5
          rw [Array.toList_setIfInBounds]
          have hlt' : i < listed.toList.length := by simpa using hi2
          rw [List.set_eq_take_append_cons_drop, if_pos hlt']
          conv => lhs; rw [h6]
          simp [List.countP_append, List.countP_cons]; omega
        omega
      · have : fold (fun j => (listed.setIfInBounds i true).getD j false) 0 ops.toList es st = app (fold (fun j => listed.getD j false) 0 ops.toList es st) o.dst e := by
          rw [key, key]
          have hT : (listed.setIfInBounds i true).getD i false = true := by simp [hi2]
          simp only [hSi, hT, Bool.false_eq_true, if_false, if_true]
          rw [fold_app (S := fun j => listed.getD j false) (i := i + 1) (os := ops.toList.drop (i + 1))]
          · rw [fold_congr (S := fun j => (listed.setIfInBounds i true).getD j false) (S' := fun j => listed.getD j false) (os := ops.toList.take i)]
            · exact fold_congr fun j hj => getD_set_ne false (by omega)
            · intro j hj; rw [hlp] at hj; exact getD_set_ne false (by omega)
          · intro j o' e' ho' he'
            rcases hbehind (i + 1 + j) o' e' (by omega) (by simpa using dp _ j o' ho') (dp _ j e' he') with hb | ⟨h2, h3, h4, h5⟩
            · exact .inl hb
            · right
              obtain ⟨h6, h7, h8⟩ := Oper.apart_spec h2
              exact ⟨fun t ht hd => h7 t hd ht, fun κ hκ hm => h3 κ hm hκ⟩
        rw [this]
        exact hrel'
    unfold wpOp
    rw [ho]
    simp only []
    have := hg Q (fold (fun j => listed.getD j false) 0 ops.toList es st) a W (wpAny fr.P .any ops Q fuel (listed.setIfInBounds i true)) hal.1
      (fun κ hκ => hal.2.1 κ (by rcases hκ with hκ | hκ; exact List.mem_append_left _ hκ; exact List.mem_append_right _ (lk_isSome.1 hκ))) hrel hnext
    by_cases hw : Region.wanted o (yielded ops a.tmps) = true
    · rw [if_pos hw] at this ⊢; exact .inl this
    · rw [if_neg hw] at this ⊢; exact this
end
end Go.Vm

namespace Go.Vm
open Go Go.RowKit

structure Env where
  fr : Fr
  L : Nat → Option TyI
/-- What holds of a type's zero value. -/
structure TyZ (i : TyI) : Prop where
  zts : i.zv.cells.toList.map constT = i.zts
  one : ∀ u ∈ i.zv.cells.toList, u.oneCell' = true
  size : i.zv.cells.size = i.size
structure Env.Ok (E : Env) : Prop where
  L : LOk E.fr.P E.L
  Z : ∀ t i, E.L t = some i → TyZ i

/-- What is done with a row's element once it is known. -/
inductive Md where
  | addr (supp : List Nat)
  | load (i : TyI) (off κ : Nat)
  | store (κ ty sz q off : Nat) (d : Bool) (es : List (List C)) (i : TyI) (ts : List T)
inductive R where
  | bad
  | ok (p : Prop) (e : Eff)
  | get (p : Prop) (es : List (List C)) (q : Nat) (m : Md)
  | call (f : Nat) (caps args : List T) (ats : List Nat) (κ : Nat)
  | callFn (sem : List Dat → List Dat → Prop) (args : List T) (ats : List Nat) (κ : Nat)
  | bin (op : BinOp) (t : Nat) (x y : T)

def mdR (st : St) (e : List C) : Md → R
  | .addr supp => .ok True ⟨.pv e, supp, []⟩
  | .load i off κ => .ok (i.size ≤ (((Cs.strip e).drop off).map T.c).length ∧ (i.kind.agg = false → i.size = 1)) ⟨packT i ((((Cs.strip e).drop off).map T.c).take i.size), [κ], []⟩
  | .store κ ty sz q off d es i ts => match absL st.h d i.cts ts with
    | some (cs, ks) => .ok (ks.Nodup ∧ κ ∉ ks ∧ ts.length = i.size ∧ off + i.size ≤ sz) ⟨.un, ts.flatMap keysT, (κ, .arr d ty sz (es.set q (putL e off cs))) :: deads ks⟩
    | none => .bad

/-- An operation on two values, as a step of what effect ever. -/
def BinE (fr : Fr) (st : St) (op : BinOp) (t : Nat) (x y : T) (e : Eff) : Prop :=
  ∀ (o : Oper) (xo yo : Operand) (t' : Nat), o.op = .binOp op t xo yo t' → Vm.opd st.s xo = x → Vm.opd st.s yo = y → (∀ d, o.dst = some d → d < fr.N) → StepO fr o st e
/-- A call, as a step of what effect ever. -/
def CallE (fr : Fr) (st : St) (f : Nat) (caps args : List T) (e : Eff) : Prop :=
  ∀ (o : Oper) (x : Operand) (as' : Array Operand) (ats : Array Nat), o.op = .call { callee := .value x, args := as', argTypes := ats } → Vm.opd st.s x = .clo f caps → as'.toList.map (Vm.opd st.s) = args → (∀ d, o.dst = some d → d < fr.N) → StepO fr o st e
theorem callE_sat {fr : Fr} {st : St} {f κ : Nat} {caps args : List T} {gs gc : List Arg} {ks kc : List Nat} {own : Bool} {rs : List Dat} (hg : ArgsR fr st args gs ks) (hc : ArgsR fr st caps gc kc) (hs : Sat fr.P f (gs ++ gc) own rs) (hown : own = false → ks = [] ∧ kc = [])
    (hκ : ∀ k, (lk k (resM own κ rs)).isSome = true → st.h k = none) : CallE fr st f caps args ⟨resT own κ rs, ks ++ kc, resM own κ rs⟩ :=
  fun o x as' ats ho hx ha hd => step_call ho hx (by rw [ha]; exact hg) hc hs hown hκ hd
/-- The next steps, after what R says. -/
def R.run1 : R → (Eff → Prop) → Prop
  | .ok p e, K => p ∧ K e
  | _, _ => False
def R.run (E : Env) (st : St) : R → (Eff → Prop) → Prop
  | .bad, _ => False
  | .ok p e, K => p ∧ K e
  | .get p es q m, K => p ∧ ∃ e, es[q]? = some e ∧ (mdR st e m).run1 K
  | .call f caps args ats κ, K => ∃ e, CallE E.fr st f caps args e ∧ K e
  | .bin op t x y, K => ∃ e, BinE E.fr st op t x y e ∧ K e
  | .callFn sem args ats κ, K => ∃ ds ks rs, ArgsR E.fr st args (ds.map .d) ks ∧ sem ds rs ∧ (∀ k, (lk k (resM true κ rs)).isSome = true → st.h k = none) ∧ K ⟨resT true κ rs, ks, resM true κ rs⟩

/-! ### the single operations -/
def vPick (q : Bool) : T → T → T
  | .c (.bool a), .c (.bool b) => .c (.bool (if q then a else b))
  | .c (.int k a), .c (.int k' b) => if k = k' then .c (.int k (if q then a else b)) else if q then .c (.int k a) else .c (.int k' b)
  | x, y => if q then x else y
theorem vPick_eq (q : Bool) (x y : T) : vPick q x y = if q then x else y := by
  unfold vPick; cases q <;> split <;> simp
def vBin (E : Env) (op : BinOp) (xt : Nat) : T → T → R
  | .c (.int k n), .c (.int k' m) => match arith op k n m with
    | some r => .ok (k' = k) ⟨.c r, [], []⟩
    | none => .bad
  | .c (.bool a), .c (.bool b) => match logic op a b, E.L xt with
    | some r, some i => .ok (i.kind = .bool) ⟨.c r, [], []⟩
    | _, _ => .bad
  | .nilS, .nilS => match isNilB op true, E.L xt with
    | some r, some i => .ok (∃ el, i.kind = .slice el) ⟨.c r, [], []⟩
    | _, _ => .bad
  | .nn _ _, .nilS => match isNilB op false, E.L xt with
    | some r, some i => .ok (∃ el, i.kind = .slice el) ⟨.c r, [], []⟩
    | _, _ => .bad
  | .agg xs, .agg ys => .bin op xt (.agg xs) (.agg ys)
  | _, _ => .bad
def vUn (op : UnOp) : T → R
  | .c (.bool q) => match op with | .not => .ok True ⟨.c (.bool (!q)), [], []⟩ | _ => .bad
  | .c (.int k n) => match op with | .neg => .ok True ⟨.c (.int k (k.wrap (0 - n))), [], []⟩ | _ => .bad
  | _ => .bad
def vConv (E : Env) (s t : Nat) : T → R
  | .c (.int _ n) => match E.L s, E.L t with
    | some i, some j => match j.kind with
      | .int k' => .ok True ⟨.c (.int k' (k'.wrap n)), [], []⟩
      | _ => .bad
    | _, _ => .bad
  | _ => .bad
def vFieldAddr (E : Env) (s f : Nat) (x : T) : R := match E.L s with
  | some i => match i.kind with
    | .struct fs => match fs[f]? with
      | some (off, ft) => match E.L ft with
        | some j => .ok (x.isPtr = true ∧ 0 < j.size) ⟨fldT off x, [], []⟩
        | none => .bad
      | none => .bad
    | _ => .bad
  | none => .bad
def vField (E : Env) (t f : Nat) : T → R
  | .agg xs => match E.L t with
    | some i => match i.kind with
      | .struct fs => match fs[f]? with
        | some (off, ft) => match E.L ft with
          | some j => .ok (j.kind ≠ .array ∧ (j.kind.agg = false → j.size = 1) ∧ off + j.size ≤ xs.length) ⟨packT j ((xs.drop off).take j.size), [], []⟩
          | none => .bad
        | none => .bad
      | _ => .bad
    | none => .bad
  | _ => .bad
/-- The element type of a slice type. -/
def elemOf (E : Env) (t : Nat) : Option (Nat × TyI) := match E.L t with
  | some i => match i.kind with
    | .slice el => match E.L el with
      | some j => some (el, j)
      | none => none
    | _ => none
  | none => none
def vIndexAddr (E : Env) (st : St) (t : Nat) (x y : T) : R := match elemOf E t, y with
  | some (el, j), .c (.int k n) => match x with
    | .c (.sl none sz es) => .get (j.size = sz ∧ 0 ≤ n) es n.toNat (.addr [])
    | .ref κ => match st.h κ with
      | some (.arr d ty sz es) => .ok (j.size = sz ∧ 0 ≤ n ∧ n < es.length) ⟨.ep κ sz n.toNat 0, [κ], []⟩
      | some (.fro sz es) => .get (j.size = sz ∧ 0 ≤ n) es n.toNat (.addr [κ])
      | some (.opn ty sz pre mid post) => .ok (j.size = sz ∧ 0 ≤ n ∧ n < pre.length + 1 + post.length) ⟨.ep κ sz n.toNat 0, [κ], []⟩
      | _ => .bad
    | _ => .bad
  | _, _ => .bad
def vLoad (E : Env) (st : St) (t : Nat) (x : T) : R := match E.L t with
  | some i => match x with
    | .ptr κ off => match st.h κ with
      | some (.box xs) => .ok (i.kind ≠ .array ∧ i.size ≤ (xs.drop off).length ∧ (i.kind.agg = false → i.size = 1)) ⟨packT i ((xs.drop off).take i.size), [κ], []⟩
      | _ => .bad
    | .pv xs => .ok (i.kind ≠ .array ∧ i.size ≤ xs.length ∧ (i.kind.agg = false → i.size = 1)) ⟨packT i ((xs.map .c).take i.size), [], []⟩
    | .ep κ sz q off => match st.h κ with
      | some (.arr d ty sz' es) => .get (i.kind ≠ .array ∧ sz = sz') es q (.load i off κ)
      | some (.opn ty sz' pre mid post) => .ok (i.kind ≠ .array ∧ (sz = sz' ∧ q = pre.length) ∧ i.size ≤ (mid.drop off).length ∧ (i.kind.agg = false → i.size = 1)) ⟨packT i ((mid.drop off).take i.size), [κ], []⟩
      | _ => .bad
    | _ => .bad
  | none => .bad
def vAlloc (E : Env) (st : St) (κ t : Nat) : R := match E.L t with
  | some i => .ok (st.h κ = none) ⟨.ptr κ 0, [], [(κ, .box i.zts)]⟩
  | none => .bad
def vBox (st : St) (κ : Nat) (x : T) : R := match unT x with
  | some ts => .ok (st.h κ = none) ⟨.ptr κ 0, [], [(κ, .box ts)]⟩
  | none => .bad
def vStore (E : Env) (st : St) (t : Nat) (dst : Option Nat) (x y : T) : R := match E.L t, unT y with
  | some i, some ts => match x with
    | .ptr κ p => match st.h κ with
      | some (.box xs) => .ok (ts.length = i.size ∧ p + i.size ≤ xs.length ∧ dst = none) ⟨.un, [], [(κ, .box (xs.take p ++ ts ++ xs.drop (p + i.size)))]⟩
      | _ => .bad
    | .ep κ sz q off => match st.h κ with
      | some (.arr d ty sz' es) => .get (sz = sz' ∧ dst = none) es q (.store κ ty sz q off d es i ts)
      | some (.opn ty sz' pre mid post) => .ok ((sz = sz' ∧ q = pre.length) ∧ ts.length = i.size ∧ off + i.size ≤ sz ∧ dst = none) ⟨.un, [], [(κ, .opn ty sz pre (mid.take off ++ ts ++ mid.drop (off + i.size)) post)]⟩
      | _ => .bad
    | _ => .bad
  | _, _ => .bad
def vBuild (E : Env) (st : St) (t : Nat) (parts : List (Nat × T)) : R := match E.L t with
  | some i => match i.kind with
    | .struct fs => match buildT (placesT E.L fs) i.zts parts with
      | some out => .ok (∀ p ∈ fs, (E.L p.2).isSome = true) ⟨.agg out, [], []⟩
      | none => .bad
    | _ => .bad
  | none => .bad
def vBuildSlice (E : Env) (st : St) (κ t len : Nat) (parts : List (Nat × T)) : R := match elemOf E t with
  | some (el, j) => match buildT (placesR j.size) ((List.replicate len j.zts).flatten) parts with
    | some ts => match absL st.h true ((List.replicate len j.cts).flatten) ts with
      | some (cs, ks) => .ok (len * j.size ≤ 16777216 ∧ 0 < j.size ∧ st.h κ = none ∧ ks.Nodup) ⟨.ref κ, ts.flatMap keysT, (κ, .arr true el j.size (chunks j.size len cs)) :: deads ks⟩
      | none => match absL st.h false ((List.replicate len j.cts).flatten) ts with
        | some (cs, ks) => .ok (len * j.size ≤ 16777216 ∧ 0 < j.size ∧ st.h κ = none ∧ ks.Nodup) ⟨.ref κ, ts.flatMap keysT, (κ, .arr false el j.size (chunks j.size len cs)) :: deads ks⟩
        | none => .bad
    | none => .bad
  | none => .bad
def vMakeSlice (E : Env) (st : St) (κ t : Nat) (x y : T) : R := match elemOf E t, x, y with
  | some (el, j), .c (.int k n), .c (.int k' m) => match absL (fun _ => none) true j.cts j.zts with
    | some (cs, _) => .ok (k' = k ∧ m = n ∧ 0 ≤ n ∧ 0 < j.size ∧ 0 < j.bytes ∧ n.toNat * j.bytes ≤ 140737488355328 ∧ st.h κ = none) ⟨.ref κ, [], [(κ, .arr true el j.size (List.replicate n.toNat cs))]⟩
    | none => .bad
  | _, _, _ => .bad
def vSlice (E : Env) (st : St) (t : Nat) (x : T) (lo hi : Option T) : R := match elemOf E t with
  | some (el, j) => match x with
    | .c (.sl none sz es) => match bndT 0 lo, bndT es.length hi with
      | some l, some r => .ok (j.size = sz ∧ 0 ≤ l ∧ l ≤ r ∧ r ≤ es.length) ⟨.c (.sl none sz ((es.drop l.toNat).take (r.toNat - l.toNat))), [], []⟩
      | _, _ => .bad
    | .ref κ => match st.h κ with
      | some (.arr d ty sz es) => match bndT 0 lo, bndT es.length hi with
        | some l, some r => .ok (j.size = sz ∧ 0 ≤ l ∧ l ≤ r ∧ r ≤ es.length) ⟨.c (.sl none sz (((flat d es).drop l.toNat).take (r.toNat - l.toNat))), [], [(κ, .fro sz (flat d es))]⟩
        | _, _ => .bad
      | some (.fro sz es) => match bndT 0 lo, bndT es.length hi with
        | some l, some r => .ok (j.size = sz ∧ 0 ≤ l ∧ l ≤ r ∧ r ≤ es.length) ⟨.c (.sl none sz ((es.drop l.toNat).take (r.toNat - l.toNat))), [κ], []⟩
        | _, _ => .bad
      | _ => .bad
    | .nilS => match bndT 0 lo, bndT 0 hi with
      | some l, some r => .ok (0 ≤ l ∧ l ≤ r ∧ r ≤ 0) ⟨.nilS, [], []⟩
      | _, _ => .bad
    | _ => .bad
  | none => .bad
def vAppend (E : Env) (st : St) (κ t : Nat) (x y : T) : R := match elemOf E t with
  | some (el, j) => match dstT st.h x, srcT st.h j.scal y with
    | some (d, ts, es, ks), some (d', z, es', ks') =>
      .ok (0 < j.size ∧ (∀ p, ts = some p → p = (el, j.size)) ∧ (∀ p, z = some p → p = j.size) ∧ (j.scal = true → ks' = [] → Es.scal es') ∧ (es.length + es'.length) * j.bytes ≤ 140737488355328 ∧ 0 < j.bytes ∧ st.h κ = none ∧ (ks ++ ks').Nodup)
        ⟨.ref κ, keysT x ++ keysT y, (κ, .arr (d && d') el j.size (joinE d d' es es')) :: deads (ks ++ ks')⟩
    | _, _ => .bad
  | none => .bad
def vLen (E : Env) (st : St) (t : Nat) (x : T) : R := match elemOf E t, lenT st x with
  | some _, some n => .ok True ⟨.c (.int .i64 n), keysT x, []⟩
  | _, _ => .bad
def vMin : T → T → R
  | .c (.int k n), .c (.int k' m) => .ok (k' = k) ⟨.c (.int k (min n m)), [], []⟩
  | _, _ => .bad
def vMax : T → T → R
  | .c (.int k n), .c (.int k' m) => .ok (k' = k) ⟨.c (.int k (max n m)), [], []⟩
  | _, _ => .bad
def vMax3 : T → T → T → R
  | .c (.int k n), .c (.int k' m), .c (.int k'' p) => .ok (k' = k ∧ k'' = k) ⟨.c (.int k (max (max n m) p)), [], []⟩
  | _, _, _ => .bad
def vBuiltin (E : Env) (st : St) (κ : Nat) (b : Builtin) (args : List T) (ats : List Nat) : R := match b, args, ats with
  | .len, [x], [t] => vLen E st t x
  | .min, [x, y], _ => vMin x y
  | .max, [x, y], _ => vMax x y
  | .max, [x, y, z], _ => vMax3 x y z
  | .append, [x, y], [t, t'] => if t = t' then vAppend E st κ t x y else .bad
  | _, _, _ => .bad
def vValue (κ : Nat) (args : List T) (ats : List Nat) : T → R
  | .clo f caps => .call f caps args ats κ
  | .fn sem => .callFn sem args ats κ
  | _ => .bad
def vop (E : Env) (κ : Nat) (dst : Option Nat) (st : St) : Op → R
  | .move x => .ok True ⟨opd st.s x, [], []⟩
  | .assign x => .ok True ⟨opd st.s x, [], []⟩
  | .pick c x y => match opd st.s c with
    | .c (.bool q) => .ok True ⟨vPick q (opd st.s x) (opd st.s y), [], []⟩
    | _ => .bad
  | .binOp op xt x y _ => vBin E op xt (opd st.s x) (opd st.s y)
  | .unOp op _ x => vUn op (opd st.s x)
  | .convert s t x => vConv E s t (opd st.s x)
  | .nilCheck x => .ok ((opd st.s x).isPtr = true) ⟨opd st.s x, [], []⟩
  | .fieldAddr s x f => vFieldAddr E s f (opd st.s x)
  | .field t x f => vField E t f (opd st.s x)
  | .indexAddr t x y => vIndexAddr E st t (opd st.s x) (opd st.s y)
  | .load t x => vLoad E st t (opd st.s x)
  | .alloc t => vAlloc E st κ t
  | .box _ x => vBox st κ (opd st.s x)
  | .store t x y => vStore E st t dst (opd st.s x) (opd st.s y)
  | .build t parts => vBuild E st t (parts.toList.map fun p => (p.1, opd st.s p.2))
  | .buildSlice t len parts => vBuildSlice E st κ t len (parts.toList.map fun p => (p.1, opd st.s p.2))
  | .makeFunc (.func f) capd caps => if capd.size = 0 then .ok True ⟨.clo f (caps.toList.map (opd st.s)), [], []⟩ else .bad
  | .extract x n => match opd st.s x with
    | .tup xs => match xs[n]? with
      | some t => .ok True ⟨t, [], []⟩
      | none => .bad
    | _ => .bad
  | .makeSlice t x y => vMakeSlice E st κ t (opd st.s x) (opd st.s y)
  | .slice t x lo hi none => vSlice E st t (opd st.s x) (lo.map (opd st.s)) (hi.map (opd st.s))
  | .call { callee := .builtin b, args, argTypes } => vBuiltin E st κ b (args.toList.map (opd st.s)) argTypes.toList
  | .call { callee := .value x, args, argTypes } => vValue κ (args.toList.map (opd st.s)) argTypes.toList (opd st.s x)
  | _ => .bad
end Go.Vm

namespace Go.Vm
open Go Go.RowKit

section
variable {E : Env} {κ : Nat} {o : Oper} {st : St} {K : Eff → Prop}

theorem elemOf_ok (hE : E.Ok) {t el : Nat} {j : TyI} (h : elemOf E t = some (el, j)) : ∃ i, TyOk E.fr.P t i ∧ i.kind = .slice el ∧ TyOk E.fr.P el j ∧ E.L el = some j := by
  unfold elemOf at h
  split at h
  · rename_i i hi
    split at h
    · rename_i e hk
      split at h
      · rename_i j' hj
        simp only [Option.some.injEq, Prod.mk.injEq] at h
        obtain ⟨rfl, rfl⟩ := h
        exact ⟨i, hE.L _ _ hi, hk, hE.L _ _ hj, hj⟩
      · cases h
    · cases h
  · cases h

def SoundR (E : Env) (o : Oper) (st : St) (r : R) : Prop := ∀ K : Eff → Prop, r.run E st K → ∃ e, StepO E.fr o st e ∧ K e
theorem SoundR.bad : SoundR E o st .bad := fun K h => h.elim
theorem SoundR.ok {p : Prop} {e : Eff} (h : p → StepO E.fr o st e) : SoundR E o st (.ok p e) := fun K hk => ⟨e, h hk.1, hk.2⟩
theorem SoundR.get {p : Prop} {es : List (List C)} {q : Nat} {m : Md} (h : p → ∀ x, es[q]? = some x → ∀ p' e, mdR st x m = .ok p' e → p' → StepO E.fr o st e) : SoundR E o st (.get p es q m) := fun K hk => by
  obtain ⟨hp, x, hx, hr⟩ := hk
  cases hm : mdR st x m with
  | ok p' e => rw [hm] at hr; exact ⟨e, h hp x hx p' e hm hr.1, hr.2⟩
  | _ => rw [hm] at hr; exact hr.elim

variable (hd : ∀ d, o.dst = some d → d < E.fr.N)
include hd

theorem vBin_sound (hE : E.Ok) {op : BinOp} {t t' : Nat} {x y : Operand} (ho : o.op = .binOp op t x y t') : SoundR E o st (vBin E op t (opd st.s x) (opd st.s y)) := by
  unfold vBin
  split
  · rename_i k n k' m hx hy
    split
    · rename_i r hr
      exact .ok fun hk => step_binOp ho hx (by rw [hy, hk]) hr hd
    · exact .bad
  · rename_i a b hx hy
    split
    · rename_i r i hr hi
      exact .ok fun hk => step_binOpB (hE.L _ _ hi) hk ho hx hy hr hd
    · exact .bad
  · rename_i hx hy
    split
    · rename_i r i hr hi
      exact .ok fun ⟨el, hk⟩ => step_eqNil (hE.L _ _ hi) hk ho (.inl ⟨hx, rfl⟩) hy hr hd
    · exact .bad
  · rename_i sz es hx hy
    split
    · rename_i r i hr hi
      exact .ok fun ⟨el, hk⟩ => step_eqNil (hE.L _ _ hi) hk ho (.inr ⟨sz, es, hx, rfl⟩) hy hr hd
    · exact .bad
  · rename_i xs ys hx hy
    rintro K ⟨e, h1, h2⟩
    exact ⟨e, h1 _ _ _ _ ho hx hy hd, h2⟩
  · exact .bad
theorem vUn_sound {op : UnOp} {t : Nat} {x : Operand} (ho : o.op = .unOp op t x) : SoundR E o st (vUn op (opd st.s x)) := by
  unfold vUn
  split
  · rename_i q hx
    split
    · exact .ok fun _ => step_not ho hx hd
    · exact .bad
  · rename_i k n hx
    split
    · exact .ok fun _ => step_neg ho hx hd
    · exact .bad
  · exact .bad
theorem vConv_sound (hE : E.Ok) {s t : Nat} {x : Operand} (ho : o.op = .convert s t x) : SoundR E o st (vConv E s t (opd st.s x)) := by
  unfold vConv
  split
  · rename_i k n hx
    split
    · rename_i i j hi hj
      split
      · rename_i k' hk
        exact .ok fun _ => step_convert ho hx (hE.L _ _ hi) (hE.L _ _ hj) hk hd
      · exact .bad
    · exact .bad
  · exact .bad
theorem vFieldAddr_sound (hE : E.Ok) {s f : Nat} {x : Operand} (ho : o.op = .fieldAddr s x f) : SoundR E o st (vFieldAddr E s f (opd st.s x)) := by
  unfold vFieldAddr
  split
  · rename_i i hi
    split
    · rename_i fs hk
      split
      · rename_i off ft hf
        split
        · rename_i j hj
          exact .ok fun h => step_fieldAddr ho h.1 (hE.L _ _ hi) hk hf (hE.L _ _ hj) h.2 hd
        · exact .bad
      · exact .bad
    · exact .bad
  · exact .bad
theorem vField_sound (hE : E.Ok) {t f : Nat} {x : Operand} (ho : o.op = .field t x f) : SoundR E o st (vField E t f (opd st.s x)) := by
  unfold vField
  split
  · rename_i xs hx
    split
    · rename_i i hi
      split
      · rename_i fs hk
        split
        · rename_i off ft hf
          split
          · rename_i j hj
            exact .ok fun h => step_field ho hx (hE.L _ _ hi) hk hf (hE.L _ _ hj) h.1 h.2.1 h.2.2 hd
          · exact .bad
        · exact .bad
      · exact .bad
    · exact .bad
  · exact .bad
theorem vIndexAddr_sound (hE : E.Ok) {t : Nat} {x y : Operand} (ho : o.op = .indexAddr t x y) : SoundR E o st (vIndexAddr E st t (opd st.s x) (opd st.s y)) := by
  unfold vIndexAddr
  split
  · rename_i el j k n hel hy
    obtain ⟨i, ht, hk, hj, _⟩ := elemOf_ok hE hel
    split
    · rename_i sz es hx
      refine .get fun hp e he p' e' hm hp' => ?_
      simp only [mdR, R.ok.injEq] at hm
      obtain ⟨rfl, rfl⟩ := hm
      exact step_indexAddr ho hx hy ht hk hj hp.1 hp.2 he hd
    · rename_i κ' hx
      split
      · rename_i d ty sz es hb
        exact .ok fun hp => step_indexRef ho hx hb hy ht hk hj hp.1 hp.2.1 hp.2.2 hd
      · rename_i sz es hb
        refine .get fun hp e he p' e' hm hp' => ?_
        simp only [mdR, R.ok.injEq] at hm
        obtain ⟨rfl, rfl⟩ := hm
        exact step_indexFro ho hx hb hy ht hk hj hp.1 hp.2 he hd
      · rename_i ty sz pre mid post hb
        exact .ok fun hp => step_indexOpn ho hx hb hy ht hk hj hp.1 hp.2.1 hp.2.2 hd
      · exact .bad
    · exact .bad
  · exact .bad
theorem vLoad_sound (hE : E.Ok) {t : Nat} {x : Operand} (ho : o.op = .load t x) : SoundR E o st (vLoad E st t (opd st.s x)) := by
  unfold vLoad
  split
  · rename_i i hi
    split
    · rename_i κ' off hx
      split
      · rename_i xs hb
        refine .ok fun hp => ?_
        have := step_load (st := st) (ts := xs.drop off) ho (by rw [hx]; simp only [atT, hb]) (hE.L _ _ hi) hp.1 hp.2.1 hp.2.2 hd
        rw [hx] at this; exact this
      · exact .bad
    · rename_i xs hx
      refine .ok fun hp => ?_
      have := step_load (st := st) (ts := xs.map .c) ho (by rw [hx]; simp only [atT]) (hE.L _ _ hi) hp.1 (by simpa using hp.2.1) hp.2.2 hd
      rw [hx] at this; exact this
    · rename_i κ' sz q off hx
      split
      · rename_i d ty sz' es hb
        refine .get fun hp e he p' e' hm hp' => ?_
        simp only [mdR, R.ok.injEq] at hm
        obtain ⟨rfl, rfl⟩ := hm
        have := step_load (st := st) (ts := ((Cs.strip e).drop off).map .c) ho (by rw [hx]; simp only [atT, hb, hp.2, if_true, he, Option.map_some]) (hE.L _ _ hi) hp.1 hp'.1 hp'.2 hd
        rw [hx] at this; exact this
      · rename_i ty sz' pre mid post hb
        refine .ok fun hp => ?_
        have := step_load (st := st) (ts := mid.drop off) ho (by rw [hx]; simp only [atT, hb]; rw [if_pos hp.2.1]) (hE.L _ _ hi) hp.1 hp.2.2.1 hp.2.2.2 hd
        rw [hx] at this; exact this
      · exact .bad
    · exact .bad
  · exact .bad
theorem vAlloc_sound (hE : E.Ok) {t : Nat} (ho : o.op = .alloc t) : SoundR E o st (vAlloc E st κ t) := by
  unfold vAlloc
  split
  · rename_i i hi
    refine .ok fun hp => ?_
    rw [← (hE.Z _ _ hi).zts]
    exact step_alloc ho (hE.L _ _ hi) hp (hE.Z _ _ hi).one hd
  · exact .bad
theorem vBox_sound {t : Nat} {x : Operand} (ho : o.op = .box t x) : SoundR E o st (vBox st κ (opd st.s x)) := by
  unfold vBox
  split
  · rename_i ts hts
    exact .ok fun hp => step_box ho hp hts hd
  · exact .bad
theorem vStore_sound (hE : E.Ok) {t : Nat} {x y : Operand} (ho : o.op = .store t x y) : SoundR E o st (vStore E st t o.dst (opd st.s x) (opd st.s y)) := by
  unfold vStore
  split
  · rename_i i ts hi hy
    split
    · rename_i κ' p hx
      split
      · rename_i xs hb
        exact .ok fun hp => step_store ho hx hb hy (hE.L _ _ hi) hp.1 hp.2.1 hp.2.2
      · exact .bad
    · rename_i κ' sz q off hx
      split
      · rename_i d ty sz' es hb
        refine .get fun hp e he p' e' hm hp' => ?_
        simp only [mdR] at hm
        split at hm
        · rename_i cs ks ha
          simp only [R.ok.injEq] at hm
          obtain ⟨rfl, rfl⟩ := hm
          obtain ⟨hp1, hp2⟩ := hp
          subst hp1
          exact step_storeEp ho hx hb he hy ha hp'.1 hp'.2.1 (hE.L _ _ hi) hp'.2.2.1 hp'.2.2.2 hp2
        · cases hm
      · rename_i ty sz' pre mid post hb
        refine .ok fun hp => ?_
        obtain ⟨⟨rfl, hq⟩, h1, h2, h3⟩ := hp
        exact step_storeOpn ho hx hb hq hy (hE.L _ _ hi) h1 h2 h3
      · exact .bad
    · exact .bad
  · exact .bad
theorem vBuild_sound (hE : E.Ok) {t : Nat} {parts : Array (Nat × Operand)} (ho : o.op = .build t parts) : SoundR E o st (vBuild E st t (parts.toList.map fun p => (p.1, opd st.s p.2))) := by
  unfold vBuild
  split
  · rename_i i hi
    split
    · rename_i fs hk
      split
      · rename_i out hb
        rw [← (hE.Z _ _ hi).zts] at hb
        exact .ok fun hp => step_build ho hE.L (hE.L _ _ hi) hk hp (hE.Z _ _ hi).one hb hd
      · exact .bad
    · exact .bad
  · exact .bad
theorem vBuildSlice_sound (hE : E.Ok) {t len : Nat} {parts : Array (Nat × Operand)} (ho : o.op = .buildSlice t len parts) : SoundR E o st (vBuildSlice E st κ t len (parts.toList.map fun p => (p.1, opd st.s p.2))) := by
  unfold vBuildSlice
  split
  · rename_i el j hel
    obtain ⟨i, ht, hk, hj, hLj⟩ := elemOf_ok hE hel
    have hz := hE.Z _ _ hLj
    split
    · rename_i ts hb
      rw [← hz.zts] at hb
      split
      · rename_i cs ks ha
        exact .ok fun hp => step_buildSlice ho ht hk hj hz.size hz.one hp.1 hp.2.1 hp.2.2.1 hb ha hp.2.2.2 hd
      · split
        · rename_i cs ks ha
          exact .ok fun hp => step_buildSlice ho ht hk hj hz.size hz.one hp.1 hp.2.1 hp.2.2.1 hb ha hp.2.2.2 hd
        · exact .bad
    · exact .bad
  · exact .bad
omit hd in
theorem absL_zero : ∀ {ts : List T} {cts : List (Nat × Nat)} {cs : List C} {ks : List Nat}, absL (fun _ => none) true cts ts = some (cs, ks) → ks = [] := by
  intro ts cts cs ks h
  cases ks with
  | nil => rfl
  | cons k ks => have := absL_keys h k (by simp); simp at this
theorem vMakeSlice_sound (hE : E.Ok) {t : Nat} {x y : Operand} (ho : o.op = .makeSlice t x y) : SoundR E o st (vMakeSlice E st κ t (opd st.s x) (opd st.s y)) := by
  unfold vMakeSlice
  split
  · rename_i el j k n k' m hel hx hy
    obtain ⟨i, ht, hk, hj, hLj⟩ := elemOf_ok hE hel
    have hz := hE.Z _ _ hLj
    split
    · rename_i cs ks ha
      obtain rfl := absL_zero ha
      rw [← hz.zts] at ha
      refine .ok fun ⟨h1, h2, h3, h4, h5, h6, h7⟩ => ?_
      subst h1; subst h2
      have he : m = (m.toNat : Int) := by omega
      exact step_makeSlice (n := m.toNat) ho (by rw [hx, ← he]) (by rw [hy, ← he]) ht hk hj hz.size hz.one h4 h5 h6 h7 ha hd
    · exact .bad
  · exact .bad
theorem vSlice_sound (hE : E.Ok) {t : Nat} {x : Operand} {lo hi : Option Operand} (ho : o.op = .slice t x lo hi none) : SoundR E o st (vSlice E st t (opd st.s x) (lo.map (opd st.s)) (hi.map (opd st.s))) := by
  unfold vSlice
  split
  · rename_i el j hel
    obtain ⟨i, ht, hk, hj, _⟩ := elemOf_ok hE hel
    split
    · rename_i sz es hx
      split
      · rename_i l r hl hr
        exact .ok fun hp => step_slice ho hx ht hk hj hp.1 hl hr hp.2.1 hp.2.2.1 hp.2.2.2 hd
      · exact .bad
    · rename_i κ' hx
      split
      · rename_i d ty sz es hb
        split
        · rename_i l r hl hr
          exact .ok fun hp => step_sliceRef ho hx hb ht hk hj hp.1 hl hr hp.2.1 hp.2.2.1 hp.2.2.2 hd
        · exact .bad
      · rename_i sz es hb
        split
        · rename_i l r hl hr
          exact .ok fun hp => step_sliceFro ho hx hb ht hk hj hp.1 hl hr hp.2.1 hp.2.2.1 hp.2.2.2 hd
        · exact .bad
      · exact .bad
    · rename_i hx
      split
      · rename_i l r hl hr
        exact .ok fun hp => step_sliceNil ho hx ht hk hj hl hr hp.1 hp.2.1 hp.2.2 hd
      · exact .bad
    · exact .bad
  · exact .bad
theorem vAppend_sound (hE : E.Ok) {t : Nat} {x y : Operand} (ho : o.op = .call { callee := .builtin .append, args := #[x, y], argTypes := #[t, t] }) : SoundR E o st (vAppend E st κ t (opd st.s x) (opd st.s y)) := by
  unfold vAppend
  split
  · rename_i el j hel
    obtain ⟨i, ht, hk, hj, hLj⟩ := elemOf_ok hE hel
    have hz := hE.Z _ _ hLj
    split
    · rename_i d ts es ks d' z es' ks' hx hy
      exact .ok fun ⟨h1, h2, h3, h4, h5, h6, h7, h8⟩ => step_append ho hx hy ht hk hj hz.size h1 h2 h3 h4 h5 h6 h7 h8 hd
    · exact .bad
  · exact .bad
theorem vLen_sound (hE : E.Ok) {t : Nat} {x : Operand} (ho : o.op = .call { callee := .builtin .len, args := #[x], argTypes := #[t] }) : SoundR E o st (vLen E st t (opd st.s x)) := by
  unfold vLen
  split
  · rename_i el n hel hl
    obtain ⟨i, ht, hk, hj, hLj⟩ := elemOf_ok (el := el.1) (j := el.2) hE hel
    exact .ok fun _ => step_len (ats := #[t]) ho hl ht hk hd
  · exact .bad
theorem vMin_sound {t : Nat} {ats : Array Nat} {x y : Operand} (ho : o.op = .call { callee := .builtin .min, args := #[x, y], argTypes := ats }) : SoundR E o st (vMin (opd st.s x) (opd st.s y)) := by
  unfold vMin
  split
  · rename_i k n k' m hx hy
    exact .ok fun hk => step_min (t := t) ho hx (by rw [hy, hk]) hd
  · exact .bad
theorem vMax_sound {t : Nat} {ats : Array Nat} {x y : Operand} (ho : o.op = .call { callee := .builtin .max, args := #[x, y], argTypes := ats }) : SoundR E o st (vMax (opd st.s x) (opd st.s y)) := by
  unfold vMax
  split
  · rename_i k n k' m hx hy
    exact .ok fun hk => step_max (t := t) ho hx (by rw [hy, hk]) hd
  · exact .bad
theorem vMax3_sound {ats : Array Nat} {x y z : Operand} (ho : o.op = .call { callee := .builtin .max, args := #[x, y, z], argTypes := ats }) : SoundR E o st (vMax3 (opd st.s x) (opd st.s y) (opd st.s z)) := by
  unfold vMax3
  split
  · rename_i k n k' m k'' p hx hy hz
    exact .ok fun hk => step_max3 ho hx (by rw [hy, hk.1]) (by rw [hz, hk.2]) hd
  · exact .bad
omit hd in
theorem arr3 {α : Type} {xs : Array α} {f : α → T} {a b c : T} (h : xs.toList.map f = [a, b, c]) : ∃ x y z, xs = #[x, y, z] ∧ f x = a ∧ f y = b ∧ f z = c := by
  obtain ⟨l⟩ := xs
  match l, h with
  | [x, y, z], h => exact ⟨x, y, z, rfl, by simpa using h⟩
omit hd in
theorem arr1 {α : Type} {xs : Array α} {f : α → T} {a : T} (h : xs.toList.map f = [a]) : ∃ x, xs = #[x] ∧ f x = a := by
  obtain ⟨l⟩ := xs
  cases l with
  | nil => simp at h
  | cons x l => cases l with
    | nil => exact ⟨x, rfl, by simpa using h⟩
    | cons => simp at h
omit hd in
theorem arr2 {α : Type} {xs : Array α} {f : α → T} {a b : T} (h : xs.toList.map f = [a, b]) : ∃ x y, xs = #[x, y] ∧ f x = a ∧ f y = b := by
  obtain ⟨l⟩ := xs
  cases l with
  | nil => simp at h
  | cons x l => cases l with
    | nil => simp at h
    | cons y l => cases l with
      | nil => exact ⟨x, y, rfl, by simpa using h⟩
      | cons => simp at h
theorem vBuiltin_sound (hE : E.Ok) {b : Builtin} {args : Array Operand} {ats : Array Nat} (ho : o.op = .call { callee := .builtin b, args := args, argTypes := ats }) :
    SoundR E o st (vBuiltin E st κ b (args.toList.map (opd st.s)) ats.toList) := by
  unfold vBuiltin
  split
  · rename_i x t hx ht
    obtain ⟨y, rfl, rfl⟩ := arr1 hx
    have : ats = #[t] := by rw [← ht]
    subst this
    exact vLen_sound hd hE ho
  · rename_i x y hx
    obtain ⟨x', y', rfl, rfl, rfl⟩ := arr2 hx
    exact vMin_sound (t := 0) hd ho
  · rename_i x y hx
    obtain ⟨x', y', rfl, rfl, rfl⟩ := arr2 hx
    exact vMax_sound (t := 0) hd ho
  · rename_i x y z hx
    obtain ⟨x', y', z', rfl, rfl, rfl, rfl⟩ := arr3 hx
    exact vMax3_sound hd ho
  · rename_i x y t t' hx ht
    obtain ⟨x', y', rfl, rfl, rfl⟩ := arr2 hx
    have : ats = #[t, t'] := by rw [← ht]
    subst this
    split
    · rename_i h; subst h
      exact vAppend_sound hd hE ho
    · exact .bad
  · exact .bad
theorem vValue_sound {x : Operand} {args : Array Operand} {ats : Array Nat} (ho : o.op = .call { callee := .value x, args := args, argTypes := ats }) :
    SoundR E o st (vValue κ (args.toList.map (opd st.s)) ats.toList (opd st.s x)) := by
  unfold vValue
  split
  · rename_i f caps hx
    rintro K ⟨e, h1, h2⟩
    exact ⟨e, h1 _ _ _ _ ho hx rfl hd, h2⟩
  · rename_i sem hx
    rintro K ⟨ds, ks, rs, h1, h2, h3, h4⟩
    exact ⟨_, step_callFn ho hx h1 h2 h3 hd, h4⟩
  · exact .bad
theorem vop_sound (hE : E.Ok) : SoundR E o st (vop E κ o.dst st o.op) := by
  unfold vop
  split
  case h_1 x ho => exact .ok fun _ => step_move (.inl ho) hd
  case h_2 x ho => exact .ok fun _ => step_move (.inr ho) hd
  case h_3 c x y ho =>
    split
    · rename_i q hq
      rw [vPick_eq]
      exact .ok fun _ => step_pick ho hq hd
    · exact .bad
  case h_4 ho => exact vBin_sound hd hE ho
  case h_5 ho => exact vUn_sound hd ho
  case h_6 ho => exact vConv_sound hd hE ho
  case h_7 ho => exact .ok fun h => step_nilCheck ho h hd
  case h_8 ho => exact vFieldAddr_sound hd hE ho
  case h_9 ho => exact vField_sound hd hE ho
  case h_10 ho => exact vIndexAddr_sound hd hE ho
  case h_11 ho => exact vLoad_sound hd hE ho
  case h_12 ho => exact vAlloc_sound hd hE ho
  case h_13 ho => exact vBox_sound hd ho
  case h_14 ho => exact vStore_sound hd hE ho
  case h_15 ho => exact vBuild_sound hd hE ho
  case h_16 ho => exact vBuildSlice_sound hd hE ho
  case h_17 f capd caps ho =>
    split
    · rename_i hc
      have : capd = #[] := Array.eq_empty_of_size_eq_zero hc
      subst this
      exact .ok fun _ => step_makeFunc ho hd
    · exact .bad
  case h_18 x n ho =>
    split
    · rename_i xs hx
      split
      · rename_i t ht
        exact .ok fun _ => step_extract ho hx ht hd
      · exact .bad
    · exact .bad
  case h_19 ho => exact vMakeSlice_sound hd hE ho
  case h_20 ho => exact vSlice_sound hd hE ho
  case h_21 ho => exact vBuiltin_sound hd hE ho
  case h_22 ho => exact vValue_sound hd ho
  case h_23 => exact .bad
end
end Go.Vm

namespace Go.Vm
open Go Go.RowKit

structure Cx where
  E : Env
  ops : Array Oper
  id : Nat
  draw : Bool
  k : St → Prop

/-! ### checks -/
def maskOf (acc : List Nat) (o : Oper) : Nat := o.after.toList.foldl (fun s e => if Region.binds .any e then s ||| 2 ^ e.on ||| acc.getD e.on 0 else s) 0
def masks : List Nat → List Oper → List Nat
  | acc, [] => acc
  | acc, o :: os => masks (acc ++ [maskOf acc o]) os
def apartK (a b : List Nat) : Bool := a.all fun κ => !b.contains κ
def dynAll (ms : List Nat) (acc : List (List Nat × List Nat)) : Bool :=
  (List.range acc.length).all fun j => match acc[j]? with
    | some (sj, mj) => (sj.isEmpty && mj.isEmpty) || ((List.range j).all fun i => match acc[i]? with
      | some (si, mi) => (ms.getD j 0).testBit i || (apartK mi mj && apartK mi sj && apartK mj si)
      | none => true)
    | none => true
def dynB (ops : Array Oper) (acc : List (List Nat × List Nat)) : Bool := dynAll (masks [] ops.toList) acc
def statAll (ms : List Nat) (ops : Array Oper) (l : List Oper) : Bool :=
  (List.range l.length).all fun j => match l[j]? with
    | some oj => (List.range j).all fun i => (ms.getD j 0).testBit i || (match l[i]? with
      | some oi => oi.apart ops oj
      | none => true)
    | none => true
def backAll (l : List Oper) : Bool :=
  (List.range l.length).all fun j => match l[j]? with
    | some oj => oj.after.toList.all fun e => !Region.binds .any e || decide (e.on < j)
    | none => true
def statB (N : Nat) (draw : Bool) (ops : Array Oper) : Bool :=
  (ops.toList.all fun o => match o.dst with | some d => decide (d < N) | none => true) &&
  (!draw || (backAll ops.toList && statAll (masks [] ops.toList) ops ops.toList))

/-! ### the walk through a region -/
def vguard (ops : Array Oper) (o : Oper) (st : St) (run skip : St → Prop) : Prop := match o.guard with
  | none => run st
  | some (g, want) => match (ops[g]?).bind (·.dst) with
    | some d => match st.s d with
      | .c (.bool q) => (q = want → run ⟨upd st.s (some d) (.c (.bool want)), st.h, st.g⟩) ∧ (q = !want → skip ⟨upd st.s (some d) (.c (.bool (!want))), st.h, st.g⟩)
      | .tup [] => skip st
      | _ => False
    | none => False
def vops (c : Cx) : Nat → List Oper → List (List Nat × List Nat) → St → Prop
  | _, [], acc, st => (c.draw = true → dynB c.ops acc.reverse = true) ∧ c.k st
  | i, o :: rest, acc, st => vguard c.ops o st
      (fun st => (vop c.E (c.id * 4096 + i * 8) o.dst st o.op).run c.E st fun e => vops c (i + 1) rest ((e.supp, keysE e) :: acc) (app st o.dst e))
      (fun st => vops c (i + 1) rest (([], []) :: acc) (app st o.dst ⟨.tup [], [], []⟩))

/-! #### the equations to walk with -/
def vstep (c : Cx) (i : Nat) (dst : Option Nat) (rest : List Oper) (acc : List (List Nat × List Nat)) (st : St) (r : R) : Prop :=
  r.run c.E st fun e => vops c (i + 1) rest ((e.supp, keysE e) :: acc) (app st dst e)
def vgd (c : Cx) (i : Nat) (dst : Option Nat) (op : Op) (rest : List Oper) (acc : List (List Nat × List Nat)) (st : St) (want : Bool) (d : Nat) : T → Prop
  | .c (.bool q) => (q = want → vstep c i dst rest acc ⟨upd st.s (some d) (.c (.bool want)), st.h, st.g⟩ (vop c.E (c.id * 4096 + i * 8) dst ⟨upd st.s (some d) (.c (.bool want)), st.h, st.g⟩ op)) ∧
    (q = !want → vops c (i + 1) rest (([], []) :: acc) (app ⟨upd st.s (some d) (.c (.bool (!want))), st.h, st.g⟩ dst ⟨.tup [], [], []⟩))
  | .tup [] => vops c (i + 1) rest (([], []) :: acc) (app st dst ⟨.tup [], [], []⟩)
  | _ => False
def vgo (c : Cx) (i : Nat) (dst : Option Nat) (op : Op) (rest : List Oper) (acc : List (List Nat × List Nat)) (st : St) (want : Bool) : Option Nat → Prop
  | some d => vgd c i dst op rest acc st want d (st.s d)
  | none => False
def gdst (ops : Array Oper) (g : Nat) : Option Nat := (ops[g]?).bind (·.dst)
def vget (c : Cx) (i : Nat) (dst : Option Nat) (rest : List Oper) (acc : List (List Nat × List Nat)) (st : St) (es : List (List C)) (q : Nat) (m : Md) : Prop :=
  ∃ e, es[q]? = some e ∧ vstep c i dst rest acc st (mdR st e m)
def vcall (c : Cx) (i : Nat) (dst : Option Nat) (rest : List Oper) (acc : List (List Nat × List Nat)) (st : St) (f : Nat) (caps args : List T) (ats : List Nat) (κ : Nat) : Prop := vstep c i dst rest acc st (.call f caps args ats κ)
def vcallFn (c : Cx) (i : Nat) (dst : Option Nat) (rest : List Oper) (acc : List (List Nat × List Nat)) (st : St) (sem : List Dat → List Dat → Prop) (args : List T) (ats : List Nat) (κ : Nat) : Prop := vstep c i dst rest acc st (.callFn sem args ats κ)

def vbin (c : Cx) (i : Nat) (dst : Option Nat) (rest : List Oper) (acc : List (List Nat × List Nat)) (st : St) (op : BinOp) (t : Nat) (x y : T) : Prop := vstep c i dst rest acc st (.bin op t x y)

section
variable {c : Cx} {i : Nat} {dst : Option Nat} {op : Op} {ty : Nat} {pos : String} {after : Array Edge} {rest : List Oper} {acc : List (List Nat × List Nat)} {st : St} {p : Prop} {e : Eff}
theorem vops_nil : vops c i [] acc st = ((c.draw = true → dynB c.ops acc.reverse = true) ∧ c.k st) := Eq.trans rfl rfl
theorem vops_cons : vops c i (⟨dst, op, ty, pos, after, none⟩ :: rest) acc st = vstep c i dst rest acc st (vop c.E (c.id * 4096 + i * 8) dst st op) := Eq.trans rfl rfl
theorem vops_guard {g : Nat} {want : Bool} : vops c i (⟨dst, op, ty, pos, after, some (g, want)⟩ :: rest) acc st = vgo c i dst op rest acc st want (gdst c.ops g) := by
  simp only [vops, vguard, vgo, gdst]
  cases h : (c.ops[g]?).bind (·.dst) with
  | none => rfl
  | some d =>
    simp only []
    cases st.s d with
    | c x => cases x <;> rfl
    | tup xs => cases xs <;> rfl
    | _ => rfl
theorem vgo_some {want : Bool} {d : Nat} : vgo c i dst op rest acc st want (some d) = vgd c i dst op rest acc st want d (st.s d) := Eq.trans rfl rfl
theorem vgd_bool {want q : Bool} {d : Nat} {s : Nat → T} {h : Nat → Option Blk} {g : Nat → T} : vgd c i dst op rest acc ⟨s, h, g⟩ want d (.c (.bool q)) =
    ((q = want → vstep c i dst rest acc ⟨upd s (some d) (.c (.bool want)), h, g⟩ (vop c.E (c.id * 4096 + i * 8) dst ⟨upd s (some d) (.c (.bool want)), h, g⟩ op)) ∧
    (q = !want → vops c (i + 1) rest (([], []) :: acc) (app ⟨upd s (some d) (.c (.bool (!want))), h, g⟩ dst ⟨.tup [], [], []⟩))) := Eq.trans rfl rfl
theorem vgd_skip {want : Bool} {d : Nat} : vgd c i dst op rest acc st want d (.tup []) = vops c (i + 1) rest (([], []) :: acc) (app st dst ⟨.tup [], [], []⟩) := Eq.trans rfl rfl
theorem vstep_ok {t : T} {supp : List Nat} {mods : List (Nat × Blk)} : vstep c i dst rest acc st (.ok p ⟨t, supp, mods⟩) = (p ∧ vops c (i + 1) rest ((supp, keysE ⟨t, supp, mods⟩) :: acc) (app st dst ⟨t, supp, mods⟩)) := Eq.trans rfl rfl
theorem vstep_bad : vstep c i dst rest acc st .bad = False := Eq.trans rfl rfl
theorem vstep_get {es : List (List C)} {q : Nat} {m : Md} : vstep c i dst rest acc st (.get p es q m) = (p ∧ vget c i dst rest acc st es q m) := by
  have : ∀ e, (mdR st e m).run1 (fun e => vops c (i + 1) rest ((e.supp, keysE e) :: acc) (app st dst e)) = vstep c i dst rest acc st (mdR st e m) := by
    intro e
    cases m with
    | store => simp only [mdR]; split <;> rfl
    | _ => rfl
  simp only [vstep, R.run, vget, this]
theorem vstep_call {f : Nat} {caps args : List T} {ats : List Nat} {κ : Nat} : vstep c i dst rest acc st (.call f caps args ats κ) = vcall c i dst rest acc st f caps args ats κ := Eq.trans rfl rfl
theorem vstep_callFn {sem : List Dat → List Dat → Prop} {args : List T} {ats : List Nat} {κ : Nat} : vstep c i dst rest acc st (.callFn sem args ats κ) = vcallFn c i dst rest acc st sem args ats κ := Eq.trans rfl rfl
theorem vstep_bin {op : BinOp} {t : Nat} {x y : T} : vstep c i dst rest acc st (.bin op t x y) = vbin c i dst rest acc st op t x y := Eq.trans rfl rfl
theorem vget_map {α : Type} [Inhabited α] {f : α → List C} {xs : List α} {q : Nat} {m : Md} :
    vget c i dst rest acc st (xs.map f) q m = (q < xs.length ∧ vstep c i dst rest acc st (mdR st (f (xs.getD q default)) m)) := by
  simp only [vget, List.getElem?_map, eq_iff_iff]
  constructor
  · rintro ⟨e, h1, h2⟩
    cases hx : xs[q]? with
    | none => simp [hx] at h1
    | some x =>
      simp only [hx, Option.map_some, Option.some.injEq] at h1
      subst h1
      refine ⟨(List.getElem?_eq_some_iff.1 hx).1, ?_⟩
      rw [show xs.getD q default = x by simp [List.getD_eq_getElem?_getD, hx]]
      exact h2
  · rintro ⟨h1, h2⟩
    exact ⟨_, by rw [List.getElem?_eq_getElem h1]; rfl, by rw [show xs.getD q default = xs[q] by simp [List.getD_eq_getElem?_getD, List.getElem?_eq_getElem h1]] at h2; exact h2⟩
end

/-! ### soundness -/
section
variable {ops : Array Oper}
theorem upd_same {s : Nat → T} {d : Nat} {t : T} (h : s d = t) : upd s (some d) t = s := by
  funext j; simp only [upd]; split
  · subst_vars; rfl
  · rfl
theorem vops_chain {c : Cx} (hE : c.E.Ok) (hN : ∀ o ∈ c.ops.toList, ∀ d, o.dst = some d → d < c.E.fr.N) :
    ∀ {rest : List Oper} {i : Nat} {acc : List (List Nat × List Nat)} {st : St}, (∀ o ∈ rest, o ∈ c.ops.toList) → vops c i rest acc st →
      ∃ es st', Chain c.E.fr c.ops rest es st st' ∧ (c.draw = true → dynB c.ops (acc.reverse ++ es.map fun e => (e.supp, keysE e)) = true) ∧ c.k st' := by
  intro rest
  induction rest with
  | nil =>
    intro i acc st ho h
    exact ⟨[], st, .nil, fun hd => by simpa using h.1 hd, h.2⟩
  | cons o rest ih =>
    intro i acc st ho h
    have hoN := hN o (ho o (by simp))
    have run : ∀ st, (∀ e, StepO c.E.fr o st e → StepG c.E.fr c.ops o st e) → (vop c.E (c.id * 4096 + i * 8) o.dst st o.op).run c.E st (fun e => vops c (i + 1) rest ((e.supp, keysE e) :: acc) (app st o.dst e)) →
        ∃ es st', Chain c.E.fr c.ops (o :: rest) es st st' ∧ (c.draw = true → dynB c.ops (acc.reverse ++ es.map fun e => (e.supp, keysE e)) = true) ∧ c.k st' := by
      intro st hg hr
      obtain ⟨e, h1, h2⟩ := vop_sound hoN hE _ hr
      obtain ⟨es, st', h3, h4, h5⟩ := ih (fun o h => ho o (by simp [h])) h2
      exact ⟨e :: es, st', .cons (hg e h1) h3, fun hd => by simpa using h4 hd, h5⟩
    have skp : ∀ st, StepG c.E.fr c.ops o st ⟨.tup [], [], []⟩ → vops c (i + 1) rest (([], []) :: acc) (app st o.dst ⟨.tup [], [], []⟩) →
        ∃ es st', Chain c.E.fr c.ops (o :: rest) es st st' ∧ (c.draw = true → dynB c.ops (acc.reverse ++ es.map fun e => (e.supp, keysE e)) = true) ∧ c.k st' := by
      intro st hg hr
      obtain ⟨es, st', h3, h4, h5⟩ := ih (fun o h => ho o (by simp [h])) hr
      exact ⟨⟨.tup [], [], []⟩ :: es, st', .cons hg h3, fun hd => by simpa [keysE] using h4 hd, h5⟩
    simp only [vops, vguard] at h
    split at h
    · rename_i hg
      exact run st (fun e he => stepG_free hg he) h
    · rename_i g want hg
      split at h
      · rename_i d hd
        have hdN : d < c.E.fr.N := by
          cases hog : c.ops[g]? with
          | none => simp [hog] at hd
          | some og => simp only [hog, Option.bind_some] at hd; exact hN og (by simpa using Array.mem_of_getElem? hog) d hd
        split at h
        · rename_i q hq
          by_cases hqw : q = want
          · have h' := h.1 hqw
            rw [upd_same (hqw ▸ hq)] at h'
            exact run st (fun e he => stepG_run hg hd (hqw ▸ hq) hdN he) h'
          · have hqn : q = !want := by cases q <;> cases want <;> simp_all
            have h' := h.2 hqn
            rw [upd_same (hqn ▸ hq)] at h'
            exact skp st (stepG_skip hg hd (.inl (hqn ▸ hq)) hdN hoN) h'
        · rename_i hq
          exact skp st (stepG_skip hg hd (.inr hq) hdN hoN) h
        · exact h.elim
      · exact h.elim

theorem mask_anc {acc : List Nat} {o : Oper} {j i : Nat} (ho : ops[j]? = some o) (hacc : ∀ k i, (acc.getD k 0).testBit i = true → Anc ops i k) (h : (maskOf acc o).testBit i = true) : Anc ops i j := by
  unfold maskOf at h
  have gen : ∀ (l : List Edge) (s : Nat), (∀ e ∈ l, e ∈ o.after) → (s.testBit i = true → Anc ops i j) →
      (l.foldl (fun s e => if Region.binds .any e then s ||| 2 ^ e.on ||| acc.getD e.on 0 else s) s).testBit i = true → Anc ops i j := by
    intro l
    induction l with
    | nil => intro s _ hs h; exact hs h
    | cons e l ih =>
      intro s hl hs h
      refine ih _ (fun e he => hl e (by simp [he])) (fun h2 => ?_) h
      dsimp only at h2
      split at h2
      · rename_i hb
        rw [Nat.testBit_or, Nat.testBit_or, Bool.or_eq_true, Bool.or_eq_true] at h2
        rcases h2 with (h2 | h2) | h2
        · exact hs h2
        · rw [Nat.testBit_two_pow] at h2
          exact .one ho (hl e (by simp)) hb (by simpa using h2)
        · exact .more ho (hl e (by simp)) hb rfl (hacc _ _ h2)
      · exact hs h2
  exact gen _ 0 (by simp) (by simp) h
theorem masks_anc : ∀ {l : List Oper} {acc : List Nat}, (∀ j, l[j]? = ops[acc.length + j]?) → (∀ k i, (acc.getD k 0).testBit i = true → Anc ops i k) → ∀ k i, ((masks acc l).getD k 0).testBit i = true → Anc ops i k := by
  intro l
  induction l with
  | nil => intro acc _ h; exact h
  | cons o l ih =>
    intro acc hl hacc
    refine ih (fun j => by have := hl (j + 1); simp only [List.length_append, List.length_singleton]; simpa [Nat.add_assoc, Nat.add_comm 1 j] using this) ?_
    intro k i h
    rw [List.getD_eq_getElem?_getD, List.getElem?_append] at h
    split at h
    · exact hacc k i (by rw [List.getD_eq_getElem?_getD]; exact h)
    · rename_i hk
      cases hk' : k - acc.length with
      | zero =>
        rw [hk'] at h
        have : k = acc.length := by omega
        subst this
        exact mask_anc (by simpa using (hl 0).symm) hacc (by simpa using h)
      | succ n => rw [hk'] at h; simp at h

theorem apartK_spec {a b : List Nat} (h : apartK a b = true) : ∀ κ ∈ a, κ ∉ b := by
  intro κ hκ hb
  have := List.all_eq_true.1 h κ hκ
  simp at this
  exact this hb
theorem indep_of {N : Nat} {es : List Eff} (hs : statB N true ops = true) (hd : dynB ops (es.map fun e => (e.supp, keysE e)) = true) : Indep ops es := by
  simp only [statB, Bool.not_true, Bool.false_or, Bool.and_eq_true] at hs
  obtain ⟨_, hb, hs⟩ := hs
  have hm := masks_anc (ops := ops) (l := ops.toList) (acc := []) (by simp) (by simp)
  constructor
  · intro i j o o' e e' hij ho ho' he he'
    have hol : ops.toList[i]? = some o := by simpa using ho
    have hol' : ops.toList[j]? = some o' := by simpa using ho'
    have h1 := List.all_eq_true.1 hs j (by simp; exact (Array.getElem?_eq_some_iff.1 ho').1)
    rw [hol'] at h1
    simp only [] at h1
    have h2 := List.all_eq_true.1 h1 i (by simpa using hij)
    rw [hol] at h2
    simp only [Bool.or_eq_true] at h2
    have h3 := List.all_eq_true.1 hd j (by simp; exact (List.getElem?_eq_some_iff.1 he').1)
    simp only [List.getElem?_map, he', Option.map_some, Bool.or_eq_true] at h3
    rcases h2 with h2 | h2
    · exact .inl (hm j i h2)
    rcases h3 with h3 | h3
    · right
      simp only [Bool.and_eq_true, List.isEmpty_iff] at h3
      exact ⟨h2, by simp [h3.2], by simp [h3.1], by simp [h3.2]⟩
    · have h4 := List.all_eq_true.1 h3 i (by simpa using hij)
      simp only [he, Option.map_some, Bool.or_eq_true] at h4
      rcases h4 with h4 | h4
      · exact .inl (hm j i h4)
      · right
        simp only [Bool.and_eq_true] at h4
        exact ⟨h2, apartK_spec h4.1.1, apartK_spec h4.1.2, apartK_spec h4.2⟩
  · intro j o e ho he hbd
    have hol : ops.toList[j]? = some o := by simpa using ho
    have h1 := List.all_eq_true.1 hb j (by simp; exact (Array.getElem?_eq_some_iff.1 ho).1)
    rw [hol] at h1
    simp only [] at h1
    have h2 := List.all_eq_true.1 h1 e (by simpa using he)
    simpa [hbd] using h2

theorem RelE.drew {fr : Fr} {st : St} {a : Act} {W : World} (h : RelE fr st a W) : RelE fr st a W.drew := by
  obtain ⟨ν, F, h⟩ := h
  exact h.grow (dst := none) (v := undef) (t := .un) (supp := []) (Chg.drew W) trivial (by simp)

theorem region_wp {E : Env} (hE : E.Ok) (hm : E.fr.P.follows .mixedOrders = true) {id : Nat} {draw : Bool} {k : St → Prop} {st : St} {a : Act} {W : World} {Q : Exit → Act → World → Prop}
    (hs : statB E.fr.N draw ops = true) (h : vops ⟨E, ops, id, draw, k⟩ 0 ops.toList [] st) (hr : RelE E.fr st a W) (hk : ∀ st' a W, k st' → RelE E.fr st' a W → Q .normal a W) :
    (Code.region id ops draw).wp E.fr.P Q a W := by
  have hN : ∀ o ∈ ops.toList, ∀ d, o.dst = some d → d < E.fr.N := by
    intro o ho d hd
    simp only [statB, Bool.and_eq_true] at hs
    have := List.all_eq_true.1 hs.1 o ho
    simpa [hd] using this
  obtain ⟨es, st', h1, h2, h3⟩ := vops_chain (c := ⟨E, ops, id, draw, k⟩) hE hN (fun o h => h) h
  cases draw with
  | false =>
    refine wp_region ?_
    have := h1.wpOps (k := 0) (Q := Q) (by simp) hr (fun a W hr' => hk st' a W h3 hr')
    rw [List.range_eq_range']
    simpa using this
  | true =>
    refine wp_region_any hm ?_
    refine wpAny_chain h1 (indep_of hs (by simpa using h2 rfl)) (fun a W hr' => hk st' a W h3 hr') _ _ _ _ (by simp) ?_ ?_ ?_
    · intro j o e hj
      exfalso
      simp only [Array.getD_eq_getD_getElem?, Array.getElem?_replicate] at hj
      split at hj <;> simp at hj
    · simp only [Array.toList_replicate]
      exact Nat.le_trans List.countP_le_length (by simp)
    · have off : ∀ (os : List Oper) (es : List Eff) (i : Nat) (st : St), fold (fun j => (Array.replicate ops.size false).getD j false) i os es st = st := by
        intro os
        induction os with
        | nil => intros; rfl
        | cons o os ih =>
          intro es i st
          cases es with
          | nil => rfl
          | cons e es =>
            simp only [fold]
            rw [if_neg (by simp only [Array.getD_eq_getD_getElem?, Array.getElem?_replicate]; split <;> simp)]
            exact ih _ _ _
      rw [off]
      exact hr.drew
end
end Go.Vm

namespace Go.Vm
open Go Go.RowKit

def lkT (j : Nat) : List (Nat × T) → T
  | [] => .un
  | (k, t) :: r => if j = k then t else lkT j r
/-- A state written down: slots, blocks, ghosts. -/
def cst (sl : List (Nat × T)) (hl : List (Nat × Blk)) (gl : List (Nat × T)) : St := ⟨fun j => lkT j sl, fun κ => lk κ hl, fun j => lkT j gl⟩
/-- What a key of the weaker state stands for in the stronger: a key, or an empty row that is nil. -/
def ren (ρ : List (Nat × Option Nat)) (κ : Nat) : Option Nat := match ρ with
  | [] => some κ
  | (k, x) :: r => if κ = k then x else ren r κ

/-- What is data, read now or at the call's beginning. -/
def simCc (x : C) : T → Prop
  | .c y => y = x
  | .ca y => y = x
  | _ => False
mutual
def simT (ρ : List (Nat × Option Nat)) (hl : List (Nat × Blk)) : T → T → Prop
  | .c x, u => simCc x u
  | .nilS, u => u = .nilS
  | .ref κ, u => (lk κ hl).isSome = true ∧ u = (match ren ρ κ with | some κ' => .ref κ' | none => .nilS)
  | .ptr κ off, u => (lk κ hl).isSome = true ∧ ∃ κ', ren ρ κ = some κ' ∧ u = .ptr κ' off
  | .ep κ sz i off, u => (lk κ hl).isSome = true ∧ ∃ κ', ren ρ κ = some κ' ∧ u = .ep κ' sz i off
  | .pv xs, u => u = .pv xs
  | .agg xs, u => ∃ ys, u = .agg ys ∧ simTs ρ hl xs ys
  | .tup xs, u => ∃ ys, u = .tup ys ∧ simTs ρ hl xs ys
  | .clo f xs, u => ∃ ys, u = .clo f ys ∧ simTs ρ hl xs ys
  | .fn sem, u => u = .fn sem
  | .ca x, u => u = .ca x
  | .un, u => True
  | .nn sz es, u => u = .nn sz es
def simTs (ρ : List (Nat × Option Nat)) (hl : List (Nat × Blk)) : List T → List T → Prop
  | [], [] => True
  | t :: ts, u :: us => simT ρ hl t u ∧ simTs ρ hl ts us
  | _, _ => False
end
/-- A row that is no more written: it was so, or is from now on. -/
def froS : Option Blk → Nat → List (List C) → Prop
  | some (.fro sz es), sz', es' => sz' = sz ∧ es' = es
  | some (.arr d _ sz es), sz', es' => sz' = sz ∧ es' = flat d es
  | _, _, _ => False
def simB (ρ : List (Nat × Option Nat)) (hl : List (Nat × Blk)) (h : Nat → Option Blk) (κ : Nat) : Blk → Prop
  | .arr d ty sz es => match ren ρ κ with
    | some κ' => h κ' = some (.arr d ty sz es)
    | none => es = []
  | .box xs => ∃ κ' ys, ren ρ κ = some κ' ∧ h κ' = some (.box ys) ∧ simTs ρ hl xs ys
  | .fro sz es => ∃ κ', ren ρ κ = some κ' ∧ froS (h κ') sz es
  | .dead => ∃ κ', ren ρ κ = some κ' ∧ (h κ').isSome = true
  | .opn ty sz pre mid post => ∃ κ' ms, ren ρ κ = some κ' ∧ h κ' = some (.opn ty sz pre ms post) ∧ simTs ρ hl mid ms
def simS (ρ : List (Nat × Option Nat)) (hl : List (Nat × Blk)) (s : Nat → T) : List (Nat × T) → Prop
  | [] => True
  | (j, t) :: r => simT ρ hl t (s j) ∧ simS ρ hl s r
def simH (ρ : List (Nat × Option Nat)) (hl : List (Nat × Blk)) (h : Nat → Option Blk) : List (Nat × Blk) → Prop
  | [] => True
  | (κ, b) :: r => simB ρ hl h κ b ∧ simH ρ hl h r
def Sim (ρ : List (Nat × Option Nat)) (st : St) (sl : List (Nat × T)) (hl : List (Nat × Blk)) (gl : List (Nat × T)) : Prop :=
  ((hl.map (·.1)).filterMap (ren ρ)).Nodup ∧ simS ρ hl st.s sl ∧ simH ρ hl st.h hl ∧ simS ρ hl st.g gl

section
variable {fr : Fr} {st : St} {a : Act} {W : World} {ν : Nat → Value} {F : Nat → List Nat} {ρ : List (Nat × Option Nat)} {sl gl : List (Nat × T)} {hl : List (Nat × Blk)}

def renV (ρ : List (Nat × Option Nat)) (ν : Nat → Value) (κ : Nat) : Value := match ren ρ κ with
  | some κ' => ν κ'
  | none => .slice none 0 0
def renF (ρ : List (Nat × Option Nat)) (hl : List (Nat × Blk)) (F : Nat → List Nat) (κ : Nat) : List Nat := match lk κ hl with
  | none => []
  | some (.fro _ _) => []
  | some .dead => []
  | some _ => match ren ρ κ with
    | some κ' => F κ'
    | none => []
theorem renF_none {ρ : List (Nat × Option Nat)} {hl : List (Nat × Blk)} {F : Nat → List Nat} {κ : Nat} (h : lk κ hl = none) : renF ρ hl F κ = [] := by simp [renF, h]
theorem renF_fro {ρ : List (Nat × Option Nat)} {hl : List (Nat × Blk)} {F : Nat → List Nat} {κ sz : Nat} {es : List (List C)} (h : lk κ hl = some (.fro sz es)) : renF ρ hl F κ = [] := by simp [renF, h]
theorem renF_dead {ρ : List (Nat × Option Nat)} {hl : List (Nat × Blk)} {F : Nat → List Nat} {κ : Nat} (h : lk κ hl = some .dead) : renF ρ hl F κ = [] := by simp [renF, h]
theorem renF_nil {ρ : List (Nat × Option Nat)} {hl : List (Nat × Blk)} {F : Nat → List Nat} {κ : Nat} (h : ren ρ κ = none) : renF ρ hl F κ = [] := by
  unfold renF; split <;> simp_all
theorem renF_some {ρ : List (Nat × Option Nat)} {hl : List (Nat × Blk)} {F : Nat → List Nat} {κ κ' : Nat} {b : Blk} (h : lk κ hl = some b) (hb : ∀ sz es, b ≠ .fro sz es) (hb2 : b ≠ .dead) (hr : ren ρ κ = some κ') : renF ρ hl F κ = F κ' := by
  unfold renF
  split
  · simp_all
  · rename_i h2; rw [h] at h2; cases h2; exact absurd rfl (hb _ _)
  · rename_i h2; rw [h] at h2; cases h2; exact absurd rfl hb2
  · simp [hr]
theorem renF_mem {ρ : List (Nat × Option Nat)} {hl : List (Nat × Blk)} {F : Nat → List Nat} {κ b : Nat} (h : b ∈ renF ρ hl F κ) : (∃ blk, lk κ hl = some blk ∧ ∀ sz es, blk ≠ .fro sz es) ∧ ∃ κ', ren ρ κ = some κ' ∧ b ∈ F κ' := by
  unfold renF at h
  split at h
  · cases h
  · cases h
  · cases h
  · rename_i blk h1 h2 h3
    split at h
    · rename_i κ' he; exact ⟨⟨blk, h3, fun sz es e => h1 sz es e⟩, κ', he, h⟩
    · cases h

theorem simS_get {s : Nat → T} : ∀ {sl : List (Nat × T)}, simS ρ hl s sl → ∀ j, simT ρ hl (lkT j sl) (s j)
  | [], _, j => by simp only [lkT, simT]
  | (k, t) :: r, h, j => by
    simp only [lkT]
    split
    · rename_i hj; subst hj; exact h.1
    · exact simS_get h.2 j
theorem simH_get {h : Nat → Option Blk} : ∀ {l : List (Nat × Blk)}, simH ρ hl h l → ∀ κ b, lk κ l = some b → simB ρ hl h κ b
  | [], _, κ, b, hb => by simp [lk] at hb
  | (k, x) :: r, h, κ, b, hb => by
    simp only [lk] at hb
    split at hb
    · rename_i hj; subst hj; cases hb; exact h.1
    · exact simH_get h.2 κ b hb

mutual
theorem simT_rz {ok ok' : Nat → Prop} {h : Nat → Option Blk} (hca : ∀ x v, C.rz fr.W0 fr.ok0 0 x v [] → C.rz W ok' 0 x v []) (hok : ∀ b, ok b → ok' b) (hh : ∀ κ κ', (lk κ hl).isSome = true → ren ρ κ = some κ' → (h κ').isSome = true) :
    ∀ (t u : T) (v : Value), simT ρ hl t u → T.rz fr W ok ν h u v → T.rz fr W ok' (renV ρ ν) (fun κ => lk κ hl) t v
  | .c x, u, v, hs, hr => by
    simp only [simT] at hs
    unfold simCc at hs
    split at hs
    · subst hs; simp only [T.rz] at hr ⊢; exact C.rz_move (fun b hb => ⟨hok b hb, rfl⟩) (Nat.le_refl _) _ v [] (by simp) hr
    · subst hs; simp only [T.rz] at hr ⊢; exact hca _ _ hr
    · exact hs.elim
  | .nilS, u, v, hs, hr => by simp only [simT] at hs; subst hs; simpa only [T.rz] using hr
  | .ref κ, u, v, hs, hr => by
    simp only [simT] at hs
    obtain ⟨h1, rfl⟩ := hs
    simp only [T.rz]
    refine ⟨?_, h1⟩
    unfold renV
    cases hk : ren ρ κ with
    | none => simp only [hk, T.rz] at hr; exact hr
    | some κ' => simp only [hk, T.rz] at hr; exact hr.1
  | .ptr κ off, u, v, hs, hr => by
    simp only [simT] at hs
    obtain ⟨h1, κ', hk, rfl⟩ := hs
    simp only [T.rz] at hr ⊢
    exact ⟨h1, by unfold renV; simp only [hk]; exact hr.2⟩
  | .ep κ sz i off, u, v, hs, hr => by
    simp only [simT] at hs
    obtain ⟨h1, κ', hk, rfl⟩ := hs
    simp only [T.rz] at hr ⊢
    exact ⟨h1, by unfold renV; simp only [hk]; exact hr.2⟩
  | .pv xs, u, v, hs, hr => by
    simp only [simT] at hs; subst hs
    simp only [T.rz] at hr ⊢
    obtain ⟨b, o, us, h1, h2, h3, h4⟩ := hr
    exact ⟨b, o, us, h1, hok b h2, Cs.rz_move (fun b hb => ⟨hok b hb, rfl⟩) (Nat.le_refl _) xs us [] (by simp) h3, h4⟩
  | .agg xs, u, v, hs, hr => by
    simp only [simT] at hs
    obtain ⟨ys, rfl, h1⟩ := hs
    simp only [T.rz] at hr ⊢
    obtain ⟨us, h2, h3, h4⟩ := hr
    exact ⟨us, h2, h3, simTs_rz hca hok hh xs ys us h1 h4⟩
  | .tup xs, u, v, hs, hr => by
    simp only [simT] at hs
    obtain ⟨ys, rfl, h1⟩ := hs
    simp only [T.rz] at hr ⊢
    obtain ⟨us, h2, h4⟩ := hr
    exact ⟨us, h2, simTs_rz hca hok hh xs ys us h1 h4⟩
  | .clo f xs, u, v, hs, hr => by
    simp only [simT] at hs
    obtain ⟨ys, rfl, h1⟩ := hs
    simp only [T.rz] at hr ⊢
    obtain ⟨us, h2, h4⟩ := hr
    exact ⟨us, h2, simTs_rz hca hok hh xs ys us h1 h4⟩
  | .fn sem, u, v, hs, hr => by simp only [simT] at hs; subst hs; simpa only [T.rz] using hr
  | .ca x, u, v, hs, hr => by simp only [simT] at hs; subst hs; simpa only [T.rz] using hr
  | .un, u, v, hs, hr => by simp only [T.rz]
  | .nn sz es, u, v, hs, hr => by simp only [simT] at hs; subst hs; simp only [T.rz] at hr ⊢; exact ⟨C.rz_move (fun b hb => ⟨hok b hb, rfl⟩) (Nat.le_refl _) _ v [] (by simp) hr.1, hr.2⟩
theorem simTs_rz {ok ok' : Nat → Prop} {h : Nat → Option Blk} (hca : ∀ x v, C.rz fr.W0 fr.ok0 0 x v [] → C.rz W ok' 0 x v []) (hok : ∀ b, ok b → ok' b) (hh : ∀ κ κ', (lk κ hl).isSome = true → ren ρ κ = some κ' → (h κ').isSome = true) :
    ∀ (ts us : List T) (vs : List Value), simTs ρ hl ts us → Ts.rz fr W ok ν h us vs → Ts.rz fr W ok' (renV ρ ν) (fun κ => lk κ hl) ts vs
  | [], us, vs, hs, hr => by
    cases us with
    | nil => simpa only [Ts.rz] using hr
    | cons => simp only [simTs] at hs
  | t :: ts, us, vs, hs, hr => by
    cases us with
    | nil => simp only [simTs] at hs
    | cons u us' =>
      simp only [simTs] at hs
      obtain ⟨h1, h2⟩ := hs
      simp only [Ts.rz] at hr ⊢
      obtain ⟨v, vs', rfl, h3, h4⟩ := hr
      exact ⟨v, vs', rfl, simT_rz hca hok hh t u v h1 h3, simTs_rz hca hok hh ts us' vs' h2 h4⟩
end

theorem nodup_inj {α β : Type} {f : α → Option β} : ∀ {l : List α}, (l.filterMap f).Nodup → ∀ x ∈ l, ∀ y ∈ l, ∀ b, f x = some b → f y = some b → x = y
  | [], _, x, hx, _, _, _, _, _ => by cases hx
  | z :: l, h, x, hx, y, hy, b, h1, h2 => by
    have hl : (l.filterMap f).Nodup := by
      rw [List.filterMap_cons] at h; split at h
      · exact h
      · exact (List.nodup_cons.1 h).2
    have hz : ∀ w ∈ l, f z = some b → f w = some b → False := by
      intro w hw hz hw'
      rw [List.filterMap_cons, hz] at h
      exact (List.nodup_cons.1 h).1 (List.mem_filterMap.2 ⟨w, hw, hw'⟩)
    rcases List.mem_cons.1 hx with rfl | hx <;> rcases List.mem_cons.1 hy with rfl | hy
    · rfl
    · exact (hz y (by assumption) h1 h2).elim
    · exact (hz x (by assumption) h2 h1).elim
    · exact nodup_inj hl x hx y hy b h1 h2

/-- WEAKENING. -/
theorem Rel.weak' (hr : Rel fr st a W ν F) (hs : Sim ρ st sl hl gl) : Rel fr (cst sl hl gl) a W (renV ρ ν) (renF ρ hl F) ∧
    ∀ t u v, simT ρ hl t u → T.rz fr W (okOf fr W st.h ν) ν st.h u v → T.rz fr W (okOf fr W (fun κ => lk κ hl) (renV ρ ν)) (renV ρ ν) (fun κ => lk κ hl) t v := by
  obtain ⟨hn, h1, h2, h3⟩ := hs
  have inj : ∀ κ κ' x, (lk κ hl).isSome = true → (lk κ' hl).isSome = true → ren ρ κ = some x → ren ρ κ' = some x → κ = κ' := by
    intro κ κ' x hk hk' e1 e2
    exact nodup_inj hn κ (lk_isSome.1 hk) κ' (lk_isSome.1 hk') x e1 e2
  have hh : ∀ κ κ', (lk κ hl).isSome = true → ren ρ κ = some κ' → (st.h κ').isSome = true := by
    intro κ κ' hk he
    cases hb : lk κ hl with
    | none => simp [hb] at hk
    | some b =>
      have := simH_get h2 κ b hb
      cases b with
      | arr d ty sz es => simp only [simB, he] at this; simp [this]
      | box xs => simp only [simB, he] at this; obtain ⟨k, ys, e, h, _⟩ := this; cases e; simp [h]
      | fro sz es =>
        simp only [simB, he] at this; obtain ⟨k, e, h⟩ := this; cases e
        cases hk' : st.h κ' with
        | none => simp [hk', froS] at h
        | some _ => rfl
      | dead => simp only [simB, he] at this; obtain ⟨k, e, h⟩ := this; cases e; exact h
      | opn ty sz pre mid post => simp only [simB, he] at this; obtain ⟨k, ms, e, h, _⟩ := this; cases e; simp [h]
  have htop' : ∀ κ b, topOf (fun κ => lk κ hl) (renV ρ ν) κ = some b → (∃ blk, lk κ hl = some blk ∧ ∀ sz es, blk ≠ .fro sz es) ∧ ∃ κ', ren ρ κ = some κ' ∧ topOf st.h ν κ' = some b := by
    intro κ b ht
    unfold topOf at ht
    cases hb : lk κ hl with
    | none => simp [hb, topB] at ht
    | some blk =>
      refine ⟨⟨blk, rfl, fun sz es e => by subst e; simp [hb, topB] at ht⟩, ?_⟩
      have hsb := simH_get h2 κ blk hb
      simp only [hb] at ht
      cases blk with
      | arr d ty sz es =>
        simp only [topB, renV] at ht
        simp only [simB] at hsb
        cases hk : ren ρ κ with
        | none => simp [hk, Value.ownBlock] at ht
        | some κ' => simp only [hk] at ht hsb; exact ⟨κ', rfl, by simp only [topOf, hsb, topB]; exact ht⟩
      | box xs =>
        simp only [simB] at hsb
        obtain ⟨κ', ys, hk, h, _⟩ := hsb
        simp only [topB, renV, hk] at ht
        exact ⟨κ', hk, by simp only [topOf, h, topB]; exact ht⟩
      | fro => simp [topB] at ht
      | dead => simp [topB] at ht
      | opn ty sz pre mid post =>
        simp only [simB] at hsb
        obtain ⟨κ', ms, hk, h, _⟩ := hsb
        simp only [topB, renV, hk] at ht
        exact ⟨κ', hk, by simp only [topOf, h, topB]; exact ht⟩
  have htop : ∀ κ b, topOf (fun κ => lk κ hl) (renV ρ ν) κ = some b → (lk κ hl).isSome = true ∧ ∃ κ', ren ρ κ = some κ' ∧ topOf st.h ν κ' = some b := fun κ b h => by
    obtain ⟨⟨blk, h1, _⟩, h2⟩ := htop' κ b h
    exact ⟨by rw [h1]; rfl, h2⟩
  have hFm : ∀ κ b, b ∈ renF ρ hl F κ → (lk κ hl).isSome = true ∧ ∃ κ', ren ρ κ = some κ' ∧ b ∈ F κ' := fun κ b h => by
    obtain ⟨⟨blk, h1, _⟩, h2⟩ := renF_mem h
    exact ⟨by rw [h1]; rfl, h2⟩
  have hok : ∀ b, okOf fr W st.h ν b → okOf fr W (fun κ => lk κ hl) (renV ρ ν) b := by
    rintro b ⟨e1, e2, e3⟩
    refine ⟨e1, e2, fun κ ht => ?_⟩
    obtain ⟨_, κ', _, h⟩ := htop κ b ht
    exact e3 κ' h
  have hca : ∀ x v, C.rz fr.W0 fr.ok0 0 x v [] → C.rz W (okOf fr W (fun κ => lk κ hl) (renV ρ ν)) 0 x v [] := fun x v hx =>
    C.rz_move (fun b hb => ⟨hok b hb, rfl⟩) (Nat.le_refl _) x v [] (by simp) (hr.ca hx)
  refine ⟨?_, fun t u v => simT_rz hca hok hh t u v⟩
  refine ⟨hr.defers, hr.size, hr.below, hr.ok0, fun j => simT_rz hca hok hh _ _ _ (simS_get h1 j) (hr.slots j), fun j => simT_rz hca hok hh _ _ _ (simS_get h3 j) (hr.ghosts j), ?_, ?_, ?_, ?_, ?_, ?_, fun κ b e1 => let ⟨_, x, _, x2⟩ := htop κ b e1; hr.n1 x b x2, fun κ b e1 => let ⟨_, x, _, x2⟩ := hFm κ b e1; hr.n2 x b x2⟩
  · intro κ blk hb
    have hsb := simH_get h2 κ blk hb
    have hb0 : lk κ hl = some blk := hb
    have hsome : (lk κ hl).isSome = true := by rw [hb0]; rfl
    have hF : (∀ sz es, blk ≠ .fro sz es) → blk ≠ .dead → ∀ κ', ren ρ κ = some κ' → renF ρ hl F κ = F κ' := fun hn hn2 κ' he => renF_some hb0 hn hn2 he
    have hν : ∀ κ', ren ρ κ = some κ' → renV ρ ν κ = ν κ' := fun κ' he => by simp [renV, he]
    cases blk with
    | arr d ty sz es =>
      simp only [simB] at hsb
      cases hk : ren ρ κ with
      | none =>
        simp only [hk] at hsb
        subst hsb
        have hF0 : renF ρ hl F κ = [] := renF_nil hk
        have hv0 : renV ρ ν κ = .slice none 0 0 := by simp [renV, hk]
        rw [hF0]
        cases d with
        | true => simp only [Blk.rz, hv0]; exact ⟨[], World.ownsRow_nil W _ ty sz, by simp [Es.rz]⟩
        | false => simp only [Blk.rz, hv0]; exact ⟨[], World.ownsRow_nil W _ ty sz, by simp [Es.rz], trivial⟩
      | some κ' =>
        simp only [hk] at hsb
        have := hr.heap κ' _ hsb
        rw [hF (by simp) (by simp) κ' hk]
        cases d with
        | true => simp only [Blk.rz, hν κ' hk] at this ⊢; exact this
        | false =>
          simp only [Blk.rz, hν κ' hk] at this ⊢
          obtain ⟨xs, g1, g2, g3⟩ := this
          exact ⟨xs, g1, Es.rz_move (fun b hb => ⟨hok b hb, rfl⟩) (Nat.le_refl _) sz es xs [] (by simp) g2, g3⟩
    | box xs =>
      simp only [simB] at hsb
      obtain ⟨κ', ys, hk, hb', hts⟩ := hsb
      have := hr.heap κ' _ hb'
      rw [hF (by simp) (by simp) κ' hk]
      simp only [Blk.rz, hν κ' hk] at this ⊢
      obtain ⟨g1, b, us, ty, g2, g3, g4, g5, g6⟩ := this
      exact ⟨g1, b, us, ty, g2, g3, g4, simTs_rz hca hok hh xs ys us hts g5, g6⟩
    | fro sz es =>
      simp only [simB] at hsb
      obtain ⟨κ', hk, hb'⟩ := hsb
      rw [renF_fro hb0]
      simp only [Blk.rz, hν κ' hk]
      refine ⟨trivial, ?_⟩
      unfold froS at hb'
      split at hb'
      · rename_i sz' es' he
        obtain ⟨rfl, rfl⟩ := hb'
        have := hr.heap κ' _ he
        simp only [Blk.rz] at this
        exact C.rz_move (fun b hb => ⟨hok b hb, rfl⟩) (Nat.le_refl _) _ _ [] (by simp) this.2
      · rename_i d ty sz' es' he
        obtain ⟨rfl, rfl⟩ := hb'
        obtain ⟨xs, e1, e2, e3⟩ := hr.arr_own he
        have own : ∀ b, b ∈ ownK ν F st.h κ' → okOf fr W (fun κ => lk κ hl) (renV ρ ν) b := fun b hb => by
          refine ⟨.inr (hr.ownK_lt hb).1, (hr.ownK_lt hb).2, fun κ1 ht => ?_⟩
          obtain ⟨⟨blk1, g1, g2⟩, x, g3, g4⟩ := htop' κ1 b ht
          have hne : κ' ≠ x := by
            rintro rfl
            have := inj κ1 κ κ' (by rw [g1]; rfl) hsome g3 hk
            subst this
            rw [hb0] at g1; cases g1
            exact g2 _ _ rfl
          exact hr.ownK_apart hne hb (by simp [ownK, g4])
        refine C.rz_share (e := ty) (B := fr.B) (xs := xs) (by rw [flat_length]; exact e1) ?_ (fun b hb => own b (by simp [ownK, e3, hb]))
        cases d with
        | true =>
          simp only [if_true] at e2
          exact Es.rz_strip _ _ xs (F κ') (fun b hb => own b (by simp [ownK, hb])) (Es.rz_move (fun b hb => hb.elim) (Nat.le_refl _) _ _ xs (F κ') (fun _ _ => rfl) e2)
        | false =>
          simp only [Bool.false_eq_true, if_false] at e2
          exact Es.rz_base _ _ _ (Es.rz_move (fun b hb => ⟨hok b hb, rfl⟩) (Nat.le_refl _) _ _ xs [] (by simp) e2.1)
      · exact hb'.elim
    | dead =>
      simp only [simB] at hsb
      obtain ⟨κ', hk, hb'⟩ := hsb
      rw [renF_dead hb0]
      simp only [Blk.rz, hν κ' hk]
      exact ⟨trivial, hr.one hb'⟩
    | opn ty sz pre mid post =>
      simp only [simB] at hsb
      obtain ⟨κ', ts, hk, hb', hts⟩ := hsb
      have := hr.heap κ' _ hb'
      rw [hF (by simp) (by simp) κ' hk]
      simp only [Blk.rz, hν κ' hk] at this ⊢
      obtain ⟨xs, ms, ys, f1, f2, g1, g2, g3, g4, g5, g6, g7⟩ := this
      refine ⟨xs, ms, ys, f1, f2, g1, g2, simTs_rz hca hok hh mid ts ms hts g3, g4, ?_, g6, g7⟩
      have e1 := Ts.rz_length _ _ g3
      have e2 := Ts.rz_length _ _ (simTs_rz hca hok hh mid ts ms hts g3)
      omega
  · intro κ hb
    exact renF_none hb
  · intro κ κ' b hne e1 e2
    obtain ⟨s1, x, x1, x2⟩ := htop κ b e1
    obtain ⟨s2, y, y1, y2⟩ := htop κ' b e2
    have hxy : x ≠ y := by rintro rfl; exact hne (inj κ κ' x s1 s2 x1 y1)
    exact hr.d1 x y b hxy x2 y2
  · intro κ κ' b e1 e2
    obtain ⟨s1, x, x1, x2⟩ := hFm κ b e1
    obtain ⟨s2, y, y1, y2⟩ := htop κ' b e2
    exact hr.d2 x y b x2 y2
  · intro κ
    unfold renF
    split
    · simp
    · simp
    · simp
    · split
      · exact hr.d3 _
      · simp
  · intro κ κ' b hne e1 e2
    obtain ⟨s1, x, x1, x2⟩ := hFm κ b e1
    obtain ⟨s2, y, y1, y2⟩ := hFm κ' b e2
    have hxy : x ≠ y := by rintro rfl; exact hne (inj κ κ' x s1 s2 x1 y1)
    exact hr.d4 x y b hxy x2 y2
theorem Rel.weak (hr : Rel fr st a W ν F) (hs : Sim ρ st sl hl gl) : Rel fr (cst sl hl gl) a W (renV ρ ν) (renF ρ hl F) := (hr.weak' hs).1
theorem RelE.weak (hr : RelE fr st a W) (hs : Sim ρ st sl hl gl) : RelE fr (cst sl hl gl) a W := let ⟨ν, F, h⟩ := hr; ⟨_, _, h.weak hs⟩
end
end Go.Vm

namespace Go.Vm
open Go Go.RowKit

/-- What is still to come. -/
inductive Fm where
  | code (c : Code)
  | blk (id : Nat)
  | scp
  | lp (I : St → Prop)
def kQ (fr : Fr) (R : Exit → Act → World → Prop) : List Fm → Exit → Act → World → Prop
  | [] => R
  | .code c :: ks => Exit.then (c.wp fr.P (kQ fr R ks)) (kQ fr R ks)
  | .blk id :: ks => Exit.inBlock id (kQ fr R ks)
  | .scp :: ks => Exit.noGoto (kQ fr R ks)
  | .lp I :: ks => Exit.then (fun a W => ∃ st, I st ∧ RelE fr st a W) (kQ fr R ks)
/-- From here on all goes well. -/
def evx (E : Env) (R : Exit → Act → World → Prop) (ks : List Fm) (x : Exit) (st : St) : Prop := ∀ a W, RelE E.fr st a W → kQ E.fr R ks x a W
def ev (E : Env) (R : Exit → Act → World → Prop) (ks : List Fm) (st : St) : Prop := evx E R ks .normal st
/-- What a loop's head knows at the next round. -/
def lpInv {ι : Type} (sl : ι → List (Nat × T)) (hl : ι → List (Nat × Blk)) (gl : ι → List (Nat × T)) (pre : ι → Prop) (μ : ι → Nat) (n : Nat) (st : St) : Prop :=
  ∃ j, pre j ∧ μ j < n ∧ st = cst (sl j) (hl j) (gl j)

section
variable {E : Env} {R : Exit → Act → World → Prop} {ks : List Fm} {st : St} {x : Exit}
theorem ev_skip (h : ev E R ks st) : ev E R (.code .skip :: ks) st := fun a W hr => wp_skip (h a W hr)
theorem ev_seq {c d : Code} (h : ev E R (.code c :: .code d :: ks) st) : ev E R (.code (.seq c d) :: ks) st := fun a W hr => wp_seq (h a W hr)
theorem ev_cond {c : Operand} {u v : Code} {q : Bool} (hc : opd st.s c = .c (.bool q)) (ht : q = true → ev E R (.code u :: ks) st) (hf : q = false → ev E R (.code v :: ks) st) : ev E R (.code (.cond c u v) :: ks) st :=
  fun a W hr => by
    have hv : a.eval c = .bool q := by
      obtain ⟨ν, F, hr'⟩ := hr
      exact rz_bool (by rw [← hc]; exact hr'.opd c)
    exact wp_cond_split hv (fun h => ht h a W hr) (fun h => hf h a W hr)
theorem ev_block {id : Nat} {c : Code} (h : ev E R (.code c :: .blk id :: ks) st) : ev E R (.code (.block id c) :: ks) st := fun a W hr => wp_block (h a W hr)
theorem ev_scope {c : Code} (h : ev E R (.code c :: .scp :: ks) st) : ev E R (.code (.scope c) :: ks) st := fun a W hr => wp_scope_straight (h a W hr)
theorem ev_blk {id : Nat} (h : ev E R ks st) : ev E R (.blk id :: ks) st := fun a W hr => h a W hr
theorem ev_scp (h : ev E R ks st) : ev E R (.scp :: ks) st := fun a W hr => h a W hr
theorem ev_exit {id : Nat} (h : evx E R ks (.exit id) st) : ev E R (.code (.exit id) :: ks) st := fun a W hr => wp_exit (h a W hr)
theorem ev_ret (h : evx E R ks .ret st) : ev E R (.code .ret :: ks) st := fun a W hr => wp_ret (h a W hr)
theorem evx_code_exit {id : Nat} {c : Code} (h : evx E R ks (.exit id) st) : evx E R (.code c :: ks) (.exit id) st := fun a W hr => h a W hr
theorem evx_code_ret {c : Code} (h : evx E R ks .ret st) : evx E R (.code c :: ks) .ret st := fun a W hr => h a W hr
theorem evx_lp_exit {id : Nat} {I : St → Prop} (h : evx E R ks (.exit id) st) : evx E R (.lp I :: ks) (.exit id) st := fun a W hr => h a W hr
theorem evx_lp_ret {I : St → Prop} (h : evx E R ks .ret st) : evx E R (.lp I :: ks) .ret st := fun a W hr => h a W hr
theorem evx_scp_exit {id : Nat} (h : evx E R ks (.exit id) st) : evx E R (.scp :: ks) (.exit id) st := fun a W hr => h a W hr
theorem evx_scp_ret (h : evx E R ks .ret st) : evx E R (.scp :: ks) .ret st := fun a W hr => h a W hr
theorem evx_blk_ret {id : Nat} (h : evx E R ks .ret st) : evx E R (.blk id :: ks) .ret st := fun a W hr => h a W hr
theorem evx_blk_hit {id : Nat} (h : ev E R ks st) : evx E R (.blk id :: ks) (.exit id) st := fun a W hr => by
  show Exit.inBlock id (kQ E.fr R ks) (.exit id) a W
  simp only [Exit.inBlock, if_true]; exact h a W hr
theorem evx_blk_pass {id id' : Nat} (hne : id' ≠ id) (h : evx E R ks (.exit id') st) : evx E R (.blk id :: ks) (.exit id') st := fun a W hr => by
  show Exit.inBlock id (kQ E.fr R ks) (.exit id') a W
  simp only [Exit.inBlock, hne, if_false]; exact h a W hr
theorem ev_region {id : Nat} {ops : List Oper} {draw : Bool} (hE : E.Ok) (hm : E.fr.P.follows .mixedOrders = true) (hs : statB E.fr.N draw ops.toArray = true) (h : vops ⟨E, ops.toArray, id, draw, ev E R ks⟩ 0 ops [] st) :
    ev E R (.code (.region id ops.toArray draw) :: ks) st := fun a W hr =>
  region_wp hE hm hs h hr fun st' a W hk hr' => hk a W hr'
theorem ev_loop {ι : Type} {c : Code} (sl : ι → List (Nat × T)) (hl : ι → List (Nat × Blk)) (gl : ι → List (Nat × T)) (pre : ι → Prop) (μ : ι → Nat) (i0 : ι) (ρ : List (Nat × Option Nat)) (hpre : pre i0)
    (h0 : Sim ρ st (sl i0) (hl i0) (gl i0)) (hb : ∀ i, pre i → ev E R (.code c :: .lp (lpInv sl hl gl pre μ (μ i)) :: ks) (cst (sl i) (hl i) (gl i))) : ev E R (.code (.loop c) :: ks) st := fun a W hr => by
  have key : ∀ n i, μ i < n → ∀ a W, pre i → RelE E.fr (cst (sl i) (hl i) (gl i)) a W → Code.rounds E.fr.P c (kQ E.fr R ks) n a W := by
    intro n
    induction n with
    | zero => intro i hn; omega
    | succ n ih =>
      intro i hn a W hp hr
      rw [rounds_succ]
      refine wp_mono (hb i hp a W hr) ?_
      intro e a' W' hq
      cases e with
      | normal =>
        obtain ⟨st', ⟨j, hpj, hlt, rfl⟩, hr'⟩ := hq
        exact ih j (by omega) a' W' hpj hr'
      | _ => exact hq
  exact wp_loop_rounds _ (key (μ i0 + 1) i0 (by omega) a W hpre (hr.weak h0))
theorem ev_lp {ι : Type} {sl : ι → List (Nat × T)} {hl : ι → List (Nat × Blk)} {gl : ι → List (Nat × T)} {pre : ι → Prop} {μ : ι → Nat} {n : Nat} (j : ι) (ρ : List (Nat × Option Nat)) (hp : pre j) (hm : μ j < n) (h : Sim ρ st (sl j) (hl j) (gl j)) :
    ev E R (.lp (lpInv sl hl gl pre μ n) :: ks) st := fun a W hr => ⟨_, ⟨j, hp, hm, rfl⟩, hr.weak h⟩
/-- A cut: from here on less is known. -/
theorem ev_cut (sl : List (Nat × T)) (hl : List (Nat × Blk)) (gl : List (Nat × T)) (ρ : List (Nat × Option Nat)) (h : Sim ρ st sl hl gl) (hk : ev E R ks (cst sl hl gl)) : ev E R ks st := fun a W hr => hk a W (hr.weak h)
theorem Rel.reslot {fr : Fr} {a : Act} {W : World} {ν : Nat → Value} {F : Nat → List Nat} (hr : Rel fr st a W ν F) {j : Nat} {t : T} (ht : T.rz fr W (okOf fr W st.h ν) ν st.h t (a.tmps.getD j undef)) :
    Rel fr ⟨upd st.s (some j) t, st.h, st.g⟩ a W ν F :=
  ⟨hr.defers, hr.size, hr.below, hr.ok0, fun i => by
    simp only [upd]; split
    · rename_i h; subst h; exact ht
    · exact hr.slots i, hr.ghosts, hr.heap, hr.none_, hr.d1, hr.d2, hr.d3, hr.d4, hr.n1, hr.n2⟩
/-- A slice is nil, or it is not. -/
theorem ev_nil {j sz : Nat} {es : List (List C)} (hj : st.s j = .c (.sl none sz es)) (h1 : es = [] → ev E R ks ⟨upd st.s (some j) .nilS, st.h, st.g⟩) (h2 : ev E R ks ⟨upd st.s (some j) (.nn sz es), st.h, st.g⟩) : ev E R ks st := fun a W ⟨ν, F, hr⟩ => by
  have hs := hr.slots j
  rw [hj] at hs
  simp only [T.rz] at hs
  have hs0 := hs
  simp only [C.rz] at hs
  obtain ⟨_, A, c, xs, hv, _, _, hA, hne, _⟩ := hs
  cases A with
  | none =>
    have he : es = [] := by
      cases es with
      | nil => rfl
      | cons e es => obtain ⟨b, o, h, _⟩ := hne (by simp); cases h
    subst he
    have hc := hA.1 rfl
    subst hc
    exact h1 rfl a W ⟨ν, F, hr.reslot (by simp only [T.rz]; exact hv)⟩
  | some ad => exact h2 a W ⟨ν, F, hr.reslot (by simp only [T.rz]; exact ⟨hs0, ad, _, c, hv⟩)⟩
end
end Go.Vm

namespace Go.Vm
open Go Go.RowKit

def entT : Arg → T
  | .d (true, cs) => .agg (cs.map .c)
  | .d (false, [c]) => .c c
  | .d (false, _) => .un
  | .pv xs => .pv xs
  | .fn sem => .fn sem
def entL : Nat → List Arg → List (Nat × T)
  | _, [] => []
  | i, g :: gs => (i, entT g) :: entL (i + 1) gs
/-- How a call begins. -/
def ent (gs : List Arg) : St := cst (entL 0 gs) [] []

section
variable {fr : Fr} {st : St} {a : Act} {W : World} {ν : Nat → Value} {F : Nat → List Nat} {P : Program} {ok ok' : Nat → Prop} {h : Nat → Option Blk}

theorem Cs_Ts : ∀ {cs : List C} {us : List Value}, Cs.rz W ok 0 cs us [] → Ts.rz fr W ok ν h (cs.map .c) us
  | [], us, hr => by simp only [Cs.rz] at hr; simp [Ts.rz, hr.1]
  | c :: cs, us, hr => by
    simp only [Cs.rz] at hr
    obtain ⟨u, us', f1, f2, rfl, hf, h1, h2⟩ := hr
    obtain ⟨rfl, rfl⟩ : f1 = [] ∧ f2 = [] := by simpa using hf.symm
    simp only [List.map_cons, Ts.rz, T.rz]
    exact ⟨u, us', rfl, h1, Cs_Ts h2⟩
theorem entT_rz {g : Arg} {v : Value} (hfr : fr.P = P) (hX : fr.X = fun _ => False) (hW : fr.W0 = W) (hr : g.rz P W ok v) : T.rz fr W ok ν h (entT g) v := by
  cases g with
  | d x =>
    obtain ⟨us, h1, h2⟩ := hr
    obtain ⟨ag, cs⟩ := x
    cases ag with
    | true =>
      simp only [if_true] at h2
      simp only [entT, T.rz]
      exact ⟨us, h2, Cs.rz_one _ _ _ h1, Cs_Ts h1⟩
    | false =>
      simp only [Bool.false_eq_true, if_false] at h2
      subst h2
      match cs, h1 with
      | [], h1 => simp [Cs.rz] at h1
      | [c], h1 =>
        simp only [Cs.rz, List.cons.injEq] at h1
        obtain ⟨u, us', f1, f2, ⟨rfl, rfl⟩, hf, h3, h4⟩ := h1
        obtain ⟨rfl, rfl⟩ : f1 = [] ∧ f2 = [] := by simpa using hf.symm
        simp only [entT, T.rz]; exact h3
      | c :: d :: cs, h1 => simp [entT, T.rz]
  | pv xs =>
    simp only [entT, T.rz]
    exact hr
  | fn sem =>
    simp only [entT, T.rz]
    rw [hfr, hW, hX]; exact hr
theorem entL_rz (hfr : fr.P = P) (hX : fr.X = fun _ => False) (hW : fr.W0 = W) : ∀ {gs : List Arg} {vs : List Value} {i : Nat}, Args.rz P W ok gs vs → ∀ j, T.rz fr W ok ν h (lkT j (entL i gs)) (if i ≤ j then vs.getD (j - i) undef else undef) := by
  intro gs
  induction gs with
  | nil => intro vs i hr j; simp [entL, lkT, T.rz]
  | cons g gs ih =>
    intro vs i hr j
    simp only [Args.rz] at hr
    obtain ⟨v, vs', rfl, h1, h2⟩ := hr
    simp only [entL, lkT]
    split
    · rename_i hj; subst hj; simpa using entT_rz hfr hX hW h1
    · rename_i hj
      have := ih (i := i + 1) h2 j
      by_cases hle : i + 1 ≤ j
      · rw [if_pos hle] at this
        rw [if_pos (by omega), show j - i = (j - (i + 1)) + 1 by omega]
        simpa using this
      · rw [if_neg hle] at this
        rw [if_neg (by omega)]
        exact this
theorem Args.length : ∀ {gs : List Arg} {vs : List Value}, Args.rz P W ok gs vs → vs.length = gs.length
  | [], vs, h => by simp only [Args.rz] at h; simp [h]
  | g :: gs, vs, h => by
    simp only [Args.rz] at h
    obtain ⟨v, vs', rfl, _, h2⟩ := h
    simp [Args.length h2]

theorem ent_rel {gs : List Arg} {vs : List Value} {N : Nat} (hok : ∀ b, ok b → b < W.heap.size) (hr : Args.rz P W ok gs vs) (hN : gs.length ≤ N) :
    RelE ⟨P, W, ok, N, fun _ => undef, fun _ => False, fun _ => False⟩ (ent gs) { tmps := vs.toArray ++ Array.replicate (N - vs.toArray.size) undef, defers := [] } W := by
  have hl := Args.length hr
  have hok' : ∀ b, ok b → okOf ⟨P, W, ok, N, fun _ => undef, fun _ => False, fun _ => False⟩ W (fun _ => none) (fun _ => undef) b := fun b hb => ⟨.inl hb, hok b hb, fun κ => by simp [topOf, topB]⟩
  refine ⟨fun _ => undef, fun _ => [], ⟨rfl, by simp; omega, .of (Bel.refl _ _), fun b hb => ⟨hok b hb, id⟩, fun j => ?_, fun j => by simp [ent, cst, lkT, T.rz], fun κ b hb => by simp [ent, cst, lk] at hb, fun _ _ => rfl, fun κ κ' b _ hb => by simp [ent, cst, topOf, lk, topB] at hb, by simp, by simp, by simp, fun κ b hb => by simp [ent, cst, topOf, lk, topB] at hb, by simp⟩⟩
  have h1 := entL_rz (fr := ⟨P, W, ok, N, fun _ => undef, fun _ => False, fun _ => False⟩) (ν := fun _ => undef) (h := fun _ => none) rfl rfl rfl (i := 0) hr j
  rw [if_pos (Nat.zero_le j), Nat.sub_zero] at h1
  have e : (vs.toArray ++ Array.replicate (N - vs.toArray.size) undef).getD j undef = vs.getD j undef := by
    rw [Array.getD_eq_getD_getElem?, List.getD_eq_getElem?_getD, Array.getElem?_append]
    split
    · simp
    · rename_i hlt
      rw [List.getElem?_eq_none (by simpa using hlt), Array.getElem?_replicate]
      split <;> rfl
  show T.rz _ W _ _ _ (lkT j (entL 0 gs)) _
  rw [e]
  exact T.rz_move (fun b hb => ⟨hok' b hb, rfl⟩) (fun _ _ => rfl) (fun _ hs => by simp at hs) _ _ h1

/-! ### the end -/
def TK.isArr : TK → Bool
  | .array => true
  | _ => false
def cellT (i : TyI) (st : St) : T → Option T
  | .ptr κ off => match st.h κ with
    | some (.box xs) => if i.size ≤ (xs.drop off).length ∧ (i.kind.agg = true ∨ i.size = 1) ∧ i.kind.isArr = false then some (packT i ((xs.drop off).take i.size)) else none
    | _ => none
  | _ => none
def resT1 (E : Env) (st : St) : ResultVar → Option T
  | .tmp t => some (st.s t)
  | .cell t ty => match E.L ty with
    | some i => cellT i st (st.s t)
    | none => none
def resL (E : Env) (st : St) : List ResultVar → Option (List T)
  | [] => some []
  | r :: rs => match resT1 E st r, resL E st rs with
    | some t, some ts => some (t :: ts)
    | _, _ => none
def datT (h : Nat → Option Blk) (own : Bool) (cts : List (Nat × Nat)) : T → Option (Dat × List Nat)
  | .agg xs => match absL h own cts xs with
    | some (cs, ks) => some ((true, cs), ks)
    | none => none
  | t => match absC h own (cts.headD (0, 0)) t with
    | some (c, ks) => some ((false, [c]), ks)
    | none => none
def datL (h : Nat → Option Blk) (own : Bool) : List (List (Nat × Nat)) → List T → Option (List Dat × List Nat)
  | _, [] => some ([], [])
  | cts, t :: ts => match datT h own (cts.headD []) t, datL h own cts.tail ts with
    | some (d, k), some (ds, ks) => some (d :: ds, k ++ ks)
    | _, _ => none
def ctsOf (E : Env) (t : Nat) : List (Nat × Nat) := match E.L t with
  | some i => i.cts
  | none => []
/-- What a function hands back, said of the state that it ends in. -/
def vres (rs : List Dat) (own : Bool) : Option (List Dat × List Nat) → Prop
  | some (rs', ks) => rs' = rs ∧ (own = true → ks.Nodup)
  | none => False
def vts (E : Env) (st : St) (own : Bool) (tys : List Nat) (rs : List Dat) : Option (List T) → Prop
  | some ts => vres rs own (datL st.h own (tys.map (ctsOf E)) ts)
  | none => False
def vfin (E : Env) (fn : Func) (own : Bool) (rs : List Dat) (st : St) : Prop := vts E st own fn.resultTypes.toList rs (resL E st fn.results.toList)

theorem run_result {E : Env} (hE : E.Ok) (hr : Rel E.fr st a W ν F) {r : ResultVar} {t : T} (ht : resT1 E st r = some t) :
    ∃ v, ((match r with | .tmp t => pure (a.tmps.getD t undef) | .cell p t => do loadVar t (← asAddr (a.tmps.getD p undef)) : Sem Value)).run E.fr.P W = .ok v W ∧ T.rz E.fr W (okOf E.fr W st.h ν) ν st.h t v := by
  cases r with
  | tmp j =>
    simp only [resT1, Option.some.injEq] at ht
    subst ht
    exact ⟨_, rfl, hr.slots j⟩
  | cell j ty =>
    simp only [resT1] at ht
    split at ht
    · rename_i i hi
      unfold cellT at ht
      split at ht
      · rename_i κ off hj
        split at ht
        · rename_i xs hb
          split at ht
          · rename_i hc
            simp only [Option.some.injEq] at ht
            subst ht
            obtain ⟨h1, h2, h3⟩ := hc
            have hs := hr.slots j
            rw [hj] at hs
            obtain ⟨b, us, ty', hv, hνκ, hB, hh, hts, h1c, hF⟩ := hr.ptr_box hb hs
            have hka : i.kind ≠ .array := by intro h; simp [h, TK.isArr] at h3
            have hlen := Ts.rz_length _ _ hts
            have hcells : ∀ q u, ((us.drop off).take i.size)[q]? = some u → W.cell? ⟨b, off + q, none⟩ = some u := by
              intro q u hq
              rw [cell_of_row W b _ _ _ _ hh]
              rw [List.getElem?_take] at hq
              split at hq
              · rw [List.getElem?_drop] at hq; simpa using hq
              · cases hq
            have hl : ((us.drop off).take i.size).length = i.size := by
              rw [List.length_drop] at h1; simp; omega
            have hload := run_loadAt_cells (hE.L _ _ hi) hka b off ((us.drop off).take i.size) (W := W) hl (fun h => by rcases h2 with h2 | h2; rw [h2] at h; cases h; exact h2) hcells
            refine ⟨pack i ((us.drop off).take i.size), ?_, packT_rz (fun u hu => h1c u (List.mem_of_mem_drop (List.mem_of_mem_take hu))) (Ts.rz_take _ _ _ (Ts.rz_drop _ _ _ hts))⟩
            simp only [hv]
            simpa only [Instr.loadAt, Instr.sureAddr, asAddr, Sem.run_bind, Sem.run_pure, Result.andThen_ok] using hload
          · cases ht
        · cases ht
      · cases ht
    · cases ht
theorem run_mapM {α : Type} {f : α → Sem Value} {xs : Array α} {vs : List Value} (hl : vs.length = xs.size) (hv : ∀ (i : Nat) x v, xs[i]? = some x → vs[i]? = some v → (f x).run P W = .ok v W) :
    (xs.mapM f).run P W = .ok vs.toArray W := by
  have key : ∀ (l : List α) (vs : List Value), vs.length = l.length → (∀ (i : Nat) x v, l[i]? = some x → vs[i]? = some v → (f x).run P W = .ok v W) → (l.mapM f).run P W = .ok vs W := by
    intro l
    induction l with
    | nil => intro vs hl _; cases vs with
      | nil => rfl
      | cons => simp at hl
    | cons x l ih =>
      intro vs hl hv
      cases vs with
      | nil => simp at hl
      | cons v vs =>
        rw [List.mapM_cons]
        simp only [Sem.run_bind, hv 0 x v rfl rfl, Result.andThen_ok, ih vs (by simpa using hl) (fun i x' v' hx hv' => hv (i + 1) x' v' (by simpa using hx) (by simpa using hv')), Sem.run_pure]
  rw [Array.mapM_eq_mapM_toList, map_eq_pure_bind]
  simp only [Sem.run_bind, key xs.toList vs (by simpa using hl) (fun i x v hx hv' => hv i x v (by simpa using hx) hv'), Result.andThen_ok, Sem.run_pure]
theorem run_results {E : Env} (hE : E.Ok) (hr : Rel E.fr st a W ν F) {fn : Func} {ts : List T} (ht : resL E st fn.results.toList = some ts) :
    ∃ vs, (results fn a.tmps).run E.fr.P W = .ok (valOf vs) W ∧ Ts.rz E.fr W (okOf E.fr W st.h ν) ν st.h ts vs := by
  have key : ∀ (l : List ResultVar) (ts : List T), resL E st l = some ts → ∃ vs, vs.length = l.length ∧ (∀ (i : Nat) r v, l[i]? = some r → vs[i]? = some v → ((match (r : ResultVar) with | .tmp t => pure (a.tmps.getD t undef) | .cell p t => do loadVar t (← asAddr (a.tmps.getD p undef)) : Sem Value)).run E.fr.P W = .ok v W) ∧
      Ts.rz E.fr W (okOf E.fr W st.h ν) ν st.h ts vs := by
    intro l
    induction l with
    | nil => intro ts h; simp only [resL, Option.some.injEq] at h; subst h; exact ⟨[], rfl, by simp, by simp [Ts.rz]⟩
    | cons r l ih =>
      intro ts h
      simp only [resL] at h
      split at h
      · rename_i t ts' h1 h2
        simp only [Option.some.injEq] at h
        subst h
        obtain ⟨v, e1, e2⟩ := run_result hE hr h1
        obtain ⟨vs, g1, g2, g3⟩ := ih ts' h2
        refine ⟨v :: vs, by simp [g1], fun i r' v' hi hv => ?_, by simp only [Ts.rz]; exact ⟨v, vs, rfl, e2, g3⟩⟩
        cases i with
        | zero => simp at hi hv; subst hi; subst hv; exact e1
        | succ i => exact g2 i r' v' (by simpa using hi) (by simpa using hv)
      · cases h
  obtain ⟨vs, h1, h2, h3⟩ := key _ _ ht
  refine ⟨vs, ?_, h3⟩
  unfold results
  rw [Sem.run_bind]
  have hm := run_mapM (P := E.fr.P) (W := W) (xs := fn.results) (vs := vs) (f := fun r => (match (r : ResultVar) with | .tmp t => pure (a.tmps.getD t undef) | .cell p t => do loadVar t (← asAddr (a.tmps.getD p undef)) : Sem Value)) (by simpa using h1) (fun i x v hx hv => h2 i x v (by simpa using hx) hv)
  refine (congrArg (fun r => Result.andThen r (fun (a : Array Value) w' => Sem.run E.fr.P (pure (if h : a.size = 1 then a[0] else Value.tuple a)) w')) hm).trans ?_
  rw [Result.andThen_ok]
  match vs with
  | [] => rfl
  | [v] => rfl
  | v :: u :: vs => rfl

theorem datT_rz {own : Bool} (hr : Rel fr st a W ν F) {cts : List (Nat × Nat)} {t : T} {d : Dat} {ks : List Nat} {v : Value} (hd : datT st.h own cts t = some (d, ks)) (hv : T.rz fr W (okOf fr W st.h ν) ν st.h t v) :
    if own then Dat.rz W (fun _ => False) fr.B d v (ks.flatMap (ownK ν F st.h)) else Dat.rz W (fun b => okOf fr W st.h ν b ∨ ∃ k ∈ ks, b ∈ ownK ν F st.h k) fr.B d v [] := by
  unfold datT at hd
  split at hd
  · rename_i xs
    split at hd
    · rename_i cs ks' ha
      simp only [Option.some.injEq, Prod.mk.injEq] at hd
      obtain ⟨rfl, rfl⟩ := hd
      simp only [T.rz] at hv
      obtain ⟨us, rfl, h1, h2⟩ := hv
      cases own with
      | true => exact ⟨us, absL_deep hr ha h2, by simp⟩
      | false => exact ⟨us, absL_flat hr ha h2, by simp⟩
    · cases hd
  · split at hd
    · rename_i c ks' ha
      simp only [Option.some.injEq, Prod.mk.injEq] at hd
      obtain ⟨rfl, rfl⟩ := hd
      cases own with
      | true =>
        refine ⟨[v], ?_, by simp⟩
        simp only [Cs.rz]
        exact ⟨v, [], _, [], rfl, by simp, absC_deep hr ha hv, rfl, rfl⟩
      | false =>
        refine ⟨[v], ?_, by simp⟩
        simp only [Cs.rz]
        exact ⟨v, [], [], [], rfl, rfl, absC_flat hr ha hv, rfl, rfl⟩
    · cases hd
theorem absC_tags {ct : Nat × Nat} {t : T} {c : C} {ks : List Nat} (ha : absC h false ct t = some (c, ks)) : ∀ e sz es, c ≠ .sl (some e) sz es := by
  unfold absC at ha
  intro e sz es hc
  subst hc
  split at ha <;> simp at ha
  split at ha <;> simp at ha
theorem absL_tags : ∀ {ts : List T} {cts : List (Nat × Nat)} {cs : List C} {ks : List Nat}, absL h false cts ts = some (cs, ks) → ∀ e sz es, C.sl (some e) sz es ∉ cs
  | [], cts, cs, ks, ha, e, sz, es => by rw [(absL_nil ha).1]; simp
  | t :: ts, cts, cs, ks, ha, e, sz, es => by
    obtain ⟨c, k, cs', ks', h1, h2, rfl, rfl⟩ := absL_cons ha
    intro hm
    rcases List.mem_cons.1 hm with hm | hm
    · exact absC_tags h1 e sz es hm.symm
    · exact absL_tags h2 e sz es hm
theorem datT_tags {cts : List (Nat × Nat)} {t : T} {d : Dat} {ks : List Nat} (hd : datT h false cts t = some (d, ks)) : ∀ e sz es, C.sl (some e) sz es ∉ d.2 := by
  unfold datT at hd
  split at hd
  · split at hd
    · rename_i ha
      simp only [Option.some.injEq, Prod.mk.injEq] at hd
      obtain ⟨rfl, rfl⟩ := hd
      exact absL_tags ha
    · cases hd
  · split at hd
    · rename_i ha
      simp only [Option.some.injEq, Prod.mk.injEq] at hd
      obtain ⟨rfl, rfl⟩ := hd
      intro e sz es hm
      simp only [List.mem_singleton] at hm
      exact absC_tags ha e sz es hm.symm
    · cases hd
theorem datL_rz {own : Bool} (hr : Rel fr st a W ν F) : ∀ {ts : List T} {cts : List (List (Nat × Nat))} {ds : List Dat} {ks : List Nat} {vs : List Value}, datL st.h own cts ts = some (ds, ks) → Ts.rz fr W (okOf fr W st.h ν) ν st.h ts vs →
    (if own then Dats.rz W (fun _ => False) fr.B ds vs (ks.flatMap (ownK ν F st.h)) else Dats.rz W (fun b => okOf fr W st.h ν b ∨ ∃ k ∈ ks, b ∈ ownK ν F st.h k) fr.B ds vs []) ∧ (own = false → Tidy ds)
  | [], cts, ds, ks, vs, hd, hv => by
    simp only [datL, Option.some.injEq, Prod.mk.injEq] at hd
    obtain ⟨rfl, rfl⟩ := hd
    simp only [Ts.rz] at hv
    subst hv
    exact ⟨by cases own <;> simp [Dats.rz], fun _ => by simp [Tidy]⟩
  | t :: ts, cts, ds, ks, vs, hd, hv => by
    simp only [datL] at hd
    split at hd
    · rename_i d k ds' ks' h1 h2
      simp only [Option.some.injEq, Prod.mk.injEq] at hd
      obtain ⟨rfl, rfl⟩ := hd
      simp only [Ts.rz] at hv
      obtain ⟨v, vs', rfl, h3, h4⟩ := hv
      have e1 := datT_rz hr h1 h3
      obtain ⟨e2, e3⟩ := datL_rz hr h2 h4
      cases own with
      | true =>
        simp only [if_true] at e1 e2 ⊢
        exact ⟨by simp only [Dats.rz]; exact ⟨v, vs', _, _, rfl, by simp, e1, e2⟩, fun h => by cases h⟩
      | false =>
        simp only [Bool.false_eq_true, if_false] at e1 e2 ⊢
        refine ⟨?_, fun _ d' hd' tag sz es hm => ?_⟩
        · simp only [Dats.rz]
          refine ⟨v, vs', [], [], rfl, rfl, Dat.rz_move (fun b hb => ⟨hb.imp id fun ⟨x, hx, hy⟩ => ⟨x, by simp [hx], hy⟩, rfl⟩) (Nat.le_refl _) (by simp) e1, Dats.rz_move (fun b hb => ⟨hb.imp id fun ⟨x, hx, hy⟩ => ⟨x, by simp [hx], hy⟩, rfl⟩) (Nat.le_refl _) _ _ [] (by simp) e2⟩
        · rcases List.mem_cons.1 hd' with rfl | hd'
          · exact (datT_tags h1 _ _ _ hm).elim
          · exact e3 rfl d' hd' tag sz es hm
    · cases hd

/-- Results of a call: what is owned is new, or lies in what was given. -/
def ResN (fr : Fr) (W : World) (own : Bool) (rs : List Dat) (v : Value) : Prop :=
  ∃ vs fp, v = valOf vs ∧ Dats.rz W (fun b => own = false ∧ (fr.ok0 b ∨ fr.New b) ∧ b < W.heap.size ∧ b ∉ fp) 0 rs vs fp ∧ fp.Nodup ∧ (own = false → Tidy rs) ∧ ∀ b ∈ fp, fr.New b
mutual
theorem C.rz_up {W : World} {ok : Nat → Prop} {B B' : Nat} : ∀ (c : C) (v : Value) (fp : List Nat), (∀ b ∈ fp, B' ≤ b) → C.rz W ok B c v fp → C.rz W ok B' c v fp
  | .int k n, v, fp, _, h => by simpa only [C.rz] using h
  | .bool b, v, fp, _, h => by simpa only [C.rz] using h
  | .val u, v, fp, _, h => by simpa only [C.rz] using h
  | .sl none sz es, v, fp, _, h => by
    simp only [C.rz] at h ⊢
    obtain ⟨hf, A, c, xs, hv, hc, hm, hs, hcell, hes⟩ := h
    exact ⟨hf, A, c, xs, hv, hc, hm, hs, hcell, Es.rz_up sz es xs [] (by simp) hes⟩
  | .sl (some e) sz es, v, fp, hfp, h => by
    simp only [C.rz] at h ⊢
    obtain ⟨xs, fs, ho, hf, hes⟩ := h
    subst hf
    refine ⟨xs, fs, ⟨ho.1, ?_⟩, rfl, Es.rz_up sz es xs fs (fun b hb => hfp b (by simp [hb])) hes⟩
    rcases ho.2 with hn | ⟨g, cap, cur, rfl, hb, rest⟩
    · exact .inl hn
    · exact .inr ⟨g, cap, cur, rfl, hfp g (by simp [Value.ownBlock]), rest⟩
theorem Es.rz_up {W : World} {ok : Nat → Prop} {B B' : Nat} (sz : Nat) : ∀ (es : List (List C)) (xs : List Value) (fs : List Nat), (∀ b ∈ fs, B' ≤ b) → Es.rz W ok B sz es xs fs → Es.rz W ok B' sz es xs fs
  | [], xs, fs, _, h => by simpa only [Es.rz] using h
  | e :: es, xs, fs, hfs, h => by
    simp only [Es.rz] at h ⊢
    obtain ⟨x1, x2, f1, f2, hx, hf, hl, h1, h2⟩ := h
    subst hf
    exact ⟨x1, x2, f1, f2, hx, rfl, hl, Cs.rz_up e x1 f1 (fun b hb => hfs b (by simp [hb])) h1, Es.rz_up sz es x2 f2 (fun b hb => hfs b (by simp [hb])) h2⟩
theorem Cs.rz_up {W : World} {ok : Nat → Prop} {B B' : Nat} : ∀ (cs : List C) (us : List Value) (fs : List Nat), (∀ b ∈ fs, B' ≤ b) → Cs.rz W ok B cs us fs → Cs.rz W ok B' cs us fs
  | [], us, fs, _, h => by simpa only [Cs.rz] using h
  | c :: cs, us, fs, hfs, h => by
    simp only [Cs.rz] at h ⊢
    obtain ⟨u, us', f1, f2, hx, hf, h1, h2⟩ := h
    subst hf
    exact ⟨u, us', f1, f2, hx, rfl, C.rz_up c u f1 (fun b hb => hfs b (by simp [hb])) h1, Cs.rz_up cs us' f2 (fun b hb => hfs b (by simp [hb])) h2⟩
end
theorem Dats.rz_up {W : World} {ok : Nat → Prop} {B B' : Nat} : ∀ (ds : List Dat) (vs : List Value) (fs : List Nat), (∀ b ∈ fs, B' ≤ b) → Dats.rz W ok B ds vs fs → Dats.rz W ok B' ds vs fs
  | [], us, fs, _, h => by simpa only [Dats.rz] using h
  | c :: cs, us, fs, hfs, h => by
    simp only [Dats.rz] at h ⊢
    obtain ⟨u, us', f1, f2, hx, hf, ⟨ws, h1, h1'⟩, h2⟩ := h
    subst hf
    exact ⟨u, us', f1, f2, hx, rfl, ⟨ws, Cs.rz_up _ _ f1 (fun b hb => hfs b (by simp [hb])) h1, h1'⟩, Dats.rz_up cs us' f2 (fun b hb => hfs b (by simp [hb])) h2⟩
theorem ResN.plain {fr : Fr} {W : World} {own : Bool} {rs : List Dat} {v : Value} (h : ResN fr W own rs v) (hX : ∀ b, ¬ fr.X b) (hY : ∀ b, ¬ fr.Y b) : ResRz W fr.ok0 fr.W0.heap.size own rs v := by
  obtain ⟨vs, fp, h1, h2, h3, h4, h5⟩ := h
  have hn : ∀ b, fr.New b → fr.W0.heap.size ≤ b := fun b hb => hb.resolve_right (fun h => h.elim (hX b) (hY b))
  refine ⟨vs, fp, h1, Dats.rz_up _ _ _ (fun b hb => hn b (h5 b hb)) (Dats.rz_move (W' := W) (fun b hb => ⟨⟨hb.1, hb.2.1.imp id (hn b), hb.2.2.1, hb.2.2.2⟩, rfl⟩) (Nat.le_refl _) _ _ _ (fun _ _ => rfl) h2), h3, h4⟩

theorem vfin_res {E : Env} (hE : E.Ok) {fn : Func} {own : Bool} {rs : List Dat} (hf : vfin E fn own rs st) (hr : Rel E.fr st a W ν F) :
    ∃ v, (results fn a.tmps).run E.fr.P W = .ok v W ∧ ResN E.fr W own rs v := by
  unfold vfin vts at hf
  split at hf
  · rename_i ts hts
    obtain ⟨vs, h1, h2⟩ := run_results hE hr hts
    refine ⟨_, h1, ?_⟩
    unfold vres at hf
    split at hf
    · rename_i rs' ks hd
      obtain ⟨rfl, hn⟩ := hf
      obtain ⟨h3, h4⟩ := datL_rz hr hd h2
      cases own with
      | true =>
        simp only [if_true] at h3
        exact ⟨vs, _, rfl, Dats.rz_move (W' := W) (fun b hb => hb.elim) (Nat.le_refl _) _ _ _ (fun _ _ => rfl) h3, hr.ownKs_nodup (hn rfl), fun h => (by cases h), fun b hb => by obtain ⟨k, _, hk⟩ := List.mem_flatMap.1 hb; exact (hr.ownK_lt hk).1⟩
      | false =>
        simp only [Bool.false_eq_true, if_false] at h3
        refine ⟨vs, [], rfl, Dats.rz_move (W' := W) (fun b hb => ⟨⟨rfl, ?_, ?_, by simp⟩, rfl⟩) (Nat.le_refl _) _ _ [] (by simp) h3, by simp, fun _ => h4 rfl, by simp⟩
        · rcases hb with hb | ⟨k, _, hb⟩
          · exact hb.1
          · exact .inr (hr.ownK_lt hb).1
        · rcases hb with hb | ⟨k, _, hb⟩
          · exact hb.2.1
          · exact (hr.ownK_lt hb).2
    · exact hf.elim
  · exact hf.elim
end

/-- What a call is to end with. -/
def finR (fr : Fr) (fn : Func) (own : Bool) (rs : List Dat) : Exit → Act → World → Prop :=
  bodyPost fr.P fn fun e W' => BelowX fr.X fr.W0 W' ∧ ∃ v, e = .returned v ∧ ResN fr W' own rs v
section
variable {E : Env} {st : St} {fn : Func} {own : Bool} {rs : List Dat}
theorem evx_fin_ret (hE : E.Ok) (h : vfin E fn own rs st) : evx E (finR E.fr fn own rs) [] .ret st := fun a W ⟨ν, F, hr⟩ => by
  obtain ⟨v, h1, h2⟩ := vfin_res hE h hr
  exact ⟨hr.defers, v, h1, hr.below, v, rfl, h2⟩
theorem ev_fin (hE : E.Ok) (h : vfin E fn own rs st) : ev E (finR E.fr fn own rs) [] st := fun a W ⟨ν, F, hr⟩ => by
  obtain ⟨v, h1, h2⟩ := vfin_res hE h hr
  exact ⟨hr.defers, v, h1, hr.below, v, rfl, h2⟩
theorem bodyPost_mono {P : Program} {fn : Func} {Q Q' : Ending → World → Prop} (h : ∀ e W, Q e W → Q' e W) {e : Exit} {a : Act} {W : World} (hb : bodyPost P fn Q e a W) : bodyPost P fn Q' e a W := by
  cases e with
  | normal => obtain ⟨h1, v, h2, h3⟩ := hb; exact ⟨h1, v, h2, h _ _ h3⟩
  | ret => obtain ⟨h1, v, h2, h3⟩ := hb; exact ⟨h1, v, h2, h _ _ h3⟩
  | panic c => exact ⟨hb.1, h _ _ hb.2⟩
  | outgrown => exact h _ _ hb
  | _ => exact hb.elim
theorem fin_plain {fr : Fr} (hX : ∀ b, ¬ fr.X b) (hY : ∀ b, ¬ fr.Y b) {e : Exit} {a : Act} {W' : World} (h : finR fr fn own rs e a W') :
    bodyPost fr.P fn (fun e W' => Bel fr.W0.heap.size fr.W0 W' ∧ ∃ v, e = .returned v ∧ ResRz W' fr.ok0 fr.W0.heap.size own rs v) e a W' :=
  bodyPost_mono (fun e W ⟨h1, v, h2, h3⟩ => ⟨h1.to hX, v, h2, h3.plain hX hY⟩) h
/-- THE CONTRACT out of a walk. -/
theorem sat_of {P : Program} {f : Nat} {c : Code} {gs : List Arg} (hf : P.funcs[f]? = some fn) (hb : fn.body = some c) (hn : (fn.name == "runtime.NumGoroutine") = false) (hN : gs.length ≤ fn.ntmps)
    (H : ∀ fr : Fr, fr.P = P → fr.N = fn.ntmps → ∀ R, R = finR fr fn own rs → ∀ a W, RelE fr (ent gs) a W → c.wp P R a W) : Sat P f gs own rs := by
  refine ⟨⟨fn, hf, by simp [hb], hn⟩, fun W ok vs hok hr => ?_⟩
  refine calls_of_wp hf hb (wp_mono (H ⟨P, W, ok, fn.ntmps, fun _ => undef, fun _ => False, fun _ => False⟩ rfl rfl _ rfl _ W (ent_rel hok hr hN)) ?_)
  exact fun e a W' h => fin_plain (fun _ h => h) (fun _ h => h) h
end
end Go.Vm

namespace Go.Vm
open Go Go.RowKit

def szOf (P : Program) (t : Nat) : Nat := match P.info? t with
  | some x => x.size
  | none => 0
/-- For each cell of a type: of a slice, the type and the size of its elements. -/
def ctsP (P : Program) : Nat → Nat → List (Nat × Nat)
  | 0, _ => []
  | n + 1, t => match P.underlying t with
    | some (.slice e) => [(e, szOf P e)]
    | some (.struct fs) => fs.toList.flatMap fun f => ctsP P n f.type
    | some (.pointer e) => ctsP P n e
    | _ => List.replicate (szOf P t) (0, 0)
def pszP (P : Program) (t : Nat) : Nat := match P.underlying t with
  | some (.pointer e) => szOf P e
  | _ => 0
def tyI (P : Program) (t : Nat) : Option TyI := match P.info? t, P.underlying t with
  | some x, some d => match x.zero with
    | some z => if z.cells.size = x.size ∧ z.cells.toList.all (·.oneCell') = true then
        some { size := x.size, bytes := x.bytes, zv := z, kind := tkind d, cts := ctsP P 8 t, scal := (ctsP P 8 t).all (· == (0, 0)), psz := pszP P t, zts := z.cells.toList.map constT } else none
    | none => none
  | _, _ => none
theorem tyI_ok {P : Program} {t : Nat} {i : TyI} (h : tyI P t = some i) : TyOk P t i ∧ TyZ i := by
  unfold tyI at h
  split at h
  · rename_i x d hx hd
    split at h
    · rename_i z hz
      split at h
      · rename_i hc
        simp only [Option.some.injEq] at h
        subst h
        refine ⟨⟨by simp [hx, hz], by simp [hd]⟩, ⟨rfl, fun u hu => ?_, hc.1⟩⟩
        exact List.all_eq_true.1 hc.2 u hu
      · cases h
    · cases h
  · cases h
def envOf (fr : Fr) (P : Program) : Env := ⟨fr, tyI P⟩
theorem envOf_ok {fr : Fr} {P : Program} (h : fr.P = P) : (envOf fr P).Ok := ⟨fun t i hi => by
  have := (tyI_ok hi).1; rw [← h] at this; exact this, fun t i hi => (tyI_ok hi).2⟩
@[simp] theorem envOf_L {fr : Fr} {P : Program} : (envOf fr P).L = tyI P := rfl
@[simp] theorem envOf_fr {fr : Fr} {P : Program} : (envOf fr P).fr = fr := rfl
mutual
/-- What is bounded because memory holds it. -/
def C.bnd : C → Prop
  | .int _ _ => True
  | .bool _ => True
  | .val _ => True
  | .sl _ _ es => es.length ≤ maxLen ∧ Es.bnd es
def Es.bnd : List (List C) → Prop
  | [] => True
  | e :: es => Cs.bnd e ∧ Es.bnd es
def Cs.bnd : List C → Prop
  | [] => True
  | c :: cs => c.bnd ∧ Cs.bnd cs
end
mutual
theorem C.rz_bnd {W : World} {ok : Nat → Prop} {B : Nat} : ∀ (c : C) (v : Value) (fp : List Nat), C.rz W ok B c v fp → c.bnd
  | .int k n, v, fp, h => by simp [C.bnd]
  | .bool b, v, fp, h => by simp [C.bnd]
  | .val b, v, fp, h => by simp [C.bnd]
  | .sl none sz es, v, fp, h => by
    simp only [C.rz] at h
    obtain ⟨_, A, c, xs, _, _, hm, _, _, hes⟩ := h
    exact ⟨hm, Es.rz_bnd es xs [] hes⟩
  | .sl (some e) sz es, v, fp, h => by
    simp only [C.rz] at h
    obtain ⟨xs, fs, ho, _, hes⟩ := h
    obtain ⟨A, c, _, _, hm, _⟩ := ownsRow_maxLen ho
    exact ⟨hm, Es.rz_bnd es xs fs hes⟩
theorem Es.rz_bnd {W : World} {ok : Nat → Prop} {B sz : Nat} : ∀ (es : List (List C)) (xs : List Value) (fs : List Nat), Es.rz W ok B sz es xs fs → Es.bnd es
  | [], _, _, _ => by simp [Es.bnd]
  | e :: es, xs, fs, h => by
    simp only [Es.rz] at h
    obtain ⟨x1, x2, f1, f2, _, _, _, h1, h2⟩ := h
    exact ⟨Cs.rz_bnd e x1 f1 h1, Es.rz_bnd es x2 f2 h2⟩
theorem Cs.rz_bnd {W : World} {ok : Nat → Prop} {B : Nat} : ∀ (cs : List C) (us : List Value) (fs : List Nat), Cs.rz W ok B cs us fs → Cs.bnd cs
  | [], _, _, _ => by simp [Cs.bnd]
  | c :: cs, us, fs, h => by
    simp only [Cs.rz] at h
    obtain ⟨u, us', f1, f2, _, _, h1, h2⟩ := h
    exact ⟨C.rz_bnd c u f1 h1, Cs.rz_bnd cs us' f2 h2⟩
end
def Arg.bnd : Arg → Prop
  | .d x => Cs.bnd x.2
  | .pv xs => Cs.bnd xs
  | .fn _ => True
def Args.bnd : List Arg → Prop
  | [] => True
  | g :: gs => g.bnd ∧ Args.bnd gs
theorem Args.rz_bnd {P : Program} {W : World} {ok : Nat → Prop} : ∀ {gs : List Arg} {vs : List Value}, Args.rz P W ok gs vs → Args.bnd gs
  | [], _, _ => trivial
  | g :: gs, vs, h => by
    obtain ⟨v, vs', rfl, h1, h2⟩ := h
    refine ⟨?_, Args.rz_bnd h2⟩
    cases g with
    | d x => obtain ⟨us, h3, _⟩ := h1; exact Cs.rz_bnd _ _ _ h3
    | pv xs => obtain ⟨b, o, us, _, _, h3, _⟩ := h1; exact Cs.rz_bnd _ _ _ h3
    | fn sem => trivial
theorem Es.bnd_map {α : Type} {f : α → List C} : ∀ {xs : List α}, Es.bnd (xs.map f) ↔ ∀ x ∈ xs, Cs.bnd (f x)
  | [] => by simp [Es.bnd]
  | x :: xs => by simp [Es.bnd, Es.bnd_map (xs := xs)]
theorem sat_walk {P : Program} {f : Nat} {fn : Func} {c : Code} {gs : List Arg} {own : Bool} {rs : List Dat} (hf : P.funcs[f]? = some fn) (hb : fn.body = some c) (hn : (fn.name == "runtime.NumGoroutine") = false) (hN : gs.length ≤ fn.ntmps)
    (H : ∀ fr : Fr, fr.P = P → fr.N = fn.ntmps → Args.bnd gs → ev (envOf fr P) (finR fr fn own rs) [.code c] (ent gs)) : Sat P f gs own rs := by
  refine ⟨⟨fn, hf, by simp [hb], hn⟩, fun W ok vs hok hr => ?_⟩
  have hbnd := Args.rz_bnd hr
  refine calls_of_wp hf hb ?_
  have := H ⟨P, W, ok, fn.ntmps, fun _ => undef, fun _ => False, fun _ => False⟩ rfl rfl hbnd _ W (ent_rel hok hr hN)
  exact wp_mono this fun e a W h => fin_plain (fun _ h => h) (fun _ h => h) h

/-! ### arguments, as computed -/
/-- What a function value captures. -/
def argC (h : Nat → Option Blk) : T → Option (Arg × List Nat)
  | .agg xs => match absL h false [] xs with
    | some (cs, _) => some (.d (true, cs), xs.flatMap keysT)
    | none => none
  | .pv xs => some (.pv (xs.take xs.length), [])
  | .ptr κ off => match h κ with
    | some (.box xs) => match absL h false [] ((xs.drop off).take (xs.drop off).length) with
      | some (cs, _) => some (.pv cs, κ :: ((xs.drop off).take (xs.drop off).length).flatMap keysT)
      | none => none
    | _ => none
  | .fn sem => some (.fn sem, [])
  | t => match absC h false (0, 0) t with
    | some (c, _) => some (.d (false, [c]), keysT t)
    | none => none
def argsC (h : Nat → Option Blk) : List T → Option (List Arg × List Nat)
  | [] => some ([], [])
  | t :: ts => match argC h t, argsC h ts with
    | some (g, k), some (gs, ks) => some (g :: gs, k ++ ks)
    | _, _ => none
/-- What a function value does, by its function's contract. -/
def semOf (P : Program) (f : Nat) (gs : List Arg) : List Dat → List Dat → Prop := fun ds rs => Sat P f (ds.map .d ++ gs) true rs
def argT (E : Env) (h : Nat → Option Blk) (ty : Nat) : T → Option (Arg × List Nat)
  | .agg xs => match absL h false (ctsOf E ty) xs with
    | some (cs, _) => some (.d (true, cs), xs.flatMap keysT)
    | none => none
  | .pv xs => match E.L ty with
    | some i => some (.pv (xs.take i.psz), [])
    | none => none
  | .ptr κ off => match E.L ty, h κ with
    | some i, some (.box xs) => match absL h false i.cts ((xs.drop off).take i.psz) with
      | some (cs, _) => some (.pv cs, κ :: ((xs.drop off).take i.psz).flatMap keysT)
      | none => none
    | _, _ => none
  | .ep κ sz q off => match E.L ty, h κ with
    | some i, some (.arr _ _ sz' es) => if sz = sz' ∧ q < es.length then some (.pv (((Cs.strip (es.getD q [])).drop off).take i.psz), [κ]) else none
    | _, _ => none
  | .fn sem => some (.fn sem, [])
  | .clo f caps => match argsC h caps with
    | some (gs, ks) => some (.fn (semOf E.fr.P f gs), ks)
    | none => none
  | t => match absC h false ((ctsOf E ty).headD (0, 0)) t with
    | some (c, _) => some (.d (false, [c]), keysT t)
    | none => none
def argsT (E : Env) (h : Nat → Option Blk) : List Nat → List T → Option (List Arg × List Nat)
  | _, [] => some ([], [])
  | tys, t :: ts => match argT E h (tys.headD 0) t, argsT E h tys.tail ts with
    | some (g, k), some (gs, ks) => some (g :: gs, k ++ ks)
    | _, _ => none
theorem argC_ok {fr : Fr} {st : St} {t : T} {g : Arg} {ks : List Nat} (h : argC st.h t = some (g, ks)) : ArgR fr st t g ks := by
  unfold argC at h
  split at h
  · split at h
    · rename_i ha
      simp only [Option.some.injEq, Prod.mk.injEq] at h
      obtain ⟨rfl, rfl⟩ := h
      exact argR_agg ha
    · cases h
  · simp only [Option.some.injEq, Prod.mk.injEq] at h
    obtain ⟨rfl, rfl⟩ := h
    exact argR_pv _
  · split at h
    · rename_i hb
      split at h
      · rename_i ha
        simp only [Option.some.injEq, Prod.mk.injEq] at h
        obtain ⟨rfl, rfl⟩ := h
        exact argR_ptr hb ha
      · cases h
    · cases h
  · simp only [Option.some.injEq, Prod.mk.injEq] at h
    obtain ⟨rfl, rfl⟩ := h
    exact argR_fn
  · split at h
    · rename_i ha
      simp only [Option.some.injEq, Prod.mk.injEq] at h
      obtain ⟨rfl, rfl⟩ := h
      exact argR_one ha
    · cases h
theorem argsC_ok {fr : Fr} {st : St} : ∀ {ts : List T} {gs : List Arg} {ks : List Nat}, argsC st.h ts = some (gs, ks) → ArgsR fr st ts gs ks
  | [], gs, ks, h => by
    simp only [argsC, Option.some.injEq, Prod.mk.injEq] at h
    obtain ⟨rfl, rfl⟩ := h
    exact .nil
  | t :: ts, gs, ks, h => by
    simp only [argsC] at h
    split at h
    · rename_i g k gs' ks' h1 h2
      simp only [Option.some.injEq, Prod.mk.injEq] at h
      obtain ⟨rfl, rfl⟩ := h
      exact .cons (argC_ok h1) (argsC_ok h2)
    · cases h
theorem argT_ok {E : Env} {st : St} {ty : Nat} {t : T} {g : Arg} {ks : List Nat} (h : argT E st.h ty t = some (g, ks)) : ArgR E.fr st t g ks := by
  unfold argT at h
  split at h
  · split at h
    · rename_i ha
      simp only [Option.some.injEq, Prod.mk.injEq] at h
      obtain ⟨rfl, rfl⟩ := h
      exact argR_agg ha
    · cases h
  · split at h
    · simp only [Option.some.injEq, Prod.mk.injEq] at h
      obtain ⟨rfl, rfl⟩ := h
      exact argR_pv _
    · cases h
  · split at h
    · rename_i hb
      split at h
      · rename_i ha
        simp only [Option.some.injEq, Prod.mk.injEq] at h
        obtain ⟨rfl, rfl⟩ := h
        exact argR_ptr hb ha
      · cases h
    · cases h
  · split at h
    · rename_i hb
      split at h
      · rename_i hc
        simp only [Option.some.injEq, Prod.mk.injEq] at h
        obtain ⟨rfl, rfl⟩ := h
        obtain ⟨h1, h2⟩ := hc
        subst h1
        refine argR_ep hb ?_
        rw [List.getElem?_eq_getElem h2]
        simp [List.getD_eq_getElem?_getD, List.getElem?_eq_getElem h2]
      · cases h
    · cases h
  · simp only [Option.some.injEq, Prod.mk.injEq] at h
    obtain ⟨rfl, rfl⟩ := h
    exact argR_fn
  · split at h
    · rename_i hc
      simp only [Option.some.injEq, Prod.mk.injEq] at h
      obtain ⟨rfl, rfl⟩ := h
      exact argR_clo (argsC_ok hc) (fun ds rs hs => hs)
    · cases h
  · split at h
    · rename_i ha
      simp only [Option.some.injEq, Prod.mk.injEq] at h
      obtain ⟨rfl, rfl⟩ := h
      exact argR_one ha
    · cases h
theorem argsT_ok {E : Env} {st : St} : ∀ {ts : List T} {tys : List Nat} {gs : List Arg} {ks : List Nat}, argsT E st.h tys ts = some (gs, ks) → ArgsR E.fr st ts gs ks
  | [], tys, gs, ks, h => by
    simp only [argsT, Option.some.injEq, Prod.mk.injEq] at h
    obtain ⟨rfl, rfl⟩ := h
    exact .nil
  | t :: ts, tys, gs, ks, h => by
    simp only [argsT] at h
    split at h
    · rename_i g k gs' ks' h1 h2
      simp only [Option.some.injEq, Prod.mk.injEq] at h
      obtain ⟨rfl, rfl⟩ := h
      exact .cons (argT_ok h1) (argsT_ok h2)
    · cases h

def freshK (h : Nat → Option Blk) : List Nat → Prop
  | [] => True
  | k :: r => h k = none ∧ freshK h r
theorem freshK_get {h : Nat → Option Blk} : ∀ {l : List Nat}, freshK h l → ∀ k ∈ l, h k = none
  | [], _, k, hk => by cases hk
  | x :: r, hf, k, hk => by
    rcases List.mem_cons.1 hk with rfl | hk
    · exact hf.1
    · exact freshK_get hf.2 k hk
/-- A call whose arguments are known. -/
def vcallB (c : Cx) (i : Nat) (dst : Option Nat) (rest : List Oper) (acc : List (List Nat × List Nat)) (st : St) (f : Nat) (gs : List Arg) (ks : List Nat) (κ : Nat) : Prop :=
  ∃ own rs, Sat c.E.fr.P f gs own rs ∧ (own = false → ks = []) ∧ freshK st.h (keysE ⟨.un, ks, resM own κ rs⟩) ∧ vops c (i + 1) rest ((ks, keysE ⟨.un, ks, resM own κ rs⟩) :: acc) (app st dst ⟨resT own κ rs, ks, resM own κ rs⟩)
def vcallA (c : Cx) (i : Nat) (dst : Option Nat) (rest : List Oper) (acc : List (List Nat × List Nat)) (st : St) (f : Nat) (κ : Nat) : Option (List Arg × List Nat) → Option (List Arg × List Nat) → Prop
  | some (gs, ks), some (gc, kc) => vcallB c i dst rest acc st f (gs ++ gc) (ks ++ kc) κ
  | _, _ => False
section
variable {c : Cx} {i : Nat} {dst : Option Nat} {rest : List Oper} {acc : List (List Nat × List Nat)} {st : St} {f : Nat} {κ : Nat} {own : Bool} {rs : List Dat} {gs : List Arg} {ks : List Nat} {P : Program}
theorem vcallA_some {gc : List Arg} {kc : List Nat} : vcallA c i dst rest acc st f κ (some (gs, ks)) (some (gc, kc)) = vcallB c i dst rest acc st f (gs ++ gc) (ks ++ kc) κ := rfl
theorem vcall_A {caps args : List T} {ats : List Nat} (h : vcallA c i dst rest acc st f κ (argsT c.E st.h ats args) (argsC st.h caps)) : vcall c i dst rest acc st f caps args ats κ := by
  unfold vcallA at h
  split at h
  · rename_i gs ks gc kc h1 h2
    obtain ⟨own, rs, g1, g2, g3, g4⟩ := h
    refine ⟨_, callE_sat (κ := κ) (argsT_ok h1) (argsC_ok h2) g1 (fun ho => by simpa using g2 ho) (fun k hk => freshK_get g3 k ?_), g4⟩
    simpa [keysE] using lk_isSome.1 hk
  · exact h.elim
theorem vcallB_of (hP : c.E.fr.P = P) (hs : Sat P f gs own rs) (h : (own = false → ks = []) ∧ freshK st.h (keysE ⟨.un, ks, resM own κ rs⟩) ∧ vops c (i + 1) rest ((ks, keysE ⟨.un, ks, resM own κ rs⟩) :: acc) (app st dst ⟨resT own κ rs, ks, resM own κ rs⟩)) :
    vcallB c i dst rest acc st f gs ks κ := ⟨own, rs, by rw [hP]; exact hs, h.1, h.2.1, h.2.2⟩
/-- A call of a function value. -/
theorem vcallFn_of {sem : List Dat → List Dat → Prop} {args : List T} {ats : List Nat} (ds : List Dat) (ks : List Nat) (rs : List Dat) (ha : argsT c.E st.h ats args = some (ds.map .d, ks)) (hs : sem ds rs)
    (h : freshK st.h (keysE ⟨.un, ks, resM true κ rs⟩) ∧ vops c (i + 1) rest ((ks, keysE ⟨.un, ks, resM true κ rs⟩) :: acc) (app st dst ⟨resT true κ rs, ks, resM true κ rs⟩)) :
    vcallFn c i dst rest acc st sem args ats κ :=
  ⟨ds, ks, rs, argsT_ok ha, hs, fun k hk => freshK_get h.1 k (by simpa [keysE] using lk_isSome.1 hk), h.2⟩
end
end Go.Vm

namespace Go.Vm
open Go Go.RowKit

section
variable {s : Nat → T} {h : Nat → Option Blk} {g : Nat → T} {j d κ k : Nat} {t : T}
theorem upd_app : upd s (some d) t j = if j = d then t else s j := rfl
theorem upd_none : upd s none t = s := rfl
theorem app_eq {x : Option Nat} {supp : List Nat} {m : List (Nat × Blk)} : app ⟨s, h, g⟩ x ⟨t, supp, m⟩ = ⟨upd s x t, mrg h m, g⟩ := rfl
theorem mrg_app {b : Blk} {m : List (Nat × Blk)} : mrg h ((k, b) :: m) κ = if κ = k then some b else mrg h m κ := by
  by_cases hk : κ = k <;> simp [mrg, lk, hk]
theorem mrg_nl : mrg h [] = h := rfl
theorem keysE_eq {supp : List Nat} {m : List (Nat × Blk)} : keysE ⟨t, supp, m⟩ = m.map (·.1) := rfl
/-- The slot of a region's operation. -/
def gdl : List Oper → Nat → Option Nat
  | [], _ => none
  | o :: _, 0 => o.dst
  | _ :: l, n + 1 => gdl l n
theorem gdst_eq : ∀ {l : List Oper} {n : Nat}, gdst l.toArray n = gdl l n
  | [], n => by simp [gdst, gdl]
  | o :: l, 0 => by simp [gdst, gdl]
  | o :: l, n + 1 => by
    have := gdst_eq (l := l) (n := n)
    simp only [gdst, gdl, List.getElem?_toArray, List.getElem?_cons_succ] at this ⊢
    exact this
theorem gdl_zero {o : Option Nat} {op : Op} {ty : Nat} {pos : String} {after : Array Edge} {gu : Option (Nat × Bool)} {l : List Oper} : gdl (⟨o, op, ty, pos, after, gu⟩ :: l) 0 = o := rfl
theorem gdl_succ {o : Oper} {l : List Oper} {n : Nat} : gdl (o :: l) (n + 1) = gdl l n := rfl
theorem toList_lit {α : Type} (l : List α) : l.toArray.toList = l := rfl
theorem size_lit {α : Type} (l : List α) : l.toArray.size = l.length := rfl
end
section
variable {E : Env} {st : St} {fn : Func} {own : Bool} {rs : List Dat}
theorem end_ret (hE : E.Ok) {rl : List ResultVar} {tl : List Nat} (h1 : fn.results = rl.toArray) (h2 : fn.resultTypes = tl.toArray) (h : vts E st own tl rs (resL E st rl)) : evx E (finR E.fr fn own rs) [] .ret st :=
  evx_fin_ret hE (by unfold vfin; rw [h1, h2]; exact h)
theorem end_norm (hE : E.Ok) {rl : List ResultVar} {tl : List Nat} (h1 : fn.results = rl.toArray) (h2 : fn.resultTypes = tl.toArray) (h : vts E st own tl rs (resL E st rl)) : ev E (finR E.fr fn own rs) [] st :=
  ev_fin hE (by unfold vfin; rw [h1, h2]; exact h)
end
section
variable {E : Env} {ops : Array Oper} {id i : Nat} {k : St → Prop} {acc : List (List Nat × List Nat)} {st : St}
theorem vops_nil_f : vops ⟨E, ops, id, false, k⟩ i [] acc st = k st := by simp [vops]
theorem vops_nil_t : vops ⟨E, ops, id, true, k⟩ i [] acc st = (dynB ops acc.reverse = true ∧ k st) := by simp [vops]
end
/-- A branch. -/
def vcond (E : Env) (R : Exit → Act → World → Prop) (ks : List Fm) (st : St) (u v : Code) : T → Prop
  | .c (.bool q) => (q = true → ev E R (.code u :: ks) st) ∧ (q = false → ev E R (.code v :: ks) st)
  | _ => False
section
variable {E : Env} {R : Exit → Act → World → Prop} {ks : List Fm} {st : St} {u v : Code}
theorem vcond_bool {q : Bool} : vcond E R ks st u v (.c (.bool q)) = ((q = true → ev E R (.code u :: ks) st) ∧ (q = false → ev E R (.code v :: ks) st)) := Eq.trans rfl rfl
theorem ev_if {c : Operand} (h : vcond E R ks st u v (opd st.s c)) : ev E R (.code (.cond c u v) :: ks) st := by
  unfold vcond at h
  split at h
  · rename_i q hq
    exact ev_cond hq h.1 h.2
  · exact h.elim
end
section
variable {c : Cx} {i : Nat} {dst : Option Nat} {op : Op} {rest : List Oper} {acc : List (List Nat × List Nat)} {s : Nat → T} {h : Nat → Option Blk} {g : Nat → T} {d : Nat}
/-- A guard: here the reckoning stops. -/
theorem vgd_go {want q : Bool} (hg : (q = want → vstep c i dst rest acc ⟨upd s (some d) (.c (.bool want)), h, g⟩ (vop c.E (c.id * 4096 + i * 8) dst ⟨upd s (some d) (.c (.bool want)), h, g⟩ op)) ∧
    (q = !want → vops c (i + 1) rest (([], []) :: acc) (app ⟨upd s (some d) (.c (.bool (!want))), h, g⟩ dst ⟨.tup [], [], []⟩))) : vgd c i dst op rest acc ⟨s, h, g⟩ want d (.c (.bool q)) := hg
end
section
variable {E : Env} {R : Exit → Act → World → Prop} {ks : List Fm} {st : St}
/-- What is kept of a state. -/
def kJ (ρ : List (Nat × Option Nat)) (sl : List (Nat × T)) (hl : List (Nat × Blk)) (gl : List (Nat × T)) (st : St) : Prop := Sim ρ st sl hl gl
theorem kJ_app {ρ : List (Nat × Option Nat)} {sl : List (Nat × T)} {hl : List (Nat × Blk)} {gl : List (Nat × T)} : kJ ρ sl hl gl st = Sim ρ st sl hl gl := Eq.trans rfl rfl
/-- A region, of whose ways one state is kept. -/
theorem ev_regionJ {id : Nat} {ops : List Oper} {draw : Bool} (n : Nat) (ρ : List (Nat × Option Nat)) (sl : List (Nat × T)) (hl : List (Nat × Blk)) (gl : List (Nat × T)) (hn : id = n) (hE : E.Ok) (hm : E.fr.P.follows .mixedOrders = true) (hs : statB E.fr.N draw ops.toArray = true)
    (h : vops ⟨E, ops.toArray, id, draw, kJ ρ sl hl gl⟩ 0 ops [] st) (hk : ev E R ks (cst sl hl gl)) : ev E R (.code (.region id ops.toArray draw) :: ks) st := fun a W hr =>
  region_wp hE hm hs h hr fun st' a W hq hr' => hk a W (hr'.weak hq)
/-- Any code, of whose ways one state is kept. -/
theorem ev_join {c : Code} (sl : List (Nat × T)) (hl : List (Nat × Blk)) (gl : List (Nat × T)) (h : ev E R (.code c :: .lp (fun st' => st' = cst sl hl gl) :: ks) st) (hk : ev E R ks (cst sl hl gl)) : ev E R (.code c :: ks) st := fun a W hr => by
  refine wp_mono (h a W hr) ?_
  intro e a' W' hq
  cases e with
  | normal => obtain ⟨st', rfl, hr'⟩ := hq; exact hk a' W' hr'
  | _ => exact hq
theorem ev_jn (ρ : List (Nat × Option Nat)) {sl : List (Nat × T)} {hl : List (Nat × Blk)} {gl : List (Nat × T)} (h : Sim ρ st sl hl gl) : ev E R (.lp (fun st' => st' = cst sl hl gl) :: ks) st := fun a W hr => ⟨_, rfl, hr.weak h⟩
end
attribute [go_sem] kJ_app ne_eq vcond_bool Sim simS simH simT simTs simCc froS simB ren List.filterMap_cons List.filterMap_nil List.nodup_cons List.nodup_nil List.mem_cons List.not_mem_nil List.find?_nil or_false not_false_eq_true List.length_map Int.toNat_natCast Option.isSome_some Option.isSome_none exists_eq_left' exists_eq_right' exists_and_left exists_const TK.slice.injEq exists_eq exists_eq' T.c.injEq C.int.injEq C.bool.injEq C.sl.injEq T.agg.injEq T.tup.injEq T.ref.injEq T.ptr.injEq Option.some.injEq Blk.arr.injEq Blk.box.injEq List.cons.injEq
attribute [go_sem] Option.map_some Option.map_none forall_eq_or_imp forall_eq List.getElem?_cons_zero List.getElem?_cons_succ List.getElem?_nil List.replicate_succ List.replicate_zero List.flatten_cons List.flatten_nil List.tail_cons Prod.mk.injEq argC argsC argT argsT freshK vcallA_some resT resM openL openC shpT oneT cellsD List.flatMap_cons List.flatMap_nil List.append_nil List.length_cons List.length_nil List.take_succ_cons List.take_zero List.drop_succ_cons List.drop_zero List.headD_cons List.tail_cons List.headD_nil List.tail_nil vops_nil_f vops_nil_t List.map_cons List.map_nil List.reverse_cons List.reverse_nil List.nil_append List.cons_append decide_eq_true_eq decide_eq_false_iff_not Bool.not_true Bool.not_false Bool.true_eq_false vops_cons vops_guard vgo_some vgd_skip vstep_ok vstep_bad vstep_get vstep_call vstep_callFn vstep_bin vget_map mdR vPick vBin vUn vConv vFieldAddr vField elemOf vIndexAddr vLoad vAlloc vBox vStore vBuild vBuildSlice vMakeSlice vSlice vAppend vLen vMin vMax vMax3 vBuiltin vValue vop
  opd constT arith logic isNilB upd_app upd_none app_eq mrg_app mrg_nl keysE_eq gdst_eq gdl_zero gdl_succ toList_lit size_lit lkT lk cst ent entL entT envOf_L envOf_fr T.isPtr fldT packT TK.agg TK.isArr lenT keysT ptrKeys unT absC absL deads chunks putL buildT placesT placesR bndT flat srcT dstT joinE
  resT1 resL cellT datT datL ctsOf vres vts vfin true_and and_true Bool.false_eq_true false_implies true_implies reduceCtorEq ite_true ite_false
end Go.Vm
