/- The abstract walk, last part: contracts of functions that write to what they are given, and calls of them. No condition. -/
import Derived.Test.YtegohioalgikjaaVd
import Derived.Attr
import Derived.Laws.StructEq
set_option linter.unusedVariables false
set_option linter.unusedSimpArgs false
namespace Go.Vm
open Go Go.RowKit

section
variable {fr : Fr} {ops : Array Oper}
theorem Chain.wpOps2 {Q : Exit → Act → World → Prop} {ks : List Nat} : ∀ {os : List Oper} {es : List Eff} {st st' : St} {k : Nat} {a : Act} {W : World}, Chain fr ops os es st st' → (∀ j, j < os.length → os[j]? = ops[k + j]?) → RelE fr st a W →
    (∀ a W, RelE fr st' a W → Go.wpOps fr.P ops Q ks a W) → Go.wpOps fr.P ops Q (List.range' k os.length ++ ks) a W := by
  intro os
  induction os with
  | nil => intro es st st' k a W hc ho hr hK; cases hc; exact hK a W hr
  | cons o os ih =>
    intro es st st' k a W hc ho hr hK
    cases hc with
    | cons hg hc =>
    have h0 : ops[k]? = some o := by simpa using (ho 0 (by simp)).symm
    rw [List.length_cons, List.range'_succ, List.cons_append, wpOps_cons, wpOp, h0]
    simp only []
    have := hg Q st a W (Go.wpOps fr.P ops Q (List.range' (k + 1) os.length ++ ks)) (fun _ _ => rfl) (fun _ _ => rfl) hr
      (fun v W' hr' => ih hc (fun j hj => by have := ho (j + 1) (by simp; omega); simpa [Nat.add_assoc, Nat.add_comm 1 j] using this) hr' hK)
    by_cases hw : Region.wanted o (yielded ops a.tmps) = true
    · rw [if_pos hw] at this ⊢; exact .inl this
    · rw [if_neg hw] at this ⊢; exact this
/-- An operation that turns the state into another, of which nothing else is asked. -/
def StepS (fr : Fr) (o : Oper) (st st' : St) : Prop := ∀ a W, RelE fr st a W → ∀ (Q : Exit → Act → World → Prop) (K : Act → World → Prop), (∀ v W', RelE fr st' (a.put o.dst v) W' → K (a.put o.dst v) W') → o.wp fr.P a W K Q
end
section
variable {E : Env} {R : Exit → Act → World → Prop} {ks : List Fm} {st : St}
theorem ev_regionM {id : Nat} {pre post : List Oper} {o : Oper} (hE : E.Ok) (ho : o.guard = none) (hs : statB E.fr.N false (pre ++ o :: post).toArray = true)
    (h : vops ⟨E, (pre ++ o :: post).toArray, id, false, fun st1 => ∃ st2, StepS E.fr o st1 st2 ∧ vops ⟨E, (pre ++ o :: post).toArray, id, false, ev E R ks⟩ (pre.length + 1) post [] st2⟩ 0 pre [] st) :
    ev E R (.code (.region id (pre ++ o :: post).toArray false) :: ks) st := fun a W hr => by
  have hN : ∀ o' ∈ (pre ++ o :: post).toArray.toList, ∀ d, o'.dst = some d → d < E.fr.N := by
    intro o' ho' d hd
    simp only [statB, Bool.and_eq_true] at hs
    have := List.all_eq_true.1 hs.1 o' ho'
    simpa [hd] using this
  obtain ⟨es, st1, h1, _, st2, hst, h2⟩ := vops_chain (c := ⟨E, (pre ++ o :: post).toArray, id, false, _⟩) hE hN (fun o' h' => by simp [h']) h
  obtain ⟨es2, st3, h3, _, h4⟩ := vops_chain (c := ⟨E, (pre ++ o :: post).toArray, id, false, _⟩) hE hN (fun o' h' => by simp [h']) h2
  refine wp_region ?_
  have hsz : List.range (pre ++ o :: post).toArray.size = List.range' 0 pre.length ++ (pre.length :: (List.range' (pre.length + 1) post.length ++ [])) := by
    rw [List.range_eq_range', List.append_nil]
    simp only [List.size_toArray, List.length_append, List.length_cons]
    rw [← List.range'_succ]
    have := List.range'_append (s := 0) (m := pre.length) (n := post.length + 1) (step := 1)
    simp only [Nat.one_mul, Nat.zero_add] at this
    exact this.symm
  rw [hsz]
  refine h1.wpOps2 (k := 0) (fun j hj => by simp [List.getElem?_append_left hj]) hr fun a W hr => ?_
  rw [wpOps_cons, wpOp]
  have h0 : (pre ++ o :: post).toArray[pre.length]? = some o := by simp
  rw [h0]
  simp only []
  have hw : Region.wanted o (yielded (pre ++ o :: post).toArray a.tmps) = true := by simp [Region.wanted, ho]
  rw [if_pos hw]
  refine .inl (hst a W hr _ _ fun v W' hr' => ?_)
  refine h3.wpOps2 (k := pre.length + 1) (fun j hj => ?_) hr' fun a W hr => h4 a W hr
  simp [List.getElem?_append_right, Nat.add_assoc, show pre.length + (1 + j) - pre.length = 1 + j by omega, Nat.add_comm 1 j]
end
end Go.Vm

namespace Go.Vm
open Go Go.RowKit

/-- What is said of the blocks alone. -/
structure HRel (fr : Fr) (h : Nat → Option Blk) (W : World) (ν : Nat → Value) (F : Nat → List Nat) : Prop where
  heap : ∀ κ blk, h κ = some blk → blk.rz fr W (okOf fr W h ν) ν h κ (F κ)
  none_ : ∀ κ, h κ = none → F κ = []
  d1 : ∀ κ κ' b, κ ≠ κ' → topOf h ν κ = some b → topOf h ν κ' ≠ some b
  d2 : ∀ κ κ' b, b ∈ F κ → topOf h ν κ' ≠ some b
  d3 : ∀ κ, (F κ).Nodup
  d4 : ∀ κ κ' b, κ ≠ κ' → b ∈ F κ → b ∉ F κ'
  n1 : ∀ κ b, topOf h ν κ = some b → fr.Top b
  n2 : ∀ κ b, b ∈ F κ → fr.New b

theorem Rel.hrel {fr : Fr} {st : St} {a : Act} {W : World} {ν : Nat → Value} {F : Nat → List Nat} (hr : Rel fr st a W ν F) : HRel fr st.h W ν F :=
  ⟨hr.heap, hr.none_, hr.d1, hr.d2, hr.d3, hr.d4, hr.n1, hr.n2⟩

/-- The slots of a call with these arguments. -/
def slotsOf : Nat → List T → List (Nat × T)
  | _, [] => []
  | i, t :: ts => (i, t) :: slotsOf (i + 1) ts
/-- The given keys, held. -/
def ghostsOf : Nat → List (Nat × Blk) → List (Nat × T)
  | _, [] => []
  | i, (κ, _) :: hl => (i, .ref κ) :: ghostsOf (i + 1) hl

/-- What stands behind a call that writes to what it was given. -/
def PostG (fr : Fr) (hl hl' : List (Nat × Blk)) (rt : T) (ν : Nat → Value) (e : Ending) (W' : World) : Prop :=
  BelowX fr.X fr.W0 W' ∧ ∃ v ν' F', e = .returned v ∧ T.rz fr W' (okOf fr W' (fun κ => lk κ hl') ν') ν' (fun κ => lk κ hl') rt v ∧
    HRel fr (fun κ => lk κ hl') W' ν' F' ∧ ∀ κ, (lk κ hl).isSome = true → ν' κ = ν κ
/-- THE CONTRACT of a function that writes to what it is given. dp: it may write to all that the given blocks own; else to the given blocks alone. -/
def SatG (P : Program) (f : Nat) (dp : Bool) (ts : List T) (hl : List (Nat × Blk)) (rt : T) (hl' : List (Nat × Blk)) : Prop :=
  FnOk P f ∧ ∀ (W : World) (ok X Y : Nat → Prop) (vs : List Value) (ν : Nat → Value) (F : Nat → List Nat) (N : Nat) (γ : Nat → Value), (∀ b, ok b → b < W.heap.size ∧ ¬ X b) → (dp = true → ∀ b, Y b → X b) →
    HRel ⟨P, W, ok, N, γ, X, Y⟩ (fun κ => lk κ hl) W ν F → Ts.rz ⟨P, W, ok, N, γ, X, Y⟩ W (okOf ⟨P, W, ok, N, γ, X, Y⟩ W (fun κ => lk κ hl) ν) ν (fun κ => lk κ hl) ts vs →
    Calls P f vs.toArray W (PostG ⟨P, W, ok, N, γ, X, Y⟩ hl hl' rt ν)

section
variable {fr fr' : Fr} {W : World} {ok : Nat → Prop} {ν : Nat → Value} {h : Nat → Option Blk}
mutual
theorem T.rz_fr (h1 : fr'.P = fr.P) (h2 : fr'.W0 = fr.W0) (h3 : fr'.X = fr.X) (h4 : fr'.ok0 = fr.ok0) : ∀ (t : T) (v : Value), T.rz fr W ok ν h t v → T.rz fr' W ok ν h t v
  | .c x, v, hr => by simpa only [T.rz] using hr
  | .nilS, v, hr => by simpa only [T.rz] using hr
  | .ref κ, v, hr => by simpa only [T.rz] using hr
  | .ptr κ off, v, hr => by simpa only [T.rz] using hr
  | .ep κ sz i off, v, hr => by simpa only [T.rz] using hr
  | .pv xs, v, hr => by simpa only [T.rz] using hr
  | .agg xs, v, hr => by simp only [T.rz] at hr ⊢; obtain ⟨us, a, b, c⟩ := hr; exact ⟨us, a, b, Ts.rz_fr h1 h2 h3 h4 xs us c⟩
  | .tup xs, v, hr => by simp only [T.rz] at hr ⊢; obtain ⟨us, a, c⟩ := hr; exact ⟨us, a, Ts.rz_fr h1 h2 h3 h4 xs us c⟩
  | .clo f xs, v, hr => by simp only [T.rz] at hr ⊢; obtain ⟨us, a, c⟩ := hr; exact ⟨us, a, Ts.rz_fr h1 h2 h3 h4 xs us c⟩
  | .fn sem, v, hr => by simp only [T.rz] at hr ⊢; rw [h1, h2, h3]; exact hr
  | .un, v, hr => by simp only [T.rz]
  | .nn sz es, v, hr => by simpa only [T.rz] using hr
  | .ca x, v, hr => by simp only [T.rz] at hr ⊢; rw [h2, h4]; exact hr
theorem Ts.rz_fr (h1 : fr'.P = fr.P) (h2 : fr'.W0 = fr.W0) (h3 : fr'.X = fr.X) (h4 : fr'.ok0 = fr.ok0) : ∀ (ts : List T) (us : List Value), Ts.rz fr W ok ν h ts us → Ts.rz fr' W ok ν h ts us
  | [], us, hr => by simpa only [Ts.rz] using hr
  | t :: ts, us, hr => by
    simp only [Ts.rz] at hr ⊢
    obtain ⟨u, us', a, b, c⟩ := hr
    exact ⟨u, us', a, T.rz_fr h1 h2 h3 h4 t u b, Ts.rz_fr h1 h2 h3 h4 ts us' c⟩
end
theorem okOf_fr (h2 : fr'.W0 = fr.W0) (h3 : fr'.X = fr.X) (h4 : fr'.ok0 = fr.ok0) (h5 : fr'.Y = fr.Y) : okOf fr' W h ν = okOf fr W h ν := by
  funext b; simp only [okOf, Fr.New, h2, h3, h4, h5]
theorem Blk.rz_fr (h1 : fr'.P = fr.P) (h2 : fr'.W0 = fr.W0) (h3 : fr'.X = fr.X) (h4 : fr'.ok0 = fr.ok0) {blk : Blk} {κ : Nat} {fs : List Nat} (hr : blk.rz fr W ok ν h κ fs) : blk.rz fr' W ok ν h κ fs := by
  cases blk with
  | arr d ty sz es => cases d <;> simpa only [Blk.rz, Fr.B] using hr
  | box xs => simp only [Blk.rz] at hr ⊢; obtain ⟨a, b, us, ty, c, d, e, f, g⟩ := hr; exact ⟨a, b, us, ty, c, d, e, Ts.rz_fr h1 h2 h3 h4 xs us f, g⟩
  | fro sz es => simpa only [Blk.rz] using hr
  | dead => simpa only [Blk.rz] using hr
  | opn ty sz pre mid post => simp only [Blk.rz, Fr.B] at hr ⊢; obtain ⟨xs, ms, ys, f1, f2, a, b, c, d⟩ := hr; exact ⟨xs, ms, ys, f1, f2, a, b, Ts.rz_fr h1 h2 h3 h4 mid ms c, d⟩
theorem HRel.of_fr {F : Nat → List Nat} (h1 : fr'.P = fr.P) (h2 : fr'.W0 = fr.W0) (h3 : fr'.X = fr.X) (h4 : fr'.ok0 = fr.ok0) (h5 : fr'.Y = fr.Y) (hr : HRel fr h W ν F) : HRel fr' h W ν F :=
  ⟨fun κ blk hb => by rw [okOf_fr h2 h3 h4 h5]; exact Blk.rz_fr h1 h2 h3 h4 (hr.heap κ blk hb), hr.none_, hr.d1, hr.d2, hr.d3, hr.d4,
    fun κ b hb => by have := hr.n1 κ b hb; simpa only [Fr.Top, h2, h3] using this, fun κ b hb => by have := hr.n2 κ b hb; simpa only [Fr.New, h2, h3, h5] using this⟩
end
theorem slotsOf_rz {fr : Fr} {W : World} {ok : Nat → Prop} {ν : Nat → Value} {h : Nat → Option Blk} : ∀ {ts : List T} {vs : List Value} {i : Nat}, Ts.rz fr W ok ν h ts vs → ∀ j, i ≤ j → T.rz fr W ok ν h (lkT j (slotsOf i ts)) (vs.getD (j - i) undef)
  | [], vs, i, hr, j, hj => by simp [slotsOf, lkT, T.rz]
  | t :: ts, vs, i, hr, j, hj => by
    simp only [Ts.rz] at hr
    obtain ⟨u, us', rfl, h1, h2⟩ := hr
    simp only [slotsOf, lkT]
    split
    · rename_i hij; subst hij; simpa using h1
    · rename_i hij
      have := slotsOf_rz (i := i + 1) h2 j (by omega)
      rw [show j - i = (j - (i + 1)) + 1 by omega]
      simpa using this
/-- The values of the given keys, by their place. -/
def keyAt : List (Nat × Blk) → Nat → Nat
  | [], _ => 0
  | (κ, _) :: _, 0 => κ
  | _ :: hl, n + 1 => keyAt hl n
theorem ghostsOf_rz {fr : Fr} {W : World} {ok : Nat → Prop} {ν : Nat → Value} {h : Nat → Option Blk} : ∀ {hl : List (Nat × Blk)} {i j : Nat}, (∀ κ, κ ∈ hl.map (·.1) → (h κ).isSome = true) → i ≤ j → T.rz fr W ok ν h (lkT j (ghostsOf i hl)) (ν (keyAt hl (j - i)))
  | [], i, j, _, _ => by simp [ghostsOf, lkT, T.rz]
  | (κ, b) :: hl, i, j, hh, hj => by
    simp only [ghostsOf, lkT]
    split
    · rename_i hij
      subst hij
      simp only [T.rz, Nat.sub_self, keyAt, true_and]
      exact hh κ (by simp)
    · rename_i hij
      rw [show j - i = (j - (i + 1)) + 1 by omega]
      exact ghostsOf_rz (i := i + 1) (fun κ hκ => hh κ (by simp [hκ])) (by omega)
/-- What a walk is to end with. -/
def finG (fr : Fr) (fn : Func) (hl hl' : List (Nat × Blk)) (rt : T) : Exit → Act → World → Prop :=
  bodyPost fr.P fn fun e W' => BelowX fr.X fr.W0 W' ∧ ∃ v ν' F', e = .returned v ∧ T.rz fr W' (okOf fr W' (fun κ => lk κ hl') ν') ν' (fun κ => lk κ hl') rt v ∧
    HRel fr (fun κ => lk κ hl') W' ν' F' ∧ ∀ j, j < hl.length → ν' (keyAt hl j) = fr.γ j
theorem keyAt_get : ∀ {hl : List (Nat × Blk)} {κ : Nat}, (lk κ hl).isSome = true → ∃ j, j < hl.length ∧ keyAt hl j = κ
  | [], κ, h => by simp [lk] at h
  | (k, b) :: hl, κ, h => by
    simp only [lk] at h
    split at h
    · rename_i he; exact ⟨0, by simp, he.symm⟩
    · obtain ⟨j, h1, h2⟩ := keyAt_get h
      exact ⟨j + 1, by simpa using h1, h2⟩
/-- What memory bounds. -/
def Ts.bnd : List T → Prop
  | [] => True
  | .c x :: ts => C.bnd x ∧ Ts.bnd ts
  | .agg xs :: ts => (∀ x, T.c x ∈ xs → C.bnd x) ∧ Ts.bnd ts
  | _ :: ts => Ts.bnd ts
def Hl.bnd : List (Nat × Blk) → Prop
  | [] => True
  | (_, .arr _ _ _ es) :: hl => (es.length ≤ maxLen ∧ Es.bnd es) ∧ Hl.bnd hl
  | (_, .fro _ es) :: hl => (es.length ≤ maxLen ∧ Es.bnd es) ∧ Hl.bnd hl
  | (_, .box xs) :: hl => (∀ x, T.c x ∈ xs → C.bnd x) ∧ Hl.bnd hl
  | _ :: hl => Hl.bnd hl
section
variable {fr : Fr} {W : World} {ok : Nat → Prop} {ν : Nat → Value} {h : Nat → Option Blk}
theorem Ts.rz_mem_bnd : ∀ {ts : List T} {vs : List Value}, Ts.rz fr W ok ν h ts vs → ∀ x, T.c x ∈ ts → C.bnd x
  | [], _, _, x, hx => by cases hx
  | t :: ts, vs, hr, x, hx => by
    simp only [Ts.rz] at hr
    obtain ⟨u, us', rfl, h1, h2⟩ := hr
    rcases List.mem_cons.1 hx with rfl | hx
    · simp only [T.rz] at h1; exact C.rz_bnd x u [] h1
    · exact Ts.rz_mem_bnd h2 x hx
theorem Ts.rz_bnd : ∀ {ts : List T} {vs : List Value}, Ts.rz fr W ok ν h ts vs → Ts.bnd ts
  | [], _, _ => trivial
  | t :: ts, vs, hr => by
    simp only [Ts.rz] at hr
    obtain ⟨u, us', rfl, h1, h2⟩ := hr
    have h3 := Ts.rz_bnd h2
    cases t with
    | c x => simp only [T.rz] at h1; exact ⟨C.rz_bnd x u [] h1, h3⟩
    | agg xs => simp only [T.rz] at h1; obtain ⟨us, _, _, h4⟩ := h1; exact ⟨Ts.rz_mem_bnd h4, h3⟩
    | _ => exact h3
end
theorem HRel.bnd {fr : Fr} {W : World} {ν : Nat → Value} {F : Nat → List Nat} {hl : List (Nat × Blk)} (hh : HRel fr (fun κ => lk κ hl) W ν F) (hn : (hl.map (·.1)).Nodup) : Hl.bnd hl := by
  have hm : ∀ p ∈ hl, lk p.1 hl = some p.2 := by
    clear hh
    induction hl with
    | nil => simp
    | cons p hl ih =>
      simp only [List.map_cons, List.nodup_cons] at hn
      intro q hq
      rcases List.mem_cons.1 hq with rfl | hq
      · simp [lk]
      · simp only [lk]
        rw [if_neg]
        · exact ih hn.2 q hq
        · rintro e; exact hn.1 (by rw [← e]; exact List.mem_map_of_mem hq)
  have key : ∀ l : List (Nat × Blk), (∀ p ∈ l, p ∈ hl) → Hl.bnd l := by
    intro l
    induction l with
    | nil => intro _; trivial
    | cons p l ih =>
      intro hl'
      have h1 := ih fun q hq => hl' q (by simp [hq])
      have h2 := hh.heap p.1 p.2 (hm p (hl' p (by simp)))
      obtain ⟨κ, b⟩ := p
      cases b with
      | arr d ty sz es =>
        cases d with
        | true =>
          simp only [Blk.rz] at h2
          obtain ⟨xs, ho, he⟩ := h2
          exact ⟨⟨(ownsRow_maxLen ho).choose_spec.choose_spec.2.2.1, Es.rz_bnd _ _ _ he⟩, h1⟩
        | false =>
          simp only [Blk.rz] at h2
          obtain ⟨xs, ho, he, _⟩ := h2
          exact ⟨⟨(ownsRow_maxLen ho).choose_spec.choose_spec.2.2.1, Es.rz_bnd _ _ _ he⟩, h1⟩
      | fro sz es => simp only [Blk.rz] at h2; have := C.rz_bnd _ _ _ h2.2; exact ⟨this, h1⟩
      | box xs => simp only [Blk.rz] at h2; obtain ⟨_, b, us, ty, _, _, _, h4, _⟩ := h2; exact ⟨Ts.rz_mem_bnd h4, h1⟩
      | dead => exact h1
      | opn ty sz pre mid post => exact h1
  exact key hl fun _ h => h
/-- THE CONTRACT out of a walk. -/
theorem satG_walk {P : Program} {f : Nat} {fn : Func} {c : Code} {dp : Bool} {ts : List T} {hl hl' : List (Nat × Blk)} {rt : T} (hf : P.funcs[f]? = some fn) (hb : fn.body = some c) (hn : (fn.name == "runtime.NumGoroutine") = false) (hN : ts.length ≤ fn.ntmps) (hnd : (hl.map (·.1)).Nodup)
    (H : ∀ fr : Fr, fr.P = P → fr.N = fn.ntmps → (dp = true → ∀ b, fr.Y b → fr.X b) → Ts.bnd ts → Hl.bnd hl → ev (envOf fr P) (finG fr fn hl hl' rt) [.code c] (cst (slotsOf 0 ts) hl (ghostsOf 0 hl))) : SatG P f dp ts hl rt hl' := by
  refine ⟨⟨fn, hf, by simp [hb], hn⟩, fun W ok X Y vs ν F N γ hok hdp hh hts => calls_of_wp hf hb ?_⟩
  have hl0 := Ts.rz_length _ _ hts
  let fr : Fr := ⟨P, W, ok, fn.ntmps, fun j => ν (keyAt hl j), X, Y⟩
  have hokf : okOf fr W (fun κ => lk κ hl) ν = okOf ⟨P, W, ok, N, γ, X, Y⟩ W (fun κ => lk κ hl) ν := okOf_fr rfl rfl rfl rfl
  have hts' : Ts.rz fr W (okOf fr W (fun κ => lk κ hl) ν) ν (fun κ => lk κ hl) ts vs := by
    rw [hokf]; exact Ts.rz_fr (fr := ⟨P, W, ok, N, γ, X, Y⟩) (fr' := fr) rfl rfl rfl rfl ts vs hts
  have hh' : HRel fr (fun κ => lk κ hl) W ν F := HRel.of_fr (fr := ⟨P, W, ok, N, γ, X, Y⟩) (fr' := fr) rfl rfl rfl rfl rfl hh
  have hr : RelE fr (cst (slotsOf 0 ts) hl (ghostsOf 0 hl)) { tmps := vs.toArray ++ Array.replicate (fn.ntmps - vs.toArray.size) undef, defers := [] } W := by
    refine ⟨ν, F, ⟨rfl, by show _ = fn.ntmps; simp; omega, .of (Bel.refl _ _), hok, fun j => ?_, fun j => ?_, hh'.heap, hh'.none_, hh'.d1, hh'.d2, hh'.d3, hh'.d4, hh'.n1, hh'.n2⟩⟩
    · have e : (vs.toArray ++ Array.replicate (fn.ntmps - vs.toArray.size) undef).getD j undef = vs.getD j undef := by
        rw [Array.getD_eq_getD_getElem?, List.getD_eq_getElem?_getD, Array.getElem?_append]
        split
        · simp
        · rename_i hlt
          rw [List.getElem?_eq_none (by simpa using hlt), Array.getElem?_replicate]
          split <;> rfl
      rw [e]
      exact slotsOf_rz (i := 0) hts' j (Nat.zero_le _)
    · exact ghostsOf_rz (i := 0) (fun κ hκ => lk_isSome.2 hκ) (Nat.zero_le _)
  refine wp_mono (H fr rfl rfl hdp (Ts.rz_bnd hts) (hh.bnd hnd) _ W hr) ?_
  intro e a W' h
  have h : finG fr fn hl hl' rt e a W' := h
  unfold finG at h
  refine bodyPost_mono ?_ h
  rintro e W' ⟨h1, v, ν', F', h2, h3, h4, h5⟩
  refine ⟨h1, v, ν', F', h2, ?_, HRel.of_fr (fr := fr) rfl rfl rfl rfl rfl h4, fun κ hκ => ?_⟩
  · have := T.rz_fr (fr := fr) (fr' := ⟨P, W, ok, N, γ, X, Y⟩) rfl rfl rfl rfl _ _ h3
    rw [show okOf ⟨P, W, ok, N, γ, X, Y⟩ W' (fun κ => lk κ hl') ν' = okOf fr W' (fun κ => lk κ hl') ν' from okOf_fr rfl rfl rfl rfl]
    exact this
  · obtain ⟨j, hj, rfl⟩ := keyAt_get hκ
    exact h5 j hj
theorem ghostsOf_get : ∀ {hl : List (Nat × Blk)} {i j : Nat}, i ≤ j → j - i < hl.length → lkT j (ghostsOf i hl) = .ref (keyAt hl (j - i))
  | [], i, j, _, h => by simp at h
  | (κ, b) :: hl, i, j, hj, h => by
    simp only [ghostsOf, lkT]
    split
    · rename_i he; subst he; simp [keyAt]
    · rename_i he
      rw [show j - i = (j - (i + 1)) + 1 by omega]
      simp only [keyAt]
      exact ghostsOf_get (i := i + 1) (by omega) (by simp only [List.length_cons] at h; omega)
/-- The end of such a function: what it hands back, and the blocks behind it. ρ: the contract's new keys to the walk's. -/
def vendG (ρ : List (Nat × Option Nat)) (st : St) (rt : T) (hl hl' : List (Nat × Blk)) : Option (List T) → Prop
  | some ts => simT ρ hl' rt (oneT ts) ∧ Sim ρ st [] hl' (ghostsOf 0 hl)
  | none => False
section
variable {E : Env} {st : St} {fn : Func} {hl hl' : List (Nat × Blk)} {rt : T}
theorem fin_g (ρ : List (Nat × Option Nat)) (hE : E.Ok) {rl : List ResultVar} (h1 : fn.results = rl.toArray) (h : vendG ρ st rt hl hl' (resL E st rl))
    {x : Exit} (hx : x = .normal ∨ x = .ret) {a : Act} {W : World} (hr : RelE E.fr st a W) : finG E.fr fn hl hl' rt x a W := by
  obtain ⟨ν, F, hr⟩ := hr
  unfold vendG at h
  split at h
  · rename_i ts hts
    obtain ⟨hs1, hs2⟩ := h
    obtain ⟨vs, g1, g2⟩ := run_results hE hr (fn := fn) (by rw [h1]; exact hts)
    obtain ⟨hw, hT⟩ := hr.weak' hs2
    have post : BelowX E.fr.X E.fr.W0 W ∧ ∃ v' ν' F', Ending.returned (valOf vs) = .returned v' ∧ T.rz E.fr W (okOf E.fr W (fun κ => lk κ hl') ν') ν' (fun κ => lk κ hl') rt v' ∧
      HRel E.fr (fun κ => lk κ hl') W ν' F' ∧ ∀ j, j < hl.length → ν' (keyAt hl j) = E.fr.γ j :=
      ⟨hr.below, _, _, _, rfl, hT _ _ _ hs1 (oneT_rz g2), hw.hrel, fun j hj => by
        have := hw.ghosts j
        simp only [cst] at this
        rw [ghostsOf_get (Nat.zero_le _) (by simpa using hj)] at this
        simp only [T.rz, Nat.sub_zero] at this
        exact this.1.symm⟩
    rcases hx with rfl | rfl <;> exact ⟨hr.defers, _, g1, post⟩
  · exact h.elim
theorem endG_ret (ρ : List (Nat × Option Nat)) (hE : E.Ok) {rl : List ResultVar} (h1 : fn.results = rl.toArray) (h : vendG ρ st rt hl hl' (resL E st rl)) : evx E (finG E.fr fn hl hl' rt) [] .ret st :=
  fun a W hr => fin_g ρ hE h1 h (.inr rfl) hr
theorem endG_norm (ρ : List (Nat × Option Nat)) (hE : E.Ok) {rl : List ResultVar} (h1 : fn.results = rl.toArray) (h : vendG ρ st rt hl hl' (resL E st rl)) : ev E (finG E.fr fn hl hl' rt) [] st :=
  fun a W hr => fin_g ρ hE h1 h (.inl rfl) hr
end
end Go.Vm

namespace Go.Vm
open Go Go.RowKit

mutual
/-- With the caller's keys. -/
def T.ren (ρ : Nat → Nat) : T → T
  | .c x => .c x
  | .nilS => .nilS
  | .ref κ => .ref (ρ κ)
  | .ptr κ off => .ptr (ρ κ) off
  | .ep κ sz i off => .ep (ρ κ) sz i off
  | .pv xs => .pv xs
  | .agg xs => .agg (Ts.ren ρ xs)
  | .tup xs => .tup (Ts.ren ρ xs)
  | .clo f xs => .clo f (Ts.ren ρ xs)
  | .fn sem => .fn sem
  | .un => .un
  | .nn sz es => .nn sz es
  | .ca x => .ca x
def Ts.ren (ρ : Nat → Nat) : List T → List T
  | [] => []
  | t :: ts => T.ren ρ t :: Ts.ren ρ ts
end
theorem Ts.ren_length {ρ : Nat → Nat} : ∀ {ts : List T}, (Ts.ren ρ ts).length = ts.length
  | [] => rfl
  | t :: ts => by simp [Ts.ren, Ts.ren_length (ts := ts)]
def Blk.ren (ρ : Nat → Nat) : Blk → Blk
  | .arr d ty sz es => .arr d ty sz es
  | .box xs => .box (Ts.ren ρ xs)
  | .fro sz es => .fro sz es
  | .dead => .dead
  | .opn ty sz pre mid post => .opn ty sz pre (Ts.ren ρ mid) post
mutual
/-- What may cross a call's border. -/
def T.cross (q : Nat → Prop) : T → Prop
  | .c _ => True
  | .nilS => True
  | .ref κ => q κ
  | .ptr κ _ => q κ
  | .ep κ _ _ _ => q κ
  | .pv _ => False
  | .agg xs => Ts.cross q xs
  | .tup xs => Ts.cross q xs
  | .clo _ xs => Ts.cross q xs
  | .fn _ => False
  | .un => True
  | .nn _ _ => True
  | .ca _ => False
def Ts.cross (q : Nat → Prop) : List T → Prop
  | [] => True
  | t :: ts => T.cross q t ∧ Ts.cross q ts
end
def Blk.cross (q : Nat → Prop) : Blk → Prop
  | .box xs => Ts.cross q xs
  | .opn _ _ _ mid _ => Ts.cross q mid
  | _ => True
def allX (q : Nat → Prop) : List (Nat × Blk) → Prop
  | [] => True
  | (_, b) :: r => Blk.cross q b ∧ allX q r
theorem allX_get {q : Nat → Prop} : ∀ {l : List (Nat × Blk)} {κ : Nat} {b : Blk}, allX q l → lk κ l = some b → b.cross q
  | [], κ, b, _, h => by simp [lk] at h
  | (k, x) :: r, κ, b, ha, h => by
    simp only [lk] at h
    split at h
    · cases h; exact ha.1
    · exact allX_get ha.2 h

section
variable {fr fr' : Fr} {W : World} {ok ok' : Nat → Prop} {ν ν' : Nat → Value} {h h' : Nat → Option Blk} {ρ : Nat → Nat} {q : Nat → Prop}
mutual
theorem T.rz_cross (hq : ∀ κ, q κ → (h' κ).isSome = true) (hok : ∀ b, ok b → ok' b) : ∀ (t : T) (v : Value), T.cross q t → T.rz fr W ok ν h (T.ren ρ t) v → T.rz fr' W ok' (fun κ => ν (ρ κ)) h' t v
  | .c x, v, _, hr => by simp only [T.ren, T.rz] at hr ⊢; exact C.rz_move (fun b hb => ⟨hok b hb, rfl⟩) (Nat.le_refl _) x v [] (by simp) hr
  | .nilS, v, _, hr => by simpa only [T.ren, T.rz] using hr
  | .ref κ, v, hx, hr => by simp only [T.ren, T.rz, T.cross] at hr hx ⊢; exact ⟨hr.1, hq κ hx⟩
  | .ptr κ off, v, hx, hr => by simp only [T.ren, T.rz, T.cross] at hr hx ⊢; exact ⟨hq κ hx, hr.2⟩
  | .ep κ sz i off, v, hx, hr => by simp only [T.ren, T.rz, T.cross] at hr hx ⊢; exact ⟨hq κ hx, hr.2⟩
  | .pv _, v, hx, hr => by simp only [T.cross] at hx
  | .agg xs, v, hx, hr => by simp only [T.ren, T.rz, T.cross] at hr hx ⊢; obtain ⟨us, a, b, c⟩ := hr; exact ⟨us, a, b, Ts.rz_cross hq hok xs us hx c⟩
  | .tup xs, v, hx, hr => by simp only [T.ren, T.rz, T.cross] at hr hx ⊢; obtain ⟨us, a, c⟩ := hr; exact ⟨us, a, Ts.rz_cross hq hok xs us hx c⟩
  | .clo f xs, v, hx, hr => by simp only [T.ren, T.rz, T.cross] at hr hx ⊢; obtain ⟨us, a, c⟩ := hr; exact ⟨us, a, Ts.rz_cross hq hok xs us hx c⟩
  | .fn _, v, hx, hr => by simp only [T.cross] at hx
  | .un, v, _, hr => by simp only [T.rz]
  | .nn sz es, v, _, hr => by simp only [T.ren, T.rz] at hr ⊢; exact ⟨C.rz_move (fun b hb => ⟨hok b hb, rfl⟩) (Nat.le_refl _) _ v [] (by simp) hr.1, hr.2⟩
  | .ca _, v, hx, hr => by simp only [T.cross] at hx
theorem Ts.rz_cross (hq : ∀ κ, q κ → (h' κ).isSome = true) (hok : ∀ b, ok b → ok' b) : ∀ (ts : List T) (vs : List Value), Ts.cross q ts → Ts.rz fr W ok ν h (Ts.ren ρ ts) vs → Ts.rz fr' W ok' (fun κ => ν (ρ κ)) h' ts vs
  | [], vs, _, hr => by simpa only [Ts.ren, Ts.rz] using hr
  | t :: ts, vs, hx, hr => by
    simp only [Ts.ren, Ts.rz, Ts.cross] at hr hx ⊢
    obtain ⟨u, us', a, b, c⟩ := hr
    exact ⟨u, us', a, T.rz_cross hq hok t u hx.1 b, Ts.rz_cross hq hok ts us' hx.2 c⟩
end
mutual
/-- .. and back. -/
theorem T.rz_back (hν : ∀ κ, (h' κ).isSome = true → ν (ρ κ) = ν' κ ∧ (h (ρ κ)).isSome = true) (hok : ∀ b, ok' b → ok b) : ∀ (t : T) (v : Value), T.cross q t → T.rz fr' W ok' ν' h' t v → T.rz fr W ok ν h (T.ren ρ t) v
  | .c x, v, _, hr => by simp only [T.ren, T.rz] at hr ⊢; exact C.rz_move (fun b hb => ⟨hok b hb, rfl⟩) (Nat.le_refl _) x v [] (by simp) hr
  | .nilS, v, _, hr => by simpa only [T.ren, T.rz] using hr
  | .ref κ, v, hx, hr => by simp only [T.ren, T.rz] at hr ⊢; obtain ⟨a, b⟩ := hν κ hr.2; exact ⟨by rw [a]; exact hr.1, b⟩
  | .ptr κ off, v, hx, hr => by simp only [T.ren, T.rz] at hr ⊢; obtain ⟨a, b⟩ := hν κ hr.1; exact ⟨b, by rw [a]; exact hr.2⟩
  | .ep κ sz i off, v, hx, hr => by simp only [T.ren, T.rz] at hr ⊢; obtain ⟨a, b⟩ := hν κ hr.1; exact ⟨b, by rw [a]; exact hr.2⟩
  | .pv _, v, hx, hr => by simp only [T.cross] at hx
  | .agg xs, v, hx, hr => by simp only [T.ren, T.rz, T.cross] at hr hx ⊢; obtain ⟨us, a, b, c⟩ := hr; exact ⟨us, a, b, Ts.rz_back hν hok xs us hx c⟩
  | .tup xs, v, hx, hr => by simp only [T.ren, T.rz, T.cross] at hr hx ⊢; obtain ⟨us, a, c⟩ := hr; exact ⟨us, a, Ts.rz_back hν hok xs us hx c⟩
  | .clo f xs, v, hx, hr => by simp only [T.ren, T.rz, T.cross] at hr hx ⊢; obtain ⟨us, a, c⟩ := hr; exact ⟨us, a, Ts.rz_back hν hok xs us hx c⟩
  | .fn _, v, hx, hr => by simp only [T.cross] at hx
  | .un, v, _, hr => by simp only [T.ren, T.rz]
  | .nn sz es, v, _, hr => by simp only [T.ren, T.rz] at hr ⊢; exact ⟨C.rz_move (fun b hb => ⟨hok b hb, rfl⟩) (Nat.le_refl _) _ v [] (by simp) hr.1, hr.2⟩
  | .ca _, v, hx, hr => by simp only [T.cross] at hx
theorem Ts.rz_back (hν : ∀ κ, (h' κ).isSome = true → ν (ρ κ) = ν' κ ∧ (h (ρ κ)).isSome = true) (hok : ∀ b, ok' b → ok b) : ∀ (ts : List T) (vs : List Value), Ts.cross q ts → Ts.rz fr' W ok' ν' h' ts vs → Ts.rz fr W ok ν h (Ts.ren ρ ts) vs
  | [], vs, _, hr => by simpa only [Ts.ren, Ts.rz] using hr
  | t :: ts, vs, hx, hr => by
    simp only [Ts.ren, Ts.rz, Ts.cross] at hr hx ⊢
    obtain ⟨u, us', a, b, c⟩ := hr
    exact ⟨u, us', a, T.rz_back hν hok t u hx.1 b, Ts.rz_back hν hok ts us' hx.2 c⟩
end
theorem topB_ren {κ : Nat} (b : Blk) : topB ν κ (some (b.ren ρ)) = topB ν κ (some b) := by cases b <;> rfl
theorem topB_val {κ κ' : Nat} (b : Blk) (e : ν κ = ν' κ') : topB ν κ (some b) = topB ν' κ' (some b) := by cases b <;> simp [topB, e]
theorem Blk.rz_cross (hq : ∀ κ, q κ → (h' κ).isSome = true) (hok : ∀ b, ok b → ok' b) {blk : Blk} {κ : Nat} {fs : List Nat} (hx : blk.cross q) (hr : (blk.ren ρ).rz fr W ok ν h (ρ κ) fs) : blk.rz fr' W ok' (fun κ => ν (ρ κ)) h' κ fs := by
  cases blk with
  | arr d ty sz es =>
    cases d
    · simp only [Blk.ren, Blk.rz, Fr.B] at hr ⊢
      obtain ⟨xs, a, b, c⟩ := hr
      exact ⟨xs, a, Es.rz_move (fun b hb => ⟨hok b hb, rfl⟩) (Nat.le_refl _) _ _ _ [] (by simp) b, c⟩
    · simpa only [Blk.ren, Blk.rz, Fr.B] using hr
  | box xs =>
    simp only [Blk.ren, Blk.rz, Fr.B, Blk.cross] at hr hx ⊢
    obtain ⟨a, b, us, ty, c, d, e, f, g⟩ := hr
    exact ⟨a, b, us, ty, c, d, e, Ts.rz_cross hq hok xs us hx f, g⟩
  | fro sz es =>
    simp only [Blk.ren, Blk.rz] at hr ⊢
    exact ⟨hr.1, C.rz_move (fun b hb => ⟨hok b hb, rfl⟩) (Nat.le_refl _) _ _ [] (by simp) hr.2⟩
  | dead => simpa only [Blk.ren, Blk.rz] using hr
  | opn ty sz pre mid post =>
    simp only [Blk.ren, Blk.rz, Fr.B, Blk.cross] at hr hx ⊢
    obtain ⟨xs, ms, ys, f1, f2, a, b, c, d, e, f⟩ := hr
    exact ⟨xs, ms, ys, f1, f2, a, b, Ts.rz_cross hq hok mid ms hx c, d, by rw [← Ts.ren_length (ρ := ρ)]; exact e, f⟩
theorem Blk.rz_back (hν : ∀ κ, (h' κ).isSome = true → ν (ρ κ) = ν' κ ∧ (h (ρ κ)).isSome = true) (hok : ∀ b, ok' b → ok b) {blk : Blk} {κ : Nat} {fs : List Nat} (hκ : ν (ρ κ) = ν' κ) (hx : blk.cross q) (hr : blk.rz fr' W ok' ν' h' κ fs) :
    (blk.ren ρ).rz fr W ok ν h (ρ κ) fs := by
  cases blk with
  | arr d ty sz es =>
    cases d
    · simp only [Blk.ren, Blk.rz, Fr.B, hκ] at hr ⊢
      obtain ⟨xs, a, b, c⟩ := hr
      exact ⟨xs, a, Es.rz_move (fun b hb => ⟨hok b hb, rfl⟩) (Nat.le_refl _) _ _ _ [] (by simp) b, c⟩
    · simpa only [Blk.ren, Blk.rz, Fr.B, hκ] using hr
  | box xs =>
    simp only [Blk.ren, Blk.rz, Fr.B, Blk.cross, hκ] at hr hx ⊢
    obtain ⟨a, b, us, ty, c, d, e, f, g⟩ := hr
    exact ⟨a, b, us, ty, c, d, e, Ts.rz_back hν hok xs us hx f, g⟩
  | fro sz es =>
    simp only [Blk.ren, Blk.rz, hκ] at hr ⊢
    exact ⟨hr.1, C.rz_move (fun b hb => ⟨hok b hb, rfl⟩) (Nat.le_refl _) _ _ [] (by simp) hr.2⟩
  | dead => simpa only [Blk.ren, Blk.rz, hκ] using hr
  | opn ty sz pre mid post =>
    simp only [Blk.ren, Blk.rz, Fr.B, Blk.cross, hκ] at hr hx ⊢
    obtain ⟨xs, ms, ys, f1, f2, a, b, c, d, e, f⟩ := hr
    exact ⟨xs, ms, ys, f1, f2, a, b, Ts.rz_back hν hok mid ms hx c, d, by rw [Ts.ren_length]; exact e, f⟩
end

section
variable {fr : Fr} {st : St} {a : Act} {W : World} {ν : Nat → Value} {F : Nat → List Nat} {ρ : Nat → Nat} {hc hc' : List (Nat × Blk)}
/-- The blocks that are given: their own; what they own. -/
def givX (h : Nat → Option Blk) (ν : Nat → Value) (ρ : Nat → Nat) (hc : List (Nat × Blk)) (b : Nat) : Prop := ∃ κ, (lk κ hc).isSome = true ∧ topOf h ν (ρ κ) = some b
def givY (F : Nat → List Nat) (ρ : Nat → Nat) (hc : List (Nat × Blk)) (b : Nat) : Prop := ∃ κ, (lk κ hc).isSome = true ∧ b ∈ F (ρ κ)
/-- The callee's frame. -/
def frC (fr : Fr) (st : St) (W : World) (ν : Nat → Value) (F : Nat → List Nat) (ρ : Nat → Nat) (hc : List (Nat × Blk)) : Fr := ⟨fr.P, W, okOf fr W st.h ν, 0, fun _ => undef, givX st.h ν ρ hc, givY F ρ hc⟩
theorem lk_mem {κ : Nat} {blk : Blk} : ∀ {hl : List (Nat × Blk)}, lk κ hl = some blk → (κ, blk) ∈ hl
  | [], h => by simp [lk] at h
  | (k, b) :: hl, h => by
    simp only [lk] at h
    split at h
    · rename_i he; subst he; simp only [Option.some.injEq] at h; subst h; simp
    · exact List.mem_cons_of_mem _ (lk_mem h)
theorem topc (hk : ∀ κ blk, lk κ hc = some blk → st.h (ρ κ) = some (blk.ren ρ)) {κ b : Nat} (ht : topOf (fun κ => lk κ hc) (fun κ => ν (ρ κ)) κ = some b) : (lk κ hc).isSome = true ∧ topOf st.h ν (ρ κ) = some b := by
  unfold topOf at ht ⊢
  cases hl : lk κ hc with
  | none => simp [hl, topB] at ht
  | some blk =>
    refine ⟨rfl, ?_⟩
    rw [hk κ blk hl, topB_ren]
    simp only [hl] at ht
    rw [← ht]
    exact (topB_val blk rfl).symm
theorem Rel.okC (hr : Rel fr st a W ν F) (hk : ∀ κ blk, lk κ hc = some blk → st.h (ρ κ) = some (blk.ren ρ)) {b : Nat} (hb : okOf fr W st.h ν b) : okOf (frC fr st W ν F ρ hc) W (fun κ => lk κ hc) (fun κ => ν (ρ κ)) b :=
  ⟨.inl hb, hb.2.1, fun κ ht => hb.2.2 _ (topc hk ht).2⟩
theorem Rel.given (hr : Rel fr st a W ν F) (hk : ∀ κ blk, lk κ hc = some blk → st.h (ρ κ) = some (blk.ren ρ)) (inj : ∀ κ κ', (lk κ hc).isSome = true → (lk κ' hc).isSome = true → ρ κ = ρ κ' → κ = κ')
    (hx : allX (fun κ => (lk κ hc).isSome = true) hc) :
    HRel (frC fr st W ν F ρ hc) (fun κ => lk κ hc) W (fun κ => ν (ρ κ)) (fun κ => if (lk κ hc).isSome = true then F (ρ κ) else []) := by
  refine ⟨fun κ blk hb => ?_, fun κ hn => by simp only [hn]; rfl, fun κ κ' b hne h1 h2 => ?_, fun κ κ' b h1 h2 => ?_, fun κ => ?_, fun κ κ' b hne h1 h2 => ?_, fun κ b h1 => ?_, fun κ b h1 => ?_⟩
  · have hb' : lk κ hc = some blk := hb
    have := hr.heap (ρ κ) _ (hk κ _ hb')
    simp only [hb', Option.isSome_some, if_true]
    exact Blk.rz_cross (fun κ h => h) (fun b hb => hr.okC hk hb) (allX_get hx hb') this
  · obtain ⟨s1, t1⟩ := topc hk h1
    obtain ⟨s2, t2⟩ := topc hk h2
    exact hr.d1 _ _ b (fun e => hne (inj κ κ' s1 s2 e)) t1 t2
  · obtain ⟨s2, t2⟩ := topc hk h2
    split at h1
    · exact hr.d2 _ _ b h1 t2
    · simp at h1
  · show (if _ then _ else _ : List Nat).Nodup
    split
    · exact hr.d3 _
    · simp
  · split at h1
    · split at h2
      · rename_i s1 s2
        exact hr.d4 _ _ b (fun e => hne (inj κ κ' s1 s2 e)) h1 h2
      · simp at h2
    · simp at h1
  · obtain ⟨s1, t1⟩ := topc hk h1
    exact .inr ⟨κ, s1, t1⟩
  · split at h1
    · rename_i s1; exact .inr (.inr ⟨κ, s1, h1⟩)
    · simp at h1

def renL (ρ : Nat → Nat) (hc : List (Nat × Blk)) : List (Nat × Blk) := hc.map fun p => (ρ p.1, p.2.ren ρ)
theorem lk_renL {κ : Nat} {blk : Blk} : ∀ {hc : List (Nat × Blk)}, (∀ κ', (lk κ' hc).isSome = true → ρ κ = ρ κ' → κ = κ') → lk κ hc = some blk → lk (ρ κ) (renL ρ hc) = some (blk.ren ρ)
  | [], _, h => by simp [lk] at h
  | (k, b) :: hc, inj, h => by
    simp only [renL, List.map_cons, lk] at h ⊢
    by_cases he : κ = k
    · subst he; simp at h; simp [h]
    · rw [if_neg he] at h
      rw [if_neg (fun e => he (inj k (by simp [lk]) e))]
      exact lk_renL (fun κ' h' => inj κ' (by simp only [lk]; split; rfl; exact h')) h
theorem lk_renL_some {κ : Nat} : ∀ {hc : List (Nat × Blk)}, (lk κ (renL ρ hc)).isSome = true → ∃ κ0, (lk κ0 hc).isSome = true ∧ ρ κ0 = κ
  | [], h => by simp [renL, lk] at h
  | (k, b) :: hc, h => by
    simp only [renL, List.map_cons, lk] at h
    split at h
    · rename_i he; exact ⟨k, by simp [lk], he.symm⟩
    · obtain ⟨κ0, h1, h2⟩ := lk_renL_some (hc := hc) h
      exact ⟨κ0, by simp only [lk]; split; rfl; exact h1, h2⟩
open Classical in
/-- THE STATE BEHIND A CALL that wrote to given blocks. -/
theorem Rel.afterG {W' : World} {ν1 : Nat → Value} {F1 : Nat → List Nat} {dst : Option Nat} {rt : T} {v : Value} {supp : List Nat}
    (hr : Rel fr st a W ν F) (hk : ∀ κ blk, lk κ hc = some blk → st.h (ρ κ) = some (blk.ren ρ))
    (hnew : ∀ κ, (lk κ hc').isSome = true → lk κ hc = none → st.h (ρ κ) = none) (hsub : ∀ κ, (lk κ hc).isSome = true → (lk κ hc').isSome = true)
    (inj : ∀ κ κ', (lk κ hc').isSome = true → (lk κ' hc').isSome = true → ρ κ = ρ κ' → κ = κ')
    (hx : allX (fun _ => True) hc') (hxr : T.cross (fun _ => True) rt)
    (hB : BelowX (givX st.h ν ρ hc) W W') (hH : HRel (frC fr st W ν F ρ hc) (fun κ => lk κ hc') W' ν1 F1)
    (hT : T.rz (frC fr st W ν F ρ hc) W' (okOf (frC fr st W ν F ρ hc) W' (fun κ => lk κ hc') ν1) ν1 (fun κ => lk κ hc') rt v)
    (hν1 : ∀ κ, (lk κ hc).isSome = true → ν1 κ = ν (ρ κ)) (hd : ∀ d, dst = some d → d < fr.N) :
    RelE fr (app st dst ⟨T.ren ρ rt, supp, renL ρ hc'⟩) (a.put dst v) W' := by
  let M := renL ρ hc'
  let im : Nat → Prop := fun κ => ∃ κ0, (lk κ0 hc').isSome = true ∧ ρ κ0 = κ
  have hM : ∀ κ, (lk κ M).isSome = true → im κ := fun κ h => lk_renL_some h
  have hM1 : ∀ κ0 blk, lk κ0 hc' = some blk → lk (ρ κ0) M = some (blk.ren ρ) := fun κ0 blk h => lk_renL (fun κ' h' e => inj κ0 κ' (by rw [h]; rfl) h' e) h
  have hM2 : ∀ κ0, (lk κ0 hc').isSome = true → (lk (ρ κ0) M).isSome = true := fun κ0 h0 => by
    obtain ⟨blk, hb⟩ := Option.isSome_iff_exists.1 h0
    rw [hM1 κ0 blk hb]; rfl
  let ν' : Nat → Value := fun κ => if hi : im κ then ν1 hi.choose else ν κ
  let F' : Nat → List Nat := fun κ => if hi : im κ then F1 hi.choose else F κ
  have νi : ∀ κ0, (lk κ0 hc').isSome = true → ν' (ρ κ0) = ν1 κ0 := fun κ0 h0 => by
    have hi : im (ρ κ0) := ⟨κ0, h0, rfl⟩
    simp only [ν', dif_pos hi]
    rw [inj _ _ hi.choose_spec.1 h0 hi.choose_spec.2]
  have Fi : ∀ κ0, (lk κ0 hc').isSome = true → F' (ρ κ0) = F1 κ0 := fun κ0 h0 => by
    have hi : im (ρ κ0) := ⟨κ0, h0, rfl⟩
    simp only [F', dif_pos hi]
    rw [inj _ _ hi.choose_spec.1 h0 hi.choose_spec.2]
  have νn : ∀ κ, ¬ im κ → ν' κ = ν κ := fun κ hi => by simp only [ν', dif_neg hi]
  have Fn : ∀ κ, ¬ im κ → F' κ = F κ := fun κ hi => by simp only [F', dif_neg hi]
  have mn : ∀ κ, ¬ im κ → mrg st.h M κ = st.h κ := fun κ hi => by
    have : lk κ M = none := by
      cases hl : lk κ M with
      | none => rfl
      | some _ => exact absurd (hM κ (by rw [hl]; rfl)) hi
    exact mrg_none this
  have topi : ∀ κ0 b, (lk κ0 hc').isSome = true → topOf (mrg st.h M) ν' (ρ κ0) = some b → topOf (fun κ => lk κ hc') ν1 κ0 = some b := fun κ0 b h0 ht => by
    obtain ⟨blk, hb⟩ := Option.isSome_iff_exists.1 h0
    unfold topOf at ht ⊢
    rw [mrg_some (hM1 κ0 blk hb), topB_ren, topB_val blk (νi κ0 h0)] at ht
    simp only [hb]; exact ht
  have topn : ∀ κ, ¬ im κ → topOf (mrg st.h M) ν' κ = topOf st.h ν κ := fun κ hi => by
    unfold topOf; rw [mn κ hi]; exact topB_congr _ fun _ => νn κ hi
  -- what was given, and what it owns
  have hXY : ∀ b, (frC fr st W ν F ρ hc).New b → W.heap.size ≤ b ∨ ∃ κ, (lk κ hc).isSome = true ∧ (topOf st.h ν (ρ κ) = some b ∨ b ∈ F (ρ κ)) := by
    rintro b (h | ⟨κ, h1, h2⟩ | ⟨κ, h1, h2⟩)
    · exact .inl h
    · exact .inr ⟨κ, h1, .inl h2⟩
    · exact .inr ⟨κ, h1, .inr h2⟩
  have free : ∀ b, (frC fr st W ν F ρ hc).New b → Rel.free st W ν F M b := fun b h => (hXY b h).imp id fun ⟨κ, h1, h2⟩ => ⟨ρ κ, hM2 κ (hsub κ h1), h2⟩
  have oth : ∀ κ b, ¬ im κ → topOf st.h ν κ = some b → ¬ (frC fr st W ν F ρ hc).New b := by
    intro κ b hi ht hn
    rcases hXY b hn with h | ⟨κ0, h0, hx⟩
    · have := (hr.top_lt ht).2; omega
    · have hne : ρ κ0 ≠ κ := fun e => hi ⟨κ0, hsub κ0 h0, e⟩
      rcases hx with hx | hx
      · exact hr.d1 _ _ b hne hx ht
      · exact hr.d2 _ _ b hx ht
  have hok2 : ∀ b, okOf (frC fr st W ν F ρ hc) W' (fun κ => lk κ hc') ν1 b → okOf fr W' (mrg st.h M) ν' b := by
    rintro b ⟨h1, h2, h3⟩
    refine ⟨?_, h2, fun κ ht => ?_⟩
    · rcases h1 with h1 | h1
      · exact h1.1
      · exact .inr (hr.new_of (free b h1))
    · by_cases hi : im κ
      · obtain ⟨κ0, h0, rfl⟩ := hi
        exact h3 κ0 (topi κ0 b h0 ht)
      · rw [topn κ hi] at ht
        rcases h1 with h1 | h1
        · exact h1.2.2 κ ht
        · exact oth κ b hi ht h1
  have hνh : ∀ κ0, (lk κ0 hc').isSome = true → ν' (ρ κ0) = ν1 κ0 ∧ (mrg st.h M (ρ κ0)).isSome = true := fun κ0 h0 => by
    refine ⟨νi κ0 h0, ?_⟩
    obtain ⟨blk, hb⟩ := Option.isSome_iff_exists.1 h0
    rw [mrg_some (hM1 κ0 blk hb)]; rfl
  let X : List Nat := (hc.map (·.1)).filterMap fun κ => topOf st.h ν (ρ κ)
  have hXm : ∀ b, b ∈ X ↔ givX st.h ν ρ hc b := fun b => by
    simp only [X, List.mem_filterMap, givX, lk_isSome]
  refine ⟨ν', F', hr.step (M := M) (X := X) ⟨hB.os, hB.tape, hB.output, hB.size, hB.drawn, fun b hb hn => hB.block b hb fun hg => hn ((hXm b).2 hg)⟩ (fun b hb => ?_) ?_ ?_ ?_ ?_ ?_ ?_ ?_ ?_ ?_ ?_ hd⟩
  · obtain ⟨κ, h1, h2⟩ := (hXm b).1 hb
    exact ⟨ρ κ, hM2 κ (hsub κ h1), h2⟩
  · intro κ hs
    by_cases hi : im κ
    · obtain ⟨κ0, h0, rfl⟩ := hi
      rw [νi κ0 h0]
      cases hl : lk κ0 hc with
      | none => rw [hnew κ0 h0 hl] at hs; cases hs
      | some _ => exact hν1 κ0 (by rw [hl]; rfl)
    · exact νn κ hi
  · intro κ hn
    refine Fn κ fun ⟨κ0, h0, he⟩ => ?_
    have := hM2 κ0 h0
    rw [he, hn] at this; cases this
  · intro κ b hs ht
    obtain ⟨κ0, h0, rfl⟩ := hM κ hs
    rcases hH.n1 κ0 b (topi κ0 b h0 ht) with h | ⟨κ1, h1, h2⟩
    · exact .inl h
    · exact .inr ⟨ρ κ1, hM2 κ1 (hsub κ1 h1), h2⟩
  · intro κ b hs hb
    obtain ⟨κ0, h0, rfl⟩ := hM κ hs
    rw [Fi κ0 h0] at hb
    exact free b (hH.n2 κ0 b hb)
  · intro κ κ' b hne hs hs' ht ht'
    obtain ⟨κ0, h0, rfl⟩ := hM κ hs
    obtain ⟨κ1, h1, rfl⟩ := hM κ' hs'
    exact hH.d1 κ0 κ1 b (fun e => hne (by rw [e])) (topi κ0 b h0 ht) (topi κ1 b h1 ht')
  · intro κ κ' b hs hs' hb ht
    obtain ⟨κ0, h0, rfl⟩ := hM κ hs
    obtain ⟨κ1, h1, rfl⟩ := hM κ' hs'
    rw [Fi κ0 h0] at hb
    exact hH.d2 κ0 κ1 b hb (topi κ1 b h1 ht)
  · intro κ hs
    obtain ⟨κ0, h0, rfl⟩ := hM κ hs
    rw [Fi κ0 h0]; exact hH.d3 κ0
  · intro κ κ' b hne hs hs' hb hb'
    obtain ⟨κ0, h0, rfl⟩ := hM κ hs
    obtain ⟨κ1, h1, rfl⟩ := hM κ' hs'
    rw [Fi κ0 h0] at hb
    rw [Fi κ1 h1] at hb'
    exact hH.d4 κ0 κ1 b (fun e => hne (by rw [e])) hb hb'
  · intro κ blk hb
    obtain ⟨κ0, h0, rfl⟩ := hM κ (by rw [hb]; rfl)
    obtain ⟨blk0, hb0⟩ := Option.isSome_iff_exists.1 h0
    rw [hM1 κ0 blk0 hb0] at hb
    obtain rfl := Option.some.inj hb
    rw [Fi κ0 h0]
    exact Blk.rz_back (h' := fun κ => lk κ hc') (fun κ h => hνh κ h) hok2 (νi κ0 h0) (allX_get hx hb0) (hH.heap κ0 blk0 hb0)
  · exact T.rz_back (h' := fun κ => lk κ hc') (fun κ h => hνh κ h) hok2 rt v hxr hT
end
end Go.Vm

namespace Go.Vm
open Go Go.RowKit

def froC : Option Blk → C → Prop
  | some (.fro sz es), x => x = .sl none sz es
  | _, _ => False
def nilC : C → Prop
  | .sl none _ es => es = []
  | _ => False
/-- What a slot gives where data is asked for. -/
def argC1 (h : Nat → Option Blk) (x : C) : T → Prop
  | .c y => y = x
  | .ca y => y = x
  | .nilS => nilC x
  | .nn sz es => x = .sl none sz es
  | .ref κ => froC (h κ) x
  | _ => False
def dataA : List Arg → Prop
  | [] => True
  | .d _ :: gs => dataA gs
  | _ :: _ => False
def dataP : List Arg → Prop
  | [] => True
  | .d _ :: gs => dataP gs
  | .pv _ :: gs => dataP gs
  | _ :: _ => False
/-- None of the given keys is one of these. -/
def offK (ρ : Nat → Nat) : List (Nat × Blk) → List Nat → Prop
  | [], _ => True
  | (k, _) :: r, ks => ρ k ∉ ks ∧ offK ρ r ks
def fnG (P : Program) (ρ : Nat → Nat) (hc : List (Nat × Blk)) (sem : List Dat → List Dat → Prop) (f : Nat) : Option (List Arg × List Nat) → Prop
  | some (gs, ks) => offK ρ hc ks ∧ dataP gs ∧ ∀ ds rs, sem ds rs → Sat P f (ds.map .d ++ gs) true rs
  | none => False
mutual
/-- What a slot gives where the contract asks for t. -/
def argG (P : Program) (ρ : Nat → Nat) (hc : List (Nat × Blk)) (h : Nat → Option Blk) : T → T → Prop
  | .c x, u => argC1 h x u
  | .nilS, u => u = .nilS
  | .ref κ, u => u = .ref (ρ κ) ∧ (lk κ hc).isSome = true
  | .ptr κ off, u => u = .ptr (ρ κ) off ∧ (lk κ hc).isSome = true
  | .agg xs, .agg us => argsG P ρ hc h xs us
  | .un, _ => True
  | .fn sem, .fn sem' => sem' = sem
  | .fn sem, .clo f caps => fnG P ρ hc sem f (argsC h caps)
  | .pv xs, u => u = .pv xs
  | _, _ => False
def argsG (P : Program) (ρ : Nat → Nat) (hc : List (Nat × Blk)) (h : Nat → Option Blk) : List T → List T → Prop
  | [], [] => True
  | t :: ts, u :: us => argG P ρ hc h t u ∧ argsG P ρ hc h ts us
  | _, _ => False
end
mutual
def T.refs : T → List Nat
  | .c _ => []
  | .nilS => []
  | .ref κ => [κ]
  | .ptr _ _ => []
  | .ep _ _ _ _ => []
  | .pv _ => []
  | .agg xs => Ts.refs xs
  | .tup _ => []
  | .clo _ xs => capsK xs
  | .fn _ => []
  | .un => []
  | .nn _ _ => []
  | .ca _ => []
def Ts.refs : List T → List Nat
  | [] => []
  | t :: ts => t.refs ++ Ts.refs ts
/-- What captured slots look at. -/
def capsK : List T → List Nat
  | [] => []
  | .ref κ :: ts => κ :: capsK ts
  | .ptr κ _ :: ts => κ :: capsK ts
  | .agg xs :: ts => Ts.refs xs ++ capsK ts
  | _ :: ts => capsK ts
end
section
variable {fr : Fr} {st st' : St} {a : Act} {W W' : World} {ν : Nat → Value} {F : Nat → List Nat} {ρ : Nat → Nat} {hc hc' : List (Nat × Blk)}
theorem FnRz_below' {P : Program} {W0 : World} {X Y : Nat → Prop} {sem : List Dat → List Dat → Prop} {v : Value} (hB : BelowX X W0 W) (hY : ∀ b, Y b → W0.heap.size ≤ b ∨ X b) (hr : FnRz P W0 X sem v) : FnRz P W Y sem v := FnRz.below hB hY hr
theorem Args.rz_data {P : Program} {ok ok' : Nat → Prop} (mv : ∀ b, ok b → ok' b ∧ W'.heap[b]? = W.heap[b]?) : ∀ {gs : List Arg} {vs : List Value}, dataA gs → Args.rz P W ok gs vs → Args.rz P W' ok' gs vs
  | [], vs, _, h => h
  | .d x :: gs, vs, hd, h => by
    obtain ⟨v, vs', rfl, h1, h2⟩ := h
    exact ⟨v, vs', rfl, Dat.rz_move mv (Nat.le_refl _) (by simp) h1, Args.rz_data mv hd h2⟩
  | .pv _ :: _, vs, hd, _ => hd.elim
  | .fn _ :: _, vs, hd, _ => hd.elim
theorem Args.rz_dataP {P : Program} {ok ok' : Nat → Prop} (mv : ∀ b, ok b → ok' b ∧ W'.heap[b]? = W.heap[b]?) : ∀ {gs : List Arg} {vs : List Value}, dataP gs → Args.rz P W ok gs vs → Args.rz P W' ok' gs vs
  | [], vs, _, h => h
  | .d x :: gs, vs, hd, h => by
    obtain ⟨v, vs', rfl, h1, h2⟩ := h
    exact ⟨v, vs', rfl, Dat.rz_move mv (Nat.le_refl _) (by simp) h1, Args.rz_dataP mv hd h2⟩
  | .pv xs :: gs, vs, hd, h => by
    obtain ⟨v, vs', rfl, ⟨b, o, us, g1, g2, g3, g4⟩, h2⟩ := h
    exact ⟨v, vs', rfl, ⟨b, o, us, g1, (mv b g2).1, Cs.rz_move mv (Nat.le_refl _) xs us [] (by simp) g3, fun i u hu => by rw [cell_of_block (mv b g2).2]; exact g4 i u hu⟩, Args.rz_dataP mv hd h2⟩
  | .fn _ :: _, vs, hd, _ => hd.elim
theorem offK_get : ∀ {l : List (Nat × Blk)} {ks : List Nat}, offK ρ l ks → ∀ p ∈ l, ρ p.1 ∉ ks
  | [], _, _, p, hp => by cases hp
  | (k, b) :: r, ks, h, p, hp => by
    rcases List.mem_cons.1 hp with rfl | hp
    · exact h.1
    · exact offK_get h.2 p hp
/-- A function value, made of a function that looks at what it captured. -/
theorem fnG_rz (hr : Rel fr st a W ν F) {sem : List Dat → List Dat → Prop} {f : Nat} {caps : List T} {v : Value} {X : Nat → Prop} (hX : ∀ b, X b → ∃ p ∈ hc, topOf st.h ν (ρ p.1) = some b) (h : fnG fr.P ρ hc sem f (argsC st.h caps))
    (hv : T.rz fr W (okOf fr W st.h ν) ν st.h (.clo f caps) v) : FnRz fr.P W X sem v := by
  unfold fnG at h
  split at h
  · rename_i gs ks ha
    obtain ⟨hoff, hd, hs⟩ := h
    simp only [T.rz] at hv
    obtain ⟨us, rfl, hts⟩ := hv
    have hargs := (argsC_ok (fr := fr) ha).rz (st' := st) (fun _ _ => rfl) hr hts
    refine ⟨f, us.toArray, rfl, fun W' hB ok ds vs rs hsem hds hlt => ⟨(hs ds rs hsem).1, ?_⟩⟩
    have lt : ∀ b, okc fr W st.h ν F ks b → b < W.heap.size := fun b hb => hr.okc_lt hb
    have nx : ∀ b, okc fr W st.h ν F ks b → ¬ X b := fun b hb hx => by
      obtain ⟨p, hp, hk⟩ := hX b hx
      rcases hb with hb | ⟨k, hk1, hk2⟩
      · exact hb.2.2 _ hk
      · have hne : k ≠ ρ p.1 := fun e => offK_get hoff p hp (e ▸ hk1)
        unfold ownK at hk2
        rcases List.mem_append.1 hk2 with h2 | h2
        · exact hr.d1 k (ρ p.1) b hne (by simpa using h2) hk
        · exact hr.d2 k (ρ p.1) b h2 hk
    have hcaps := Args.rz_dataP (W' := W') (ok' := fun b => ok b ∨ okc fr W st.h ν F ks b) (fun b hb => ⟨.inr hb, hB.block b (lt b hb) (nx b hb)⟩) hd hargs
    have hds2 := Args.rz_map (P := fr.P) (W' := W') (ok' := fun b => ok b ∨ okc fr W st.h ν F ks b) (f := fun _ _ => True) (fun g v hg => Arg.rz_mono (fun b hb => Or.inl hb) hg) (Args.of_Dats rfl hds)
    have := (hs ds rs hsem).2 W' (fun b => ok b ∨ okc fr W st.h ν F ks b) (vs ++ us) (fun b hb => by
      rcases hb with hb | hb
      · exact hlt b hb
      · exact Nat.lt_of_lt_of_le (lt b hb) hB.size) (Args.rz_append hds2 hcaps)
    rw [show (vs ++ us).toArray = vs.toArray ++ us.toArray by simp] at this
    refine this.mono fun e W'' ⟨h1, v, h2, vs2, fp, h3, h4, h5⟩ => ⟨h1, v, h2, vs2, fp, h3, ?_, h5⟩
    exact Dats.rz_move (W' := W'') (fun b hb => by simp [okRes] at hb) (Nat.le_refl _) _ _ _ (fun _ _ => rfl) h4
  · exact h.elim
theorem argC1_rz (hr : Rel fr st a W ν F) (hk : ∀ κ blk, lk κ hc = some blk → st.h (ρ κ) = some (blk.ren ρ)) {x : C} {u : T} {v : Value} (h : argC1 st.h x u) (hv : T.rz fr W (okOf fr W st.h ν) ν st.h u v) :
    C.rz W (okOf (frC fr st W ν F ρ hc) W (fun κ => lk κ hc) (fun κ => ν (ρ κ))) 0 x v [] := by
  have mv : ∀ y : C, C.rz W (okOf fr W st.h ν) 0 y v [] → C.rz W (okOf (frC fr st W ν F ρ hc) W (fun κ => lk κ hc) (fun κ => ν (ρ κ))) 0 y v [] := fun y hy =>
    C.rz_move (fun b hb => ⟨hr.okC hk hb, rfl⟩) (Nat.le_refl _) y v [] (by simp) hy
  unfold argC1 at h
  split at h
  · subst h; simp only [T.rz] at hv; exact mv _ hv
  · subst h; simp only [T.rz] at hv; exact mv _ (hr.ca hv)
  · simp only [T.rz] at hv; subst hv
    unfold nilC at h
    split at h
    · subst h
      simp only [C.rz]
      exact ⟨trivial, none, 0, [], rfl, by simp, by simp, by simp, by simp, by simp [Es.rz]⟩
    · exact h.elim
  · subst h; simp only [T.rz] at hv; exact mv _ hv.1
  · rename_i κ
    unfold froC at h
    split at h
    · rename_i sz es x' he
      subst h
      simp only [T.rz] at hv
      have := hr.heap κ _ he
      simp only [Blk.rz] at this
      rw [hv.1] at mv ⊢
      exact mv _ this.2
    · exact h.elim
  · exact h.elim
mutual
theorem argG_rz (hr : Rel fr st a W ν F) (hk : ∀ κ blk, lk κ hc = some blk → st.h (ρ κ) = some (blk.ren ρ)) : ∀ (t u : T) (v : Value), argG fr.P ρ hc st.h t u → T.rz fr W (okOf fr W st.h ν) ν st.h u v →
    T.rz (frC fr st W ν F ρ hc) W (okOf (frC fr st W ν F ρ hc) W (fun κ => lk κ hc) (fun κ => ν (ρ κ))) (fun κ => ν (ρ κ)) (fun κ => lk κ hc) t v
  | .c x, u, v, h, hv => by simp only [argG] at h; simp only [T.rz]; exact argC1_rz hr hk h hv
  | .nilS, u, v, h, hv => by simp only [argG] at h; subst h; simpa only [T.rz] using hv
  | .ref κ, u, v, h, hv => by simp only [argG] at h; obtain ⟨rfl, h1⟩ := h; simp only [T.rz] at hv ⊢; exact ⟨hv.1, h1⟩
  | .ptr κ off, u, v, h, hv => by simp only [argG] at h; obtain ⟨rfl, h1⟩ := h; simp only [T.rz] at hv ⊢; exact ⟨h1, hv.2⟩
  | .agg xs, u, v, h, hv => by
    cases u with
    | agg us =>
      simp only [argG] at h
      simp only [T.rz] at hv ⊢
      obtain ⟨vs, h1, h2, h3⟩ := hv
      exact ⟨vs, h1, h2, argsG_rz hr hk xs us vs h h3⟩
    | _ => simp only [argG] at h
  | .un, u, v, h, hv => by simp only [T.rz]
  | .fn sem, u, v, h, hv => by
    have hX : ∀ b, givX st.h ν ρ hc b → ∃ p ∈ hc, topOf st.h ν (ρ p.1) = some b := fun b ⟨κ, h1, h⟩ => by
      obtain ⟨blk, hb⟩ := Option.isSome_iff_exists.1 h1
      exact ⟨(κ, blk), lk_mem hb, h⟩
    cases u with
    | fn sem' =>
      simp only [argG] at h; subst h
      simp only [T.rz] at hv ⊢
      exact FnRz.below hr.below (fun b hb => let ⟨p, _, h⟩ := hX b hb; hr.n1 _ b h) hv
    | clo f caps =>
      simp only [argG] at h
      simp only [T.rz]
      exact fnG_rz hr hX h hv
    | _ => simp only [argG] at h
  | .ep κ sz i off, u, v, h, hv => by simp only [argG] at h
  | .pv xs, u, v, h, hv => by
    simp only [argG] at h; subst h
    simp only [T.rz] at hv ⊢
    obtain ⟨b, o, us, h1, h2, h3, h4⟩ := hv
    exact ⟨b, o, us, h1, hr.okC hk h2, Cs.rz_move (fun b hb => ⟨hr.okC hk hb, rfl⟩) (Nat.le_refl _) xs us [] (by simp) h3, h4⟩
  | .tup _, u, v, h, hv => by simp only [argG] at h
  | .clo _ _, u, v, h, hv => by simp only [argG] at h
  | .nn _ _, u, v, h, hv => by simp only [argG] at h
  | .ca _, u, v, h, hv => by simp only [argG] at h
theorem argsG_rz (hr : Rel fr st a W ν F) (hk : ∀ κ blk, lk κ hc = some blk → st.h (ρ κ) = some (blk.ren ρ)) : ∀ (ts us : List T) (vs : List Value), argsG fr.P ρ hc st.h ts us → Ts.rz fr W (okOf fr W st.h ν) ν st.h us vs →
    Ts.rz (frC fr st W ν F ρ hc) W (okOf (frC fr st W ν F ρ hc) W (fun κ => lk κ hc) (fun κ => ν (ρ κ))) (fun κ => ν (ρ κ)) (fun κ => lk κ hc) ts vs
  | [], us, vs, h, hv => by
    cases us with
    | nil => simpa only [Ts.rz] using hv
    | cons => simp only [argsG] at h
  | t :: ts, us, vs, h, hv => by
    cases us with
    | nil => simp only [argsG] at h
    | cons u us =>
      simp only [argsG] at h
      simp only [Ts.rz] at hv ⊢
      obtain ⟨v, vs', rfl, h1, h2⟩ := hv
      exact ⟨v, vs', rfl, argG_rz hr hk t u v h.1 h1, argsG_rz hr hk ts us vs' h.2 h2⟩
end
theorem absC_same {h h' : Nat → Option Blk} {ct : Nat × Nat} {t : T} (hk : ∀ κ ∈ keysT t, h' κ = h κ) : absC h' false ct t = absC h false ct t :=
  absC_agree (st := ⟨fun _ => .un, h, fun _ => .un⟩) (st' := ⟨fun _ => .un, h', fun _ => .un⟩) hk
theorem absL_same {h h' : Nat → Option Blk} {cts : List (Nat × Nat)} {ts : List T} (hk : ∀ κ ∈ ts.flatMap keysT, h' κ = h κ) : absL h' false cts ts = absL h false cts ts :=
  absL_agree (st := ⟨fun _ => .un, h, fun _ => .un⟩) (st' := ⟨fun _ => .un, h', fun _ => .un⟩) hk
theorem keysT_refs {t : T} : ∀ κ ∈ keysT t, κ ∈ t.refs := by
  intro κ hκ; cases t <;> simp [keysT] at hκ; subst hκ; simp [T.refs]
theorem keysTs_refs : ∀ {ts : List T}, ∀ κ ∈ ts.flatMap keysT, κ ∈ Ts.refs ts
  | [], κ, h => by simp at h
  | t :: ts, κ, h => by
    rw [List.flatMap_cons] at h
    simp only [Ts.refs]
    rcases List.mem_append.1 h with h | h
    · exact List.mem_append_left _ (keysT_refs κ h)
    · exact List.mem_append_right _ (keysTs_refs κ h)
/-- Captured data alone: no variable. -/
def capsD : List T → Prop
  | [] => True
  | .ptr _ _ :: _ => False
  | _ :: ts => capsD ts
theorem argC_same {h h' : Nat → Option Blk} {t : T} (hp : ∀ κ off, t = .ptr κ off → h' κ = h κ ∧ ∀ xs, h κ = some (.box xs) → ∀ k ∈ Ts.refs xs, h' k = h k) (hk : ∀ κ ∈ t.refs, h' κ = h κ) : argC h' t = argC h t := by
  cases t with
  | agg xs =>
    have := absL_same (cts := []) (h := h) (h' := h') (ts := xs) (fun κ hκ => hk κ (by simp only [T.refs]; exact keysTs_refs κ hκ))
    simp only [argC, this]
  | ptr κ off =>
    obtain ⟨h1, h2⟩ := hp κ off rfl
    simp only [argC, h1]
    cases hb : h κ with
    | none => rfl
    | some b =>
      cases b with
      | box xs =>
        have : ∀ k ∈ ((xs.drop off).take (xs.drop off).length).flatMap keysT, h' k = h k := fun k hk2 => by
          refine h2 xs hb k (keysTs_refs k ?_)
          obtain ⟨t, ht, hkt⟩ := List.mem_flatMap.1 hk2
          exact List.mem_flatMap.2 ⟨t, List.mem_of_mem_drop (List.mem_of_mem_take ht), hkt⟩
        simp only [absL_same this]
      | _ => rfl
  | ref κ => have := absC_same (ct := (0, 0)) (h := h) (h' := h') (t := .ref κ) (fun κ hκ => hk κ (keysT_refs κ hκ)); simp only [argC, this]
  | c x => have := absC_same (ct := (0, 0)) (h := h) (h' := h') (t := .c x) (fun κ hκ => hk κ (keysT_refs κ hκ)); simp only [argC, this]
  | nilS => rfl
  | ca x => have := absC_same (ct := (0, 0)) (h := h) (h' := h') (t := .ca x) (fun κ hκ => hk κ (keysT_refs κ hκ)); simp only [argC, this]
  | _ => rfl
/-- The keys that captured slots look at, in a heap. -/
def capsH (h : Nat → Option Blk) : List T → List Nat
  | [] => []
  | .ptr κ _ :: ts => (κ :: (match h κ with | some (.box xs) => Ts.refs xs | _ => [])) ++ capsH h ts
  | t :: ts => t.refs ++ capsH h ts
theorem argsC_same {h h' : Nat → Option Blk} : ∀ {ts : List T}, (∀ κ ∈ capsH h ts, h' κ = h κ) → argsC h' ts = argsC h ts
  | [], _ => rfl
  | t :: ts, hk => by
    have h2 : argsC h' ts = argsC h ts := argsC_same fun κ hκ => hk κ (by cases t <;> simp [capsH, hκ])
    have h1 : argC h' t = argC h t := by
      refine argC_same (fun κ off e => ?_) (fun κ hκ => hk κ ?_)
      · subst e
        refine ⟨hk κ (by simp [capsH]), fun xs hx k hkk => hk k (by simp [capsH, hx, hkk])⟩
      · cases t with
        | ptr => simp [T.refs] at hκ
        | _ => simp only [capsH]; exact List.mem_append_left _ hκ
    simp only [argsC, h1, h2]
mutual
/-- The keys that an argument looks at, in a heap. -/
def T.rf (h : Nat → Option Blk) : T → List Nat
  | .c _ => []
  | .nilS => []
  | .ref κ => [κ]
  | .ptr _ _ => []
  | .ep _ _ _ _ => []
  | .pv _ => []
  | .agg xs => Ts.rf h xs
  | .tup _ => []
  | .clo _ caps => capsH h caps
  | .fn _ => []
  | .un => []
  | .nn _ _ => []
  | .ca _ => []
def Ts.rf (h : Nat → Option Blk) : List T → List Nat
  | [] => []
  | t :: ts => t.rf h ++ Ts.rf h ts
end
mutual
theorem argG_same {P : Program} {h h' : Nat → Option Blk} : ∀ (t u : T), (∀ κ ∈ u.rf h, h' κ = h κ) → argG P ρ hc h t u → argG P ρ hc h' t u
  | .c x, u, hk, ha => by
    simp only [argG] at ha ⊢
    cases u with
    | ref κ => simp only [argC1] at ha ⊢; rw [hk κ (by simp [T.rf])]; exact ha
    | _ => exact ha
  | .nilS, u, hk, ha => by simpa only [argG] using ha
  | .ref κ, u, hk, ha => by simpa only [argG] using ha
  | .ptr κ off, u, hk, ha => by simpa only [argG] using ha
  | .agg xs, u, hk, ha => by
    cases u with
    | agg us => simp only [argG] at ha ⊢; exact argsG_same xs us (fun κ hκ => hk κ (by simpa only [T.rf] using hκ)) ha
    | _ => simp only [argG] at ha
  | .un, u, hk, ha => by simp only [argG]
  | .fn sem, u, hk, ha => by
    cases u with
    | fn sem' => simpa only [argG] using ha
    | clo f caps => simp only [argG] at ha ⊢; rw [argsC_same (fun κ hκ => hk κ (by simpa only [T.rf] using hκ))]; exact ha
    | _ => simp only [argG] at ha
  | .ep κ sz i off, u, h, ha => by simp only [argG] at ha
  | .pv _, u, hk, ha => by simpa only [argG] using ha
  | .tup _, u, h, ha => by simp only [argG] at ha
  | .clo _ _, u, h, ha => by simp only [argG] at ha
  | .nn _ _, u, h, ha => by simp only [argG] at ha
  | .ca _, u, h, ha => by simp only [argG] at ha
theorem argsG_same {P : Program} {h h' : Nat → Option Blk} : ∀ (ts us : List T), (∀ κ ∈ Ts.rf h us, h' κ = h κ) → argsG P ρ hc h ts us → argsG P ρ hc h' ts us
  | [], us, hk, ha => by
    cases us with
    | nil => simp only [argsG]
    | cons => simp only [argsG] at ha
  | t :: ts, us, hk, ha => by
    cases us with
    | nil => simp only [argsG] at ha
    | cons u us =>
      simp only [argsG] at ha ⊢
      exact ⟨argG_same t u (fun κ hκ => hk κ (by simp [Ts.rf, hκ])) ha.1, argsG_same ts us (fun κ hκ => hk κ (by simp [Ts.rf, hκ])) ha.2⟩
end

/-! ### rows that are lent for good -/
def frzB : Option Blk → Blk
  | some (.arr d ty sz es) => .fro sz (flat d es)
  | some b => b
  | none => .dead
def frzL (h : Nat → Option Blk) (ks : List Nat) : List (Nat × Blk) := ks.map fun k => (k, frzB (h k))
def isArr : Option Blk → Prop
  | some (.arr _ _ _ _) => True
  | _ => False
def arrs (h : Nat → Option Blk) : List Nat → Prop
  | [] => True
  | k :: ks => isArr (h k) ∧ arrs h ks
theorem arrs_get {h : Nat → Option Blk} : ∀ {ks : List Nat}, arrs h ks → ∀ k ∈ ks, ∃ d ty sz es, h k = some (.arr d ty sz es)
  | [], _, k, hk => by cases hk
  | x :: ks, ha, k, hk => by
    rcases List.mem_cons.1 hk with rfl | hk
    · have := ha.1; unfold isArr at this; split at this
      · rename_i d ty sz es e; exact ⟨d, ty, sz, es, e⟩
      · exact this.elim
    · exact arrs_get ha.2 k hk
theorem lk_frzL {h : Nat → Option Blk} {k : Nat} : ∀ {ks : List Nat}, lk k (frzL h ks) = if k ∈ ks then some (frzB (h k)) else none
  | [] => rfl
  | x :: ks => by
    have := lk_frzL (h := h) (k := k) (ks := ks)
    simp only [frzL, List.map_cons, lk, List.mem_cons] at this ⊢
    by_cases he : k = x
    · subst he; simp
    · simp only [he, if_false, false_or]; exact this
theorem mrg_frzL {h : Nat → Option Blk} {k : Nat} {ks : List Nat} : mrg h (frzL h ks) k = if k ∈ ks then some (frzB (h k)) else h k := by
  unfold mrg
  rw [lk_frzL]
  split <;> simp_all
theorem Rel.frz (ks : List Nat) : ∀ {st : St} {a : Act} {W : World}, RelE fr st a W → arrs st.h ks → ks.Nodup → RelE fr ⟨st.s, mrg st.h (frzL st.h ks), st.g⟩ a W := by
  induction ks with
  | nil => intro st a W hr _ _; exact hr
  | cons k ks ih =>
    intro st a W ⟨ν, F, hr⟩ ha hn
    obtain ⟨d, ty, sz, es, he⟩ := arrs_get ha k (by simp)
    have h1 := hr.freeze he (dst := none) (t := .un) (v := undef) (supp := []) (fun _ _ _ => trivial) (by simp)
    have h1' : RelE fr ⟨st.s, mrg st.h [(k, .fro sz (flat d es))], st.g⟩ a W := h1
    have hk2 : ∀ x ∈ ks, mrg st.h [(k, .fro sz (flat d es))] x = st.h x := fun x hx => by
      have : x ≠ k := by rintro rfl; exact (List.nodup_cons.1 hn).1 hx
      simp [mrg, lk, this]
    have ha2 : arrs (mrg st.h [(k, .fro sz (flat d es))]) ks := by
      have := ha.2
      clear ih h1 h1' ha hn
      induction ks with
      | nil => trivial
      | cons x ks ih2 => exact ⟨by rw [hk2 x (by simp)]; exact this.1, ih2 (fun y hy => hk2 y (by simp [hy])) this.2⟩
    have h2 := ih h1' ha2 (List.nodup_cons.1 hn).2
    have e : mrg (mrg st.h [(k, .fro sz (flat d es))]) (frzL (mrg st.h [(k, .fro sz (flat d es))]) ks) = mrg st.h (frzL st.h (k :: ks)) := by
      funext x
      rw [mrg_frzL, mrg_frzL]
      by_cases hx : x ∈ ks
      · rw [if_pos hx, if_pos (by simp [hx]), hk2 x hx]
      · rw [if_neg hx]
        by_cases hxk : x = k
        · subst hxk; rw [if_pos (by simp)]; simp [mrg, lk, he, frzB]
        · rw [if_neg (by simp [hx, hxk])]; simp [mrg, lk, hxk]
    have h2' : RelE fr ⟨st.s, mrg (mrg st.h [(k, .fro sz (flat d es))]) (frzL (mrg st.h [(k, .fro sz (flat d es))]) ks), st.g⟩ a W := h2
    rw [e] at h2'
    exact h2'

/-! ### the call -/
def givs (h : Nat → Option Blk) (ρ : Nat → Nat) : List (Nat × Blk) → Prop
  | [] => True
  | (k, b) :: r => h (ρ k) = some (b.ren ρ) ∧ givs h ρ r
theorem givs_get {h : Nat → Option Blk} : ∀ {l : List (Nat × Blk)}, givs h ρ l → ∀ κ b, lk κ l = some b → h (ρ κ) = some (b.ren ρ)
  | [], _, κ, b, hb => by simp [lk] at hb
  | (k, x) :: r, hg, κ, b, hb => by
    simp only [lk] at hb
    split at hb
    · rename_i he; subst he; cases hb; exact hg.1
    · exact givs_get hg.2 κ b hb
def newK (h : Nat → Option Blk) (κ : Nat) : Option Blk → Prop
  | some _ => True
  | none => h κ = none
def news (h : Nat → Option Blk) (ρ : Nat → Nat) (hc : List (Nat × Blk)) : List (Nat × Blk) → Prop
  | [] => True
  | (k, _) :: r => newK h (ρ k) (lk k hc) ∧ news h ρ hc r
theorem news_get {h : Nat → Option Blk} : ∀ {l : List (Nat × Blk)}, news h ρ hc l → ∀ κ, (lk κ l).isSome = true → lk κ hc = none → h (ρ κ) = none
  | [], _, κ, hb, _ => by simp [lk] at hb
  | (k, x) :: r, hg, κ, hb, hn => by
    simp only [lk] at hb
    split at hb
    · rename_i he; subst he; have := hg.1; rw [hn] at this; exact this
    · exact news_get hg.2 κ hb hn
def subK (hc' : List (Nat × Blk)) : List (Nat × Blk) → Prop
  | [] => True
  | (k, _) :: r => (lk k hc').isSome = true ∧ subK hc' r
theorem subK_get : ∀ {l : List (Nat × Blk)}, subK hc' l → ∀ κ, (lk κ l).isSome = true → (lk κ hc').isSome = true
  | [], _, κ, h => by simp [lk] at h
  | (k, x) :: r, hg, κ, h => by
    simp only [lk] at h
    split at h
    · rename_i he; subst he; exact hg.1
    · exact subK_get hg.2 κ h
theorem nodup_renL {hc : List (Nat × Blk)} (hn : (hc.map fun p => ρ p.1).Nodup) : ∀ κ κ', (lk κ hc).isSome = true → (lk κ' hc).isSome = true → ρ κ = ρ κ' → κ = κ' := by
  intro κ κ' h h' e
  rw [lk_isSome] at h h'
  have hn : (List.map ρ (hc.map (·.1))).Nodup := by simpa [List.map_map, Function.comp_def] using hn
  obtain ⟨i, hi, rfl⟩ := List.mem_iff_getElem.1 h
  obtain ⟨j, hj, rfl⟩ := List.mem_iff_getElem.1 h'
  have hp := List.pairwise_iff_getElem.1 hn
  have hij : i = j := by
    rcases Nat.lt_trichotomy i j with h | h | h
    · exact absurd (by simpa using e) (hp i j (by simpa using hi) (by simpa using hj) h)
    · exact h
    · exact absurd (by simpa using e.symm) (hp j i (by simpa using hj) (by simpa using hi) h)
  subst hij; rfl
theorem mrg_append {h : Nat → Option Blk} {a b : List (Nat × Blk)} : mrg (mrg h b) a = mrg h (a ++ b) := by
  funext k
  simp only [mrg, lk_append]
  cases lk k a <;> simp
theorem callE_satG {f : Nat} {caps args ts : List T} {rt : T} {hc hc' : List (Nat × Blk)} (ρ : Nat → Nat) (ks : List Nat) (hs : SatG fr.P f false ts hc rt hc')
    (hargs : argsG fr.P ρ hc (mrg st.h (frzL st.h ks)) ts (args ++ caps)) (ha : arrs st.h ks) (hn : ks.Nodup) (hg : givs st.h ρ hc) (hgk : ∀ p ∈ hc, ρ p.1 ∉ ks) (hw : news st.h ρ hc hc') (hwk : ∀ p ∈ hc', ρ p.1 ∉ ks)
    (hsub : subK hc' hc) (hnd : (hc'.map fun p => ρ p.1).Nodup) (hx : allX (fun κ => (lk κ hc).isSome = true) hc) (hx' : allX (fun _ => True) hc') (hxr : T.cross (fun _ => True) rt) :
    CallE fr st f caps args ⟨T.ren ρ rt, (hc.map fun p => ρ p.1) ++ ks ++ Ts.rf (mrg st.h (frzL st.h ks)) (args ++ caps), renL ρ hc' ++ frzL st.h ks⟩ := by
  intro o x as' ats ho hxo has hd Q st' a W K e1 e2 hr hK
  have eo : ∀ y, y ∈ o.op.operands.toList → Vm.opd st'.s y = Vm.opd st.s y := fun y hy => opd_agree e1 hy
  have ex := eo x (by simp [ho, Op.operands, Call.operands])
  have hm : as'.toList.map (opd st'.s) = args := by rw [← has]; exact List.map_congr_left fun y hy => eo y (by simp only [ho, Op.operands, Call.operands]; simp at hy; simp [hy])
  have ek : ∀ k ∈ ks, st'.h k = st.h k := fun k hk => e2 k (.inl (by simp [hk]))
  have eg : ∀ p ∈ hc, st'.h (ρ p.1) = st.h (ρ p.1) := fun p hp => e2 _ (.inl (by simp only [List.mem_append, List.mem_map]; exact .inl (.inl ⟨p, hp, rfl⟩)))
  have en : ∀ κ, (lk κ hc').isSome = true → st'.h (ρ κ) = st.h (ρ κ) := fun κ hk => by
    obtain ⟨blk, hb⟩ := Option.isSome_iff_exists.1 hk
    refine e2 _ (.inr ?_)
    show (lk (ρ κ) (renL ρ hc' ++ frzL st.h ks)).isSome = true
    rw [lk_append, lk_renL (fun κ' h' e => nodup_renL hnd κ κ' hk h' e) hb]; rfl
  have hfz : frzL st'.h ks = frzL st.h ks := List.map_congr_left fun k hk => by rw [ek k hk]
  have ha' : arrs st'.h ks := by
    clear hargs hn hgk hwk hfz e2 hK
    induction ks with
    | nil => trivial
    | cons k ks ih => exact ⟨by rw [ek k (by simp)]; exact ha.1, ih ha.2 fun k hk => ek k (by simp [hk])⟩
  obtain ⟨ν, F, hr2⟩ := Rel.frz ks hr ha' hn
  rw [hfz] at hr2
  -- the state with the lent rows frozen
  have hH : ∀ κ, (κ ∈ ks ∨ (∃ p ∈ hc, ρ p.1 = κ) ∨ κ ∈ Ts.rf (mrg st.h (frzL st.h ks)) (args ++ caps)) → mrg st'.h (frzL st.h ks) κ = mrg st.h (frzL st.h ks) κ := fun κ hκ => by
    simp only [mrg]
    split
    · rfl
    · refine e2 κ (.inl ?_)
      simp only [List.mem_append, List.mem_map]
      rcases hκ with h | ⟨p, h1, h2⟩ | h
      · exact .inl (.inr h)
      · exact .inl (.inl ⟨p, h1, h2⟩)
      · exact .inr (by simpa using h)
  have hk : ∀ κ blk, lk κ hc = some blk → mrg st'.h (frzL st.h ks) (ρ κ) = some (blk.ren ρ) := fun κ blk hb => by
    have hp := lk_mem hb
    have h1 : lk (ρ κ) (frzL st.h ks) = none := by rw [lk_frzL, if_neg (hgk _ hp)]
    rw [mrg_none h1, eg _ hp]
    exact givs_get hg κ blk hb
  have hnew : ∀ κ, (lk κ hc').isSome = true → lk κ hc = none → mrg st'.h (frzL st.h ks) (ρ κ) = none := fun κ h1 h2 => by
    obtain ⟨blk, hb⟩ := Option.isSome_iff_exists.1 h1
    have h3 : lk (ρ κ) (frzL st.h ks) = none := by rw [lk_frzL, if_neg (hwk _ (lk_mem hb))]
    rw [mrg_none h3, en κ h1]
    exact news_get hw κ h1 h2
  have inj := nodup_renL hnd
  have hsub' := subK_get hsub
  have inj' : ∀ κ κ', (lk κ hc).isSome = true → (lk κ' hc).isSome = true → ρ κ = ρ κ' → κ = κ' := fun κ κ' h h' => inj κ κ' (hsub' κ h) (hsub' κ' h')
  have hv := hr2.opd x
  rw [ex, hxo] at hv
  have hv0 := hv
  simp only [T.rz] at hv
  obtain ⟨us, hv, hcaps⟩ := hv
  have hvs : Ts.rz fr W (okOf fr W (mrg st'.h (frzL st.h ks)) ν) ν (mrg st'.h (frzL st.h ks)) args (as'.toList.map a.eval) := by
    rw [← hm]
    have : ∀ l : List Operand, Ts.rz fr W (okOf fr W (mrg st'.h (frzL st.h ks)) ν) ν (mrg st'.h (frzL st.h ks)) (l.map (Vm.opd st'.s)) (l.map a.eval) := by
      intro l; induction l with
      | nil => simp [Ts.rz]
      | cons y l ih => simp only [List.map_cons, Ts.rz]; exact ⟨_, _, rfl, hr2.opd y, ih⟩
    exact this _
  have h1 := argsG_rz (ρ := ρ) (hc := hc) hr2 hk ts (args ++ caps) _ (argsG_same ts (args ++ caps) (fun κ hκ => hH κ (.inr (.inr hκ))) hargs) (Ts.rz_append _ _ _ _ hvs hcaps)
  have h2 := Rel.given (ρ := ρ) (hc := hc) hr2 hk inj' hx
  refine wp_call (R := fun _ _ => True) ho hv hs.1 ?_
  have h4 := hs.2 W (okOf fr W (mrg st'.h (frzL st.h ks)) ν) (givX (mrg st'.h (frzL st.h ks)) ν ρ hc) (givY F ρ hc) (as'.toList.map a.eval ++ us) (fun κ => ν (ρ κ)) _ 0 (fun _ => undef)
    (fun b hb => ⟨hb.2.1, fun ⟨κ, _, h⟩ => hb.2.2 _ h⟩) (fun h => by cases h) h2 h1
  rw [show (as'.map a.eval ++ us.toArray) = (as'.toList.map a.eval ++ us).toArray by apply Array.ext'; simp]
  refine h4.mono fun e W' ⟨hB, v, ν', F', he, hT, hH', hν'⟩ => ⟨v, he, hK v W' ?_⟩
  have := Rel.afterG (dst := o.dst) (supp := []) (st := ⟨st'.s, mrg st'.h (frzL st.h ks), st'.g⟩) hr2 hk hnew hsub' inj hx' hxr hB hH' hT hν' hd
  show RelE fr ⟨upd st'.s o.dst (T.ren ρ rt), mrg st'.h (renL ρ hc' ++ frzL st.h ks), st'.g⟩ _ _
  rw [← mrg_append]
  exact this
end
end Go.Vm

namespace Go.Vm
open Go Go.RowKit

/-- The caller's name of a contract's key: as told, or a new one. -/
def rhoOf : List (Nat × Nat) → Nat → Nat → Nat
  | [], κ, k => κ + 1048576 * k
  | (a, b) :: r, κ, k => if k = a then b else rhoOf r κ k
def keysR (ρ : Nat → Nat) (hc : List (Nat × Blk)) : List Nat := hc.map fun p => ρ p.1
def vcallG (c : Cx) (i : Nat) (dst : Option Nat) (rest : List Oper) (acc : List (List Nat × List Nat)) (st : St) (caps args ts : List T) (hc : List (Nat × Blk)) (rt : T) (hc' : List (Nat × Blk)) (P : Program) (ρ : Nat → Nat) (ks : List Nat) : Prop :=
  (argsG P ρ hc (mrg st.h (frzL st.h ks)) ts (args ++ caps) ∧ arrs st.h ks ∧ ks.Nodup ∧ givs st.h ρ hc ∧ (∀ k ∈ keysR ρ hc', k ∉ ks) ∧ news st.h ρ hc hc' ∧ subK hc' hc ∧ (keysR ρ hc').Nodup ∧
    allX (fun κ => (lk κ hc).isSome = true) hc ∧ allX (fun _ => True) hc' ∧ T.cross (fun _ => True) rt) ∧
  vops c (i + 1) rest ((keysR ρ hc ++ ks ++ Ts.rf (mrg st.h (frzL st.h ks)) (args ++ caps), keysE ⟨.un, [], renL ρ hc' ++ frzL st.h ks⟩) :: acc) (app st dst ⟨T.ren ρ rt, [], renL ρ hc' ++ frzL st.h ks⟩)
section
variable {c : Cx} {i : Nat} {dst : Option Nat} {rest : List Oper} {acc : List (List Nat × List Nat)} {st : St} {f : Nat} {κ : Nat} {P : Program}
theorem vcallG_of {caps args ts : List T} {ats : List Nat} {hc hc' : List (Nat × Blk)} {rt : T} (rl : List (Nat × Nat)) (ks : List Nat) (hP : c.E.fr.P = P) (hs : SatG P f false ts hc rt hc') (h : vcallG c i dst rest acc st caps args ts hc rt hc' P (rhoOf rl κ) ks) :
    vcall c i dst rest acc st f caps args ats κ := by
  obtain ⟨⟨h1, h2, h3, h4, h5, h6, h7, h8, h9, h10, h11⟩, h12⟩ := h
  subst hP
  have hsub := h7
  refine ⟨_, callE_satG (rhoOf rl κ) ks hs h1 h2 h3 h4 (fun p hp hk => ?_) h6 (fun p hp => h5 _ (List.mem_map_of_mem hp)) h7 h8 h9 h10 h11, h12⟩
  -- a given key is one of those behind the call
  have : ∀ (l : List (Nat × Blk)), subK hc' l → ∀ p ∈ l, p.1 ∈ hc'.map (·.1) := by
    intro l
    induction l with
    | nil => intro _ p hp; cases hp
    | cons q l ih =>
      intro hq p hp
      rcases List.mem_cons.1 hp with rfl | hp
      · exact lk_isSome.1 hq.1
      · exact ih hq.2 p hp
  obtain ⟨q, hq, he⟩ := List.mem_map.1 (this hc h7 p hp)
  exact h5 (rhoOf rl κ p.1) (by rw [← he]; exact List.mem_map_of_mem hq) hk
end

/-- Data of the call's beginning, in a slot. -/
def caT : C → T
  | .sl none sz es => .ca (.sl none sz es)
  | x => .c x
def entTA : Arg → T
  | .d (true, cs) => .agg (cs.map caT)
  | .d (false, [c]) => caT c
  | .d (false, _) => .un
  | .pv xs => .pv xs
  | .fn sem => .fn sem
def entLA : Nat → List Arg → List (Nat × T)
  | _, [] => []
  | i, g :: gs => (i, entTA g) :: entLA (i + 1) gs
/-- How a call begins whose arguments live on. -/
def entA (gs : List Arg) : St := cst (entLA 0 gs) [] []
section
variable {P : Program} {W : World} {ok : Nat → Prop} {N : Nat}
theorem caT_rz {fr : Fr} {ν : Nat → Value} {h : Nat → Option Blk} {ok' : Nat → Prop} (hW : fr.W0 = W) (hok0 : fr.ok0 = ok) (hok : ∀ b, ok b → ok' b) {c : C} {v : Value} (hr : C.rz W ok 0 c v []) : T.rz fr W ok' ν h (caT c) v := by
  unfold caT
  split
  · simp only [T.rz]; rw [hW, hok0]; exact hr
  · simp only [T.rz]; exact C.rz_move (fun b hb => ⟨hok b hb, rfl⟩) (Nat.le_refl _) _ v [] (by simp) hr
theorem caTs_rz {fr : Fr} {ν : Nat → Value} {h : Nat → Option Blk} {ok' : Nat → Prop} (hW : fr.W0 = W) (hok0 : fr.ok0 = ok) (hok : ∀ b, ok b → ok' b) : ∀ {cs : List C} {us : List Value}, Cs.rz W ok 0 cs us [] → Ts.rz fr W ok' ν h (cs.map caT) us
  | [], us, hr => by simp only [Cs.rz] at hr; simp [Ts.rz, hr.1]
  | c :: cs, us, hr => by
    simp only [Cs.rz] at hr
    obtain ⟨u, us', f1, f2, rfl, hf, h1, h2⟩ := hr
    obtain ⟨rfl, rfl⟩ : f1 = [] ∧ f2 = [] := by simpa using hf.symm
    simp only [List.map_cons, Ts.rz]
    exact ⟨u, us', rfl, caT_rz hW hok0 hok h1, caTs_rz hW hok0 hok h2⟩
theorem entTA_rz {g : Arg} {v : Value} (hok : ∀ b, ok b → b < W.heap.size) (hr : g.rz P W ok v) :
    T.rz ⟨P, W, ok, N, fun _ => undef, fun _ => False, fun _ => False⟩ W (okOf ⟨P, W, ok, N, fun _ => undef, fun _ => False, fun _ => False⟩ W (fun _ => none) (fun _ => undef)) (fun _ => undef) (fun _ => none) (entTA g) v := by
  have hok' : ∀ b, ok b → okOf ⟨P, W, ok, N, fun _ => undef, fun _ => False, fun _ => False⟩ W (fun _ => none) (fun _ => undef) b := fun b hb => ⟨.inl hb, hok b hb, fun κ => by simp [topOf, topB]⟩
  cases g with
  | d x =>
    obtain ⟨b, cs⟩ := x
    obtain ⟨us, h1, h2⟩ := hr
    cases b with
    | true =>
      simp only [if_true] at h2
      simp only [entTA, T.rz]
      exact ⟨us, h2, Cs.rz_one _ _ _ h1, caTs_rz rfl rfl hok' h1⟩
    | false =>
      simp only [Bool.false_eq_true, if_false] at h2
      subst h2
      match cs, h1 with
      | [], h1 => simp [Cs.rz] at h1
      | [c], h1 =>
        simp only [Cs.rz] at h1
        obtain ⟨u, us', f1, f2, he, hf, h1, h2⟩ := h1
        obtain ⟨rfl, rfl⟩ : f1 = [] ∧ f2 = [] := by simpa using hf.symm
        simp only [List.cons.injEq] at he
        obtain ⟨rfl, _⟩ := he
        exact caT_rz rfl rfl hok' h1
      | _ :: _ :: _, h1 => simp [entTA, T.rz]
  | pv xs =>
    simp only [entTA, T.rz]
    obtain ⟨b, o, us, h1, h2, h3, h4⟩ := hr
    exact ⟨b, o, us, h1, hok' b h2, Cs.rz_move (fun b hb => ⟨hok' b hb, rfl⟩) (Nat.le_refl _) _ _ [] (by simp) h3, h4⟩
  | fn sem => simp only [entTA, T.rz]; exact hr
theorem entLA_rz (hok : ∀ b, ok b → b < W.heap.size) : ∀ {gs : List Arg} {vs : List Value} {i : Nat}, Args.rz P W ok gs vs → ∀ j,
    T.rz ⟨P, W, ok, N, fun _ => undef, fun _ => False, fun _ => False⟩ W (okOf ⟨P, W, ok, N, fun _ => undef, fun _ => False, fun _ => False⟩ W (fun _ => none) (fun _ => undef)) (fun _ => undef) (fun _ => none) (lkT j (entLA i gs)) (if i ≤ j then vs.getD (j - i) undef else undef) := by
  intro gs
  induction gs with
  | nil => intro vs i hr j; simp [entLA, lkT, T.rz]
  | cons g gs ih =>
    intro vs i hr j
    simp only [Args.rz] at hr
    obtain ⟨v, vs', rfl, h1, h2⟩ := hr
    simp only [entLA, lkT]
    split
    · rename_i hj; subst hj; simpa using entTA_rz hok h1
    · rename_i hj
      have := ih (i := i + 1) h2 j
      by_cases hle : i + 1 ≤ j
      · rw [if_pos hle] at this
        rw [if_pos (by omega), show j - i = (j - (i + 1)) + 1 by omega]
        simpa using this
      · rw [if_neg hle] at this
        rw [if_neg (by omega)]
        exact this
theorem entA_rel {gs : List Arg} {vs : List Value} (hok : ∀ b, ok b → b < W.heap.size) (hr : Args.rz P W ok gs vs) (hN : gs.length ≤ N) :
    RelE ⟨P, W, ok, N, fun _ => undef, fun _ => False, fun _ => False⟩ (entA gs) { tmps := vs.toArray ++ Array.replicate (N - vs.toArray.size) undef, defers := [] } W := by
  have hl := Args.length hr
  refine ⟨fun _ => undef, fun _ => [], ⟨rfl, by simp; omega, .of (Bel.refl _ _), fun b hb => ⟨hok b hb, id⟩, fun j => ?_, fun j => by simp [entA, cst, lkT, T.rz], fun κ b hb => by simp [entA, cst, lk] at hb, fun _ _ => rfl, fun κ κ' b _ hb => by simp [entA, cst, topOf, lk, topB] at hb, by simp, by simp, by simp, fun κ b hb => by simp [entA, cst, topOf, lk, topB] at hb, by simp⟩⟩
  have h1 := entLA_rz (N := N) hok (i := 0) hr j
  rw [if_pos (Nat.zero_le j), Nat.sub_zero] at h1
  have e : (vs.toArray ++ Array.replicate (N - vs.toArray.size) undef).getD j undef = vs.getD j undef := by
    rw [Array.getD_eq_getD_getElem?, List.getD_eq_getElem?_getD, Array.getElem?_append]
    split
    · simp
    · rename_i hlt
      rw [List.getElem?_eq_none (by simpa using hlt), Array.getElem?_replicate]
      split <;> rfl
  show T.rz _ W _ _ _ (lkT j (entLA 0 gs)) _
  rw [e]
  exact h1
end
/-- THE CONTRACT out of a walk in which the arguments live on. -/
theorem sat_walkA {P : Program} {f : Nat} {fn : Func} {c : Code} {gs : List Arg} {own : Bool} {rs : List Dat} (hf : P.funcs[f]? = some fn) (hb : fn.body = some c) (hn : (fn.name == "runtime.NumGoroutine") = false) (hN : gs.length ≤ fn.ntmps)
    (H : ∀ fr : Fr, fr.P = P → fr.N = fn.ntmps → Args.bnd gs → ev (envOf fr P) (finR fr fn own rs) [.code c] (entA gs)) : Sat P f gs own rs := by
  refine ⟨⟨fn, hf, by simp [hb], hn⟩, fun W ok vs hok hr => ?_⟩
  have hbnd := Args.rz_bnd hr
  refine calls_of_wp hf hb ?_
  have := H ⟨P, W, ok, fn.ntmps, fun _ => undef, fun _ => False, fun _ => False⟩ rfl rfl hbnd _ W (entA_rel hok hr hN)
  exact wp_mono this fun e a W h => fin_plain (fun _ h => h) (fun _ h => h) h
theorem frzL_nil {h : Nat → Option Blk} : frzL h [] = [] := rfl
theorem frzL_cons {h : Nat → Option Blk} {k : Nat} {ks : List Nat} : frzL h (k :: ks) = (k, frzB (h k)) :: frzL h ks := rfl
theorem renL_nil {ρ : Nat → Nat} : renL ρ [] = [] := rfl
theorem renL_cons {ρ : Nat → Nat} {k : Nat} {b : Blk} {l : List (Nat × Blk)} : renL ρ ((k, b) :: l) = (ρ k, b.ren ρ) :: renL ρ l := rfl
theorem keysR_nil {ρ : Nat → Nat} : keysR ρ [] = [] := rfl
theorem keysR_cons {ρ : Nat → Nat} {k : Nat} {b : Blk} {l : List (Nat × Blk)} : keysR ρ ((k, b) :: l) = ρ k :: keysR ρ l := rfl
attribute [go_sem] rhoOf vcallG argsG argG argC1 nilC froC fnG dataA dataP offK arrs isArr frzB givs newK news subK allX Blk.cross T.cross Ts.cross T.ren Ts.ren Blk.ren frzL_nil frzL_cons renL_nil renL_cons keysR_nil keysR_cons Ts.rf T.rf capsH T.refs Ts.refs
  slotsOf ghostsOf vendG entA entLA entTA caT List.map_cons
end Go.Vm

namespace Go.Vm
open Go Go.RowKit

def isI64T : Option TypeDesc → Bool
  | some (.int .i64) => true
  | _ => false
def fldsB (P : Program) : Nat → List Field → Bool
  | _, [] => true
  | i, f :: fs => (f.name != "_") && (f.offset == i) && isI64T (P.underlying f.type) && fldsB P (i + 1) fs
/-- A struct of n numbers. -/
def intsTy (P : Program) (t n : Nat) : Bool := (match P.underlying t with
  | some (.struct fs) => fs.size == n && fldsB P 0 fs.toList
  | _ => false) && !P.stoodInHeld t && !P.eqGuardType P.depth t
def eqInts : List Int → List Int → Bool
  | a :: as', b :: bs => a == b && eqInts as' bs
  | _, _ => true
section
variable {P : Program} {W : World}
theorem isI64T_ok {d : Option TypeDesc} (h : isI64T d = true) : d = some (.int .i64) := by
  unfold isI64T at h; split at h
  · rfl
  · cases h
theorem run_eqInts : ∀ {fs : List Field} {i d : Nat} {ns ms : List Int} {xs ys : Array Value}, fldsB P i fs = true → ns.length = fs.length → ms.length = fs.length →
    (∀ j n, ns[j]? = some n → xs[i + j]? = some (.int .i64 n)) → (∀ j n, ms[j]? = some n → ys[i + j]? = some (.int .i64 n)) →
    (Op.eqFields (d + 1) xs ys fs).run P W = .ok (eqInts ns ms) W
  | [], i, d, ns, ms, xs, ys, _, h1, h2, _, _ => by
    obtain rfl : ns = [] := by simpa using h1
    simp [Op.eqFields, eqInts]
  | f :: fs, i, d, [], ms, xs, ys, _, h1, h2, _, _ => by simp at h1
  | f :: fs, i, d, n :: ns, [], xs, ys, _, h1, h2, _, _ => by simp at h2
  | f :: fs, i, d, n :: ns, m :: ms, xs, ys, hf, h1, h2, hx, hy => by
    simp only [fldsB, Bool.and_eq_true, bne_iff_ne, ne_eq, beq_iff_eq] at hf
    obtain ⟨⟨⟨hn, ho⟩, ht⟩, hr⟩ := hf
    have hu := isI64T_ok ht
    have ha : (isAgg f.type).run P W = .ok false W := by simp [isAgg, run_underlying hu]
    have p1 : (part f.type xs f.offset).run P W = .ok (.int .i64 n) W := by
      have := hx 0 n rfl
      simp only [part, Sem.run_bind, ha, Result.andThen_ok, ho, Bool.false_eq_true, if_false]
      rw [show xs[i]? = some (.int .i64 n) by simpa using this]; rfl
    have p2 : (part f.type ys f.offset).run P W = .ok (.int .i64 m) W := by
      have := hy 0 m rfl
      simp only [part, Sem.run_bind, ha, Result.andThen_ok, ho, Bool.false_eq_true, if_false]
      rw [show ys[i]? = some (.int .i64 m) by simpa using this]; rfl
    have ih := run_eqInts (i := i + 1) (d := d) (xs := xs) (ys := ys) (ns := ns) (ms := ms) hr (by simpa using h1) (by simpa using h2)
      (fun j v hj => by rw [Nat.add_assoc, Nat.add_comm 1 j]; exact hx (j + 1) v (by simpa using hj)) (fun j v hj => by rw [Nat.add_assoc, Nat.add_comm 1 j]; exact hy (j + 1) v (by simpa using hj))
    simp only [Op.eqFields, ne_eq, hn, not_false_eq_true, if_true, Sem.run_bind, p1, p2, Result.andThen_ok, run_equalIn_int W d f.type .i64 .i64 n m hu, eqInts]
    cases h : n == m
    · simp
    · simpa using ih
end
section
variable {fr : Fr} {st : St}
theorem ints_rz {W : World} {ok : Nat → Prop} {ν : Nat → Value} {h : Nat → Option Blk} : ∀ {ns : List Int} {us : List Value}, Ts.rz fr W ok ν h (ns.map fun n => .c (.int .i64 n)) us → us = ns.map fun n => Value.int .i64 n
  | [], us, hr => by simpa [Ts.rz] using hr
  | n :: ns, us, hr => by
    simp only [List.map_cons, Ts.rz, T.rz, C.rz] at hr
    obtain ⟨u, us', rfl, ⟨rfl, _⟩, h2⟩ := hr
    rw [ints_rz h2]; rfl
def eqOp (op : BinOp) (q : Bool) : Option Bool := match op with
  | .eql => some q
  | .neq => some (!q)
  | _ => none
theorem binE_ints {op : BinOp} {t : Nat} {ns ms : List Int} {q : Bool} (ht : intsTy fr.P t ns.length = true) (hl : ms.length = ns.length) (hq : eqOp op (eqInts ns ms) = some q) :
    BinE fr st op t (.agg (ns.map fun n => .c (.int .i64 n))) (.agg (ms.map fun n => .c (.int .i64 n))) ⟨.c (.bool q), [], []⟩ := by
  intro o xo yo t' ho hx hy hd
  refine .of_value fun st' a W ν F h1 h2 h => ?_
  have ex := h1 xo (by simp [ho, Op.operands])
  have ey := h1 yo (by simp [ho, Op.operands])
  have vx := h.opd xo
  have vy := h.opd yo
  rw [ex, hx] at vx
  rw [ey, hy] at vy
  simp only [T.rz] at vx vy
  obtain ⟨us, hvx, _, h3⟩ := vx
  obtain ⟨ws, hvy, _, h4⟩ := vy
  rw [ints_rz h3] at hvx
  rw [ints_rz h4] at hvy
  simp only [intsTy, Bool.and_eq_true, Bool.not_eq_true'] at ht
  obtain ⟨⟨hs, h5⟩, h6⟩ := ht
  split at hs
  · rename_i fs hu
    simp only [Bool.and_eq_true, beq_iff_eq] at hs
    have hfo : fr.P.fieldsOf t = fs := by simp [Program.fieldsOf, hu]
    have hu' : fr.P.underlying t = some (.struct (fr.P.fieldsOf t)) := by rw [hfo]; exact hu
    have key : (Op.equalIn 10000 t (a.eval xo) (a.eval yo)).run fr.P W = .ok (eqInts ns ms) W := by
      rw [hvx, hvy, run_equalIn_struct W 9999 t _ _ hu' h5, hfo]
      refine run_eqInts (i := 0) (d := 9998) hs.2 (by simp [hs.1]) (by simp [hl, hs.1]) (fun j n hj => by simp [hj]) (fun j n hj => by simp [hj])
    have hg : (eqGuard op t xo yo (a.eval xo) (a.eval yo)).run fr.P W = .ok () W := by rw [hvx, hvy]; exact run_eqGuard_agg W op t xo yo _ _ h6
    have hb : (binOp op t (a.eval xo) (a.eval yo)).run fr.P W = .ok (.bool q) W := by
      cases op <;> simp only [eqOp, Option.some.injEq, reduceCtorEq] at hq <;> subst hq
      · rw [hvx, hvy, run_eql_struct]; rw [hvx, hvy] at key; rw [key]; rfl
      · rw [hvx, hvy, run_neq_struct]; rw [hvx, hvy] at key; rw [key]; rfl
    refine ⟨.bool q, W, ?_, h.pure (by simp [T.rz, C.rz]) hd⟩
    simp only [execOp, ho, Sem.run_bind, hg, Result.andThen_ok, hb, Sem.run_pure]
  · cases hs
theorem vbin_of {c : Cx} {i : Nat} {dst : Option Nat} {rest : List Oper} {acc : List (List Nat × List Nat)} {P : Program} {op : BinOp} {t : Nat} {x y : T} (ns ms : List Int) (q : Bool) (hP : c.E.fr.P = P) (ht : intsTy P t ns.length = true)
    (hx : x = .agg (ns.map fun n => .c (.int .i64 n))) (hy : y = .agg (ms.map fun n => .c (.int .i64 n))) (hl : ms.length = ns.length) (hq : eqOp op (eqInts ns ms) = some q)
    (h : vops c (i + 1) rest (([], keysE ⟨.c (.bool q), [], []⟩) :: acc) (app st dst ⟨.c (.bool q), [], []⟩)) : vbin c i dst rest acc st op t x y := by
  subst hx hy hP
  exact ⟨_, binE_ints ht hl hq, h⟩
end
end Go.Vm

namespace Go.Vm
open Go Go.RowKit

mutual
/-- What holds whatever is written elsewhere. -/
def T.safe : T → Prop
  | .c (.int _ _) => True
  | .c (.bool _) => True
  | .c (.val _) => True
  | .c (.sl _ _ _) => False
  | .nilS => True
  | .ref _ => True
  | .ptr _ _ => True
  | .ep _ _ _ _ => True
  | .pv _ => False
  | .agg xs => Ts.safe xs
  | .tup xs => Ts.safe xs
  | .clo _ xs => Ts.safe xs
  | .fn _ => True
  | .un => True
  | .nn _ _ => False
  | .ca _ => True
def Ts.safe : List T → Prop
  | [] => True
  | t :: ts => T.safe t ∧ Ts.safe ts
end
def Blk.safe : Blk → Prop
  | .arr true _ _ _ => True
  | .box xs => Ts.safe xs
  | .opn _ _ _ mid _ => Ts.safe mid
  | .dead => True
  | _ => False
section
variable {fr : Fr} {W W' : World} {ok ok' : Nat → Prop} {ν ν' : Nat → Value} {h h' : Nat → Option Blk}
mutual
theorem T.rz_safe (hν : ∀ κ, (h κ).isSome = true → ν' κ = ν κ) (hh : ∀ κ, (h κ).isSome = true → (h' κ).isSome = true) : ∀ (t : T) (v : Value), T.safe t → T.rz fr W ok ν h t v → T.rz fr W' ok' ν' h' t v
  | .c (.int _ _), v, _, hr => by simp only [T.rz, C.rz] at hr ⊢; exact hr
  | .c (.bool _), v, _, hr => by simp only [T.rz, C.rz] at hr ⊢; exact hr
  | .c (.val _), v, _, hr => by simp only [T.rz, C.rz] at hr ⊢; exact hr
  | .c (.sl _ _ _), v, hs, _ => by simp [T.safe] at hs
  | .nilS, v, _, hr => by simpa only [T.rz] using hr
  | .ref κ, v, _, hr => by simp only [T.rz] at hr ⊢; exact ⟨by rw [hν κ hr.2]; exact hr.1, hh κ hr.2⟩
  | .ptr κ off, v, _, hr => by simp only [T.rz] at hr ⊢; exact ⟨hh κ hr.1, by rw [hν κ hr.1]; exact hr.2⟩
  | .ep κ sz i off, v, _, hr => by simp only [T.rz] at hr ⊢; exact ⟨hh κ hr.1, by rw [hν κ hr.1]; exact hr.2⟩
  | .pv _, v, hs, _ => by simp [T.safe] at hs
  | .agg xs, v, hs, hr => by simp only [T.rz, T.safe] at hr hs ⊢; obtain ⟨us, a, b, c⟩ := hr; exact ⟨us, a, b, Ts.rz_safe hν hh xs us hs c⟩
  | .tup xs, v, hs, hr => by simp only [T.rz, T.safe] at hr hs ⊢; obtain ⟨us, a, c⟩ := hr; exact ⟨us, a, Ts.rz_safe hν hh xs us hs c⟩
  | .clo f xs, v, hs, hr => by simp only [T.rz, T.safe] at hr hs ⊢; obtain ⟨us, a, c⟩ := hr; exact ⟨us, a, Ts.rz_safe hν hh xs us hs c⟩
  | .fn sem, v, _, hr => by simpa only [T.rz] using hr
  | .un, v, _, hr => by simp only [T.rz]
  | .nn _ _, v, hs, _ => by simp [T.safe] at hs
  | .ca x, v, _, hr => by simpa only [T.rz] using hr
theorem Ts.rz_safe (hν : ∀ κ, (h κ).isSome = true → ν' κ = ν κ) (hh : ∀ κ, (h κ).isSome = true → (h' κ).isSome = true) : ∀ (ts : List T) (us : List Value), Ts.safe ts → Ts.rz fr W ok ν h ts us → Ts.rz fr W' ok' ν' h' ts us
  | [], us, _, hr => by simpa only [Ts.rz] using hr
  | t :: ts, us, hs, hr => by
    simp only [Ts.rz, Ts.safe] at hr hs ⊢
    obtain ⟨u, us', a, b, c⟩ := hr
    exact ⟨u, us', a, T.rz_safe hν hh t u hs.1 b, Ts.rz_safe hν hh ts us' hs.2 c⟩
end
theorem Blk.rz_safe {κ : Nat} {fs : List Nat} {blk : Blk} (hs : blk.safe) (hν : ∀ κ, (h κ).isSome = true → ν' κ = ν κ) (hh : ∀ κ, (h κ).isSome = true → (h' κ).isSome = true)
    (hκ : ν' κ = ν κ) (htop : ∀ b, topB ν κ (some blk) = some b → W'.heap[b]? = W.heap[b]?) (hf : ∀ b, b ∈ fs → W'.heap[b]? = W.heap[b]?)
    (hr : blk.rz fr W ok ν h κ fs) : blk.rz fr W' ok' ν' h' κ fs := by
  cases blk with
  | arr d ty sz es =>
    cases d with
    | false => simp [Blk.safe] at hs
    | true =>
      simp only [Blk.rz] at hr ⊢
      rw [hκ]
      obtain ⟨xs, ho, he⟩ := hr
      exact ⟨xs, ownsRow_move ho htop, Es.rz_move (fun b hb => hb.elim) (Nat.le_refl _) sz es xs fs hf he⟩
  | box xs =>
    simp only [Blk.rz, Blk.safe] at hr hs ⊢
    rw [hκ]
    obtain ⟨hfs, b, us, ty, hv, hB, hb, hts, h1⟩ := hr
    refine ⟨hfs, b, us, ty, hv, hB, ?_, Ts.rz_safe hν hh xs us hs hts, h1⟩
    rw [htop b (by simp [topB, hv])]; exact hb
  | fro => simp [Blk.safe] at hs
  | dead => simp only [Blk.rz] at hr ⊢; rw [hκ]; exact hr
  | opn ty sz pre mid post =>
    simp only [Blk.rz, Blk.safe] at hr hs ⊢
    rw [hκ]
    obtain ⟨xs, ms, ys, f1, f2, ho, h1, h2, h3, h4, h5, rfl⟩ := hr
    exact ⟨xs, ms, ys, f1, f2, ownsRow_move ho htop, Es.rz_move (fun b hb => hb.elim) (Nat.le_refl _) _ _ _ _ (fun b hb => hf b (by simp [hb])) h1, Ts.rz_safe hν hh mid ms hs h2, h3, h4,
      Es.rz_move (fun b hb => hb.elim) (Nat.le_refl _) _ _ _ _ (fun b hb => hf b (by simp [hb])) h5, rfl⟩
end


theorem Es.rz_at {W : World} {ok : Nat → Prop} {B sz : Nat} : ∀ {es : List (List C)} {i : Nat} {xs : List Value} {fs : List Nat} {e : List C}, Es.rz W ok B sz es xs fs → es[i]? = some e →
    ∃ x1 ms x2 f1 fm f2, xs = x1 ++ (ms ++ x2) ∧ fs = f1 ++ (fm ++ f2) ∧ Es.rz W ok B sz (es.take i) x1 f1 ∧ e.length = sz ∧ Cs.rz W ok B e ms fm ∧ Es.rz W ok B sz (es.drop (i + 1)) x2 f2
  | [], i, xs, fs, e, h, he => by simp at he
  | c :: es, 0, xs, fs, e, h, he => by
    obtain rfl : c = e := by simpa using he
    simp only [Es.rz] at h
    obtain ⟨x1, x2, f1, f2, rfl, rfl, hl, h1, h2⟩ := h
    exact ⟨[], x1, x2, [], f1, f2, rfl, rfl, by simp [Es.rz], hl, h1, by simpa using h2⟩
  | c :: es, i + 1, xs, fs, e, h, he => by
    simp only [Es.rz] at h
    obtain ⟨x1, x2, f1, f2, rfl, rfl, hl, h1, h2⟩ := h
    obtain ⟨y1, ms, y2, g1, gm, g2, rfl, rfl, h3, h4, h5, h6⟩ := Es.rz_at h2 (by simpa using he)
    refine ⟨x1 ++ y1, ms, y2, f1 ++ g1, gm, g2, by simp, by simp, ?_, h4, h5, by simpa using h6⟩
    rw [List.take_succ_cons]
    simp only [Es.rz]
    exact ⟨x1, y1, f1, g1, rfl, rfl, hl, h1, h3⟩
section
variable {fr : Fr} {st : St} {a : Act} {W : World} {ν : Nat → Value} {F : Nat → List Nat}
/-- ONE ELEMENT IS LOOKED INTO. -/
theorem Rel.openE (hr : Rel fr st a W ν F) (hY : ∀ b, fr.Y b → fr.X b) {κ κ0 ty sz i : Nat} {es : List (List C)} {e : List C} (hb : st.h κ = some (.arr true ty sz es)) (he : es[i]? = some e) (hfresh : ∀ k, (lk k (openL true κ0 e).2).isSome = true → st.h k = none)
    (hsl : ∀ j, (st.s j).safe) (hgl : ∀ j, (st.g j).safe) (hhl : ∀ k blk, st.h k = some blk → blk.safe) :
    RelE fr ⟨st.s, mrg st.h ((κ, .opn ty sz (es.take i) (openL true κ0 e).1 (es.drop (i + 1))) :: (openL true κ0 e).2), st.g⟩ a W := by
  have hblk := hr.heap κ _ hb
  simp only [Blk.rz] at hblk
  obtain ⟨xs, ho, hes⟩ := hblk
  obtain ⟨x1, ms, x2, f1, fm, f2, rfl, hF, h1, hl, h2, h3⟩ := Es.rz_at hes he
  have hnd := hr.d3 κ
  rw [hF, List.nodup_append] at hnd
  obtain ⟨n1, n2, n3⟩ := hnd
  rw [List.nodup_append] at n2
  obtain ⟨n4, n5, n6⟩ := n2
  obtain ⟨ν1, F1, b1, b2, b3, b4, b5⟩ := open_rz (own := true) κ0 h2 n4
  have hi : i < es.length := (List.getElem?_eq_some_iff.1 he).1
  let hl' : List (Nat × Blk) := (openL true κ0 e).2
  let M : List (Nat × Blk) := (κ, .opn ty sz (es.take i) (openL true κ0 e).1 (es.drop (i + 1))) :: hl'
  have hκn : ¬ (lk κ hl').isSome = true := fun h => by have := hfresh κ h; rw [hb] at this; cases this
  let ν' : Nat → Value := fun k => if (lk k hl').isSome = true then ν1 k else ν k
  let F' : Nat → List Nat := fun k => if k = κ then f1 ++ f2 else if (lk k hl').isSome = true then F1 k else F k
  have hν1 : ∀ k, (lk k hl').isSome = true → ν' k = ν1 k := fun k hk => if_pos hk
  have hν0 : ∀ k, ¬ (lk k hl').isSome = true → ν' k = ν k := fun k hk => if_neg hk
  have hν : ∀ k, (st.h k).isSome = true → ν' k = ν k := fun k hk => hν0 k fun h => by rw [hfresh k h] at hk; cases hk
  have hFκ : F' κ = f1 ++ f2 := if_pos rfl
  have hF1 : ∀ k, (lk k hl').isSome = true → F' k = F1 k := fun k hk => by
    have : k ≠ κ := by rintro rfl; exact hκn hk
    show (if k = κ then _ else if _ then _ else _) = _
    rw [if_neg this, if_pos hk]
  have hF0 : ∀ k, k ≠ κ → ¬ (lk k hl').isSome = true → F' k = F k := fun k hk hn => by
    show (if k = κ then _ else if _ then _ else _) = _
    rw [if_neg hk, if_neg hn]
  have mκ : mrg st.h M κ = some (.opn ty sz (es.take i) (openL true κ0 e).1 (es.drop (i + 1))) := by simp [mrg, M, lk]
  have mN : ∀ k, (lk k hl').isSome = true → mrg st.h M k = lk k hl' := fun k hk => by
    have : k ≠ κ := by rintro rfl; exact hκn hk
    obtain ⟨blk, hbk⟩ := Option.isSome_iff_exists.1 hk
    simp [mrg, M, lk, this, hbk]
  have m0 : ∀ k, k ≠ κ → ¬ (lk k hl').isSome = true → mrg st.h M k = st.h k := fun k hk hn => by
    have hn' : lk k hl' = none := by simpa using hn
    simp [mrg, M, lk, hk, hn']
  have hh : ∀ k, (st.h k).isSome = true → (mrg st.h M k).isSome = true := fun k hk => mrg_isSome hk
  have topκ : topOf (mrg st.h M) ν' κ = topOf st.h ν κ := by
    simp only [topOf, mκ, hb, topB, hν0 κ hκn]
  have topN : ∀ k, (lk k hl').isSome = true → topOf (mrg st.h M) ν' k = (ν1 k).ownBlock := fun k hk => by
    obtain ⟨_, ty', sz', es', xs', g1, g2, g3, _⟩ := b1 k hk
    have g1' : lk k hl' = some (.arr true ty' sz' es') := g1
    simp only [topOf, mN k hk, g1', topB, hν1 k hk]
  have top0 : ∀ k, ¬ (lk k hl').isSome = true → topOf (mrg st.h M) ν' k = topOf st.h ν k := fun k hn => by
    by_cases hk : k = κ
    · subst hk; exact topκ
    · simp only [topOf, m0 k hk hn]; exact topB_congr _ fun _ => hν0 k hn
  have tm : ∀ k b, (lk k hl').isSome = true → topOf (mrg st.h M) ν' k = some b → b ∈ fm := fun k b hk ht => by
    rw [topN k hk] at ht
    exact b2 k b hk (by simp [ht])
  have fM : ∀ k b, (lk k hl').isSome = true → b ∈ F1 k → b ∈ fm := fun k b hk hb => b2 k b hk (by simp [hb])
  have inF : ∀ b, b ∈ fm → b ∈ F κ := fun b hb => by rw [hF]; simp [hb]
  have inF2 : ∀ b, b ∈ f1 ++ f2 → b ∈ F κ := fun b hb => by
    rw [hF]; rcases List.mem_append.1 hb with h | h <;> simp [h]
  have apart : ∀ b, b ∈ f1 ++ f2 → b ∉ fm := fun b hb hm => by
    rcases List.mem_append.1 hb with h | h
    · exact n3 b h b (by simp [hm]) rfl
    · exact n6 b hm b h rfl
  refine ⟨ν', F', ⟨hr.defers, hr.size, hr.below, hr.ok0, fun j => T.rz_safe hν hh _ _ (hsl j) (hr.slots j), fun j => T.rz_safe hν hh _ _ (hgl j) (hr.ghosts j), ?_, ?_, ?_, ?_, ?_, ?_, ?_, ?_⟩⟩
  · intro k blk hk
    have hk : mrg st.h M k = some blk := hk
    by_cases hkκ : k = κ
    · subst hkκ
      rw [mκ] at hk
      obtain rfl := Option.some.inj hk
      rw [hFκ]
      simp only [Blk.rz, hν0 k hκn]
      refine ⟨x1, ms, x2, f1, f2, ?_, h1, ?_, Cs.rz_one _ _ _ h2, ?_, h3, rfl⟩
      · have e1 : (es.take i).length + 1 + (es.drop (i + 1)).length = es.length := by simp; omega
        rw [e1]; exact ho
      · exact b5 fr ν' (mrg st.h M) _ (fun b hb => hb.elim) fun k' hk' => ⟨hν1 k' hk', by rw [mN k' hk']; exact hk'⟩
      · have e2 := b5 fr ν' (mrg st.h M) (fun _ => True) (fun b hb => hb.elim) fun k' hk' => ⟨hν1 k' hk', by rw [mN k' hk']; exact hk'⟩
        have := Ts.rz_length _ _ e2
        have := Cs.rz_length _ _ _ h2
        omega
    · by_cases hn : (lk k hl').isSome = true
      · rw [mN k hn] at hk
        obtain ⟨_, ty', sz', es', xs', g1, g2, g3, _⟩ := b1 k hn
        have g1' : lk k hl' = some (.arr true ty' sz' es') := g1
        rw [g1'] at hk
        obtain rfl := Option.some.inj hk
        rw [hF1 k hn]
        simp only [Blk.rz, hν1 k hn]
        exact ⟨xs', g2, g3⟩
      · rw [m0 k hkκ hn] at hk
        rw [hF0 k hkκ hn]
        exact Blk.rz_safe (hhl k blk hk) hν hh (hν0 k hn) (fun _ _ => rfl) (fun _ _ => rfl) (hr.heap k blk hk)
  · intro k hk
    have hk : mrg st.h M k = none := hk
    have hkκ : k ≠ κ := by rintro rfl; rw [mκ] at hk; cases hk
    have hn : ¬ (lk k hl').isSome = true := fun h => by rw [mN k h] at hk; simp [hk] at h
    rw [hF0 k hkκ hn]
    exact hr.none_ k (by rw [← m0 k hkκ hn]; exact hk)
  · intro k k' b hne e1 e2
    have e1 : topOf (mrg st.h M) ν' k = some b := e1
    have e2 : topOf (mrg st.h M) ν' k' = some b := e2
    by_cases hk : (lk k hl').isSome = true <;> by_cases hk' : (lk k' hl').isSome = true
    · rw [topN k hk] at e1
      rw [topN k' hk'] at e2
      exact b4 k k' b hne hk hk' (by simp [e1]) (by simp [e2])
    · rw [top0 k' hk'] at e2
      exact hr.d2 κ k' b (inF b (tm k b hk e1)) e2
    · rw [top0 k hk] at e1
      exact hr.d2 κ k b (inF b (tm k' b hk' e2)) e1
    · rw [top0 k hk] at e1
      rw [top0 k' hk'] at e2
      exact hr.d1 k k' b hne e1 e2
  · intro k k' b e1 e2
    have e2 : topOf (mrg st.h M) ν' k' = some b := e2
    by_cases hkκ : k = κ
    · subst hkκ
      rw [hFκ] at e1
      by_cases hk' : (lk k' hl').isSome = true
      · exact apart b e1 (tm k' b hk' e2)
      · rw [top0 k' hk'] at e2
        exact hr.d2 k k' b (inF2 b e1) e2
    · by_cases hk : (lk k hl').isSome = true
      · rw [hF1 k hk] at e1
        by_cases hk' : (lk k' hl').isSome = true
        · rw [topN k' hk'] at e2
          by_cases hkk : k = k'
          · subst hkk
            have := b3 k hk
            rw [List.nodup_append] at this
            exact this.2.2 b (by simp [e2]) b e1 rfl
          · exact b4 k k' b hkk hk hk' (by simp [e1]) (by simp [e2])
        · rw [top0 k' hk'] at e2
          exact hr.d2 κ k' b (inF b (fM k b hk e1)) e2
      · rw [hF0 k hkκ hk] at e1
        by_cases hk' : (lk k' hl').isSome = true
        · exact hr.d4 k κ b hkκ e1 (inF b (tm k' b hk' e2))
        · rw [top0 k' hk'] at e2
          exact hr.d2 k k' b e1 e2
  · intro k
    by_cases hkκ : k = κ
    · subst hkκ
      rw [hFκ, List.nodup_append]
      exact ⟨n1, n5, fun x hx y hy => n3 x hx y (by simp [hy])⟩
    · by_cases hk : (lk k hl').isSome = true
      · rw [hF1 k hk]
        have := b3 k hk
        rw [List.nodup_append] at this
        exact this.2.1
      · rw [hF0 k hkκ hk]; exact hr.d3 k
  · intro k k' b hne e1 e2
    have key : ∀ k k' b, k ≠ k' → k = κ → b ∈ F' k → b ∈ F' k' → False := by
      intro k k' b hne hkκ e1 e2
      subst hkκ
      rw [hFκ] at e1
      by_cases hk' : (lk k' hl').isSome = true
      · rw [hF1 k' hk'] at e2
        exact apart b e1 (fM k' b hk' e2)
      · rw [hF0 k' (Ne.symm hne) hk'] at e2
        exact hr.d4 k k' b hne (inF2 b e1) e2
    by_cases hkκ : k = κ
    · exact key k k' b hne hkκ e1 e2
    · by_cases hkκ' : k' = κ
      · exact key k' k b (Ne.symm hne) hkκ' e2 e1
      · by_cases hk : (lk k hl').isSome = true <;> by_cases hk' : (lk k' hl').isSome = true
        · rw [hF1 k hk] at e1
          rw [hF1 k' hk'] at e2
          exact b4 k k' b hne hk hk' (by simp [e1]) (by simp [e2])
        · rw [hF1 k hk] at e1
          rw [hF0 k' hkκ' hk'] at e2
          exact hr.d4 k' κ b hkκ' e2 (inF b (fM k b hk e1))
        · rw [hF0 k hkκ hk] at e1
          rw [hF1 k' hk'] at e2
          exact hr.d4 k κ b hkκ e1 (inF b (fM k' b hk' e2))
        · rw [hF0 k hkκ hk] at e1
          rw [hF0 k' hkκ' hk'] at e2
          exact hr.d4 k k' b hne e1 e2
  · intro k b e1
    have e1 : topOf (mrg st.h M) ν' k = some b := e1
    by_cases hk : (lk k hl').isSome = true
    · rcases hr.n2 κ b (inF b (tm k b hk e1)) with h | h | h
      · exact .inl h
      · exact .inr h
      · exact .inr (hY b h)
    · rw [top0 k hk] at e1; exact hr.n1 k b e1
  · intro k b e1
    by_cases hkκ : k = κ
    · subst hkκ; rw [hFκ] at e1; exact hr.n2 k b (inF2 b e1)
    · by_cases hk : (lk k hl').isSome = true
      · rw [hF1 k hk] at e1; exact hr.n2 κ b (inF b (fM k b hk e1))
      · rw [hF0 k hkκ hk] at e1; exact hr.n2 k b e1
/-- .. AND CLOSED AGAIN. -/
theorem Rel.closeE (hr : Rel fr st a W ν F) {κ ty sz : Nat} {pre post : List (List C)} {mid : List T} {cts : List (Nat × Nat)} {cs : List C} {ks : List Nat} (hb : st.h κ = some (.opn ty sz pre mid post)) (ha : absL st.h true cts mid = some (cs, ks)) (hn : ks.Nodup) (hκ : κ ∉ ks) :
    RelE fr ⟨st.s, mrg st.h ((κ, .arr true ty sz (pre ++ cs :: post)) :: deads ks), st.g⟩ a W := by
  have hblk := hr.heap κ _ hb
  simp only [Blk.rz] at hblk
  obtain ⟨xs, ms, ys, f1, f2, g1, g2, g3, g4, g5, g6, hF⟩ := hblk
  have htop : topOf st.h ν κ = (ν κ).ownBlock := by simp only [topOf, hb, topB]
  have h1 := absL_deep hr ha g3
  have hcl := absL_length ha
  have hnd1 := hr.d3 κ
  have hnd2 := hr.ownKs_nodup (ks := ks) hn
  rw [hF, List.nodup_append] at hnd1
  obtain ⟨n1, n2, n3⟩ := hnd1
  have key : ∀ b', b' ∈ F κ → b' ∉ ks.flatMap (ownK ν F st.h) := fun b' h5 h6 => by
    obtain ⟨k, hk, hb3⟩ := List.mem_flatMap.1 h6
    exact hr.ownK_apart (κ := κ) (κ' := k) (by rintro rfl; exact hκ hk) (by simp [ownK, h5]) hb3
  have in1 : ∀ b, b ∈ f1 → b ∈ F κ := fun b h => by rw [hF]; simp [h]
  have in2 : ∀ b, b ∈ f2 → b ∈ F κ := fun b h => by rw [hF]; simp [h]
  have := hr.setArr (d := true) (κ := κ) (ks := ks) (vκ := ν κ) (X := []) (fs := f1 ++ (ks.flatMap (ownK ν F st.h) ++ f2)) (ty := ty) (sz := sz) (es := pre ++ cs :: post) (xs := xs ++ (ms ++ ys)) (t := .un) (v := undef) (dst := none) (supp := []) hκ (absL_keys ha) (fun _ => rfl) (Chg.refl W) (by simp)
    (fun b hb2 => .inr ⟨κ, .inl rfl, by rw [htop]; exact hb2⟩) (fun b hb2 => .inr ?_) ?_ (fun b hb2 => ?_) ?_ ?_ (.inr rfl) (by simp)
  · exact this
  · rcases List.mem_append.1 hb2 with h | h
    · exact ⟨κ, .inl rfl, .inr (in1 b h)⟩
    · rcases List.mem_append.1 h with h | h
      · obtain ⟨k, hk, hb3⟩ := List.mem_flatMap.1 h; exact ⟨k, .inr hk, mem_ownK hb3⟩
      · exact ⟨κ, .inl rfl, .inr (in2 b h)⟩
  · rw [List.nodup_append, List.nodup_append]
    refine ⟨n1, ⟨hnd2, n2, fun x hx y hy => ?_⟩, fun x hx y hy => ?_⟩
    · rintro rfl; exact key x (in2 x hy) hx
    · rintro rfl
      rcases List.mem_append.1 hy with h | h
      · exact key x (in1 x hx) h
      · exact n3 x hx x h rfl
  · intro hown
    rcases List.mem_append.1 hb2 with h | h
    · exact hr.d2 κ κ b (in1 b h) (by rw [htop]; exact hown)
    · rcases List.mem_append.1 h with h | h
      · obtain ⟨k, hk, hb3⟩ := List.mem_flatMap.1 h
        exact hr.ownK_apart (κ := κ) (κ' := k) (by rintro rfl; exact hκ hk) (by simp [ownK, htop, hown]) hb3
      · exact hr.d2 κ κ b (in2 b h) (by rw [htop]; exact hown)
  · have e1 : (pre ++ cs :: post).length = pre.length + 1 + post.length := by simp; omega
    rw [e1]; exact g1
  · simp only [if_true]
    refine Es.rz_append _ _ _ _ _ _ g2 ?_
    simp only [Es.rz]
    exact ⟨ms, ys, _, f2, rfl, rfl, by omega, h1, g6⟩
end
/-! ### in the walk -/
def safeL : List (Nat × T) → Prop
  | [] => True
  | (_, t) :: r => T.safe t ∧ safeL r
def safeH : List (Nat × Blk) → Prop
  | [] => True
  | (_, b) :: r => b.safe ∧ safeH r
theorem safeL_get {j : Nat} : ∀ {sl : List (Nat × T)}, safeL sl → T.safe (lkT j sl)
  | [], _ => by simp [lkT, T.safe]
  | (k, t) :: r, h => by
    simp only [lkT]
    split
    · exact h.1
    · exact safeL_get h.2
theorem safeH_get {κ : Nat} {b : Blk} : ∀ {hl : List (Nat × Blk)}, safeH hl → lk κ hl = some b → b.safe
  | [], _, h => by simp [lk] at h
  | (k, x) :: r, hs, h => by
    simp only [lk] at h
    split at h
    · cases h; exact hs.1
    · exact safeH_get hs.2 h
theorem cst_app {sl gl : List (Nat × T)} {hl M : List (Nat × Blk)} : (⟨fun j => lkT j sl, mrg (fun κ => lk κ hl) M, fun j => lkT j gl⟩ : St) = cst sl (M ++ hl) gl := by
  unfold cst
  congr 1
  funext κ
  rw [lk_append]
  unfold mrg
  cases lk κ M <;> simp
def freshL (hl : List (Nat × Blk)) : List (Nat × Blk) → Prop
  | [] => True
  | (k, _) :: r => lk k hl = none ∧ freshL hl r
theorem freshL_get {hl : List (Nat × Blk)} : ∀ {l : List (Nat × Blk)}, freshL hl l → ∀ k, (lk k l).isSome = true → lk k hl = none
  | [], _, k, h => by simp [lk] at h
  | (x, b) :: r, hf, k, h => by
    simp only [lk] at h
    split at h
    · rename_i he; subst he; exact hf.1
    · exact freshL_get hf.2 k h
section
variable {E : Env} {R : Exit → Act → World → Prop} {ks : List Fm} {sl gl : List (Nat × T)} {hl : List (Nat × Blk)}
theorem ev_open (κ κ0 : Nat) (pre post : List (List C)) (e : List C) {ty sz : Nat} (hY : ∀ b, E.fr.Y b → E.fr.X b) (hb : lk κ hl = some (.arr true ty sz (pre ++ e :: post))) (hf : freshL hl (openL true κ0 e).2) (hs : safeL sl ∧ safeL gl ∧ safeH hl)
    (h : ev E R ks (cst sl ((κ, .opn ty sz pre (openL true κ0 e).1 post) :: (openL true κ0 e).2 ++ hl) gl)) : ev E R ks (cst sl hl gl) := fun a W ⟨ν, F, hr⟩ => by
  have he : (pre ++ e :: post)[pre.length]? = some e := by simp
  have := hr.openE hY (κ := κ) (κ0 := κ0) hb he (fun k hk => freshL_get hf k hk) (fun j => safeL_get hs.1) (fun j => safeL_get hs.2.1) (fun k blk hk => safeH_get hs.2.2 hk)
  have e1 : (pre ++ e :: post).take pre.length = pre := by simp
  have e2 : (pre ++ e :: post).drop (pre.length + 1) = post := by simp
  rw [e1, e2] at this
  refine h a W ?_
  have h2 : RelE E.fr ⟨fun j => lkT j sl, mrg (fun κ => lk κ hl) ((κ, .opn ty sz pre (openL true κ0 e).1 post) :: (openL true κ0 e).2), fun j => lkT j gl⟩ a W := this
  rw [cst_app] at h2
  exact h2
theorem ev_close (κ : Nat) (cts : List (Nat × Nat)) {ty sz : Nat} {pre post : List (List C)} {mid : List T} (cs : List C) (kk : List Nat) (hb : lk κ hl = some (.opn ty sz pre mid post)) (ha : absL (fun k => lk k hl) true cts mid = some (cs, kk)) (hn : kk.Nodup) (hκ : κ ∉ kk)
    (h : ev E R ks (cst sl ((κ, .arr true ty sz (pre ++ cs :: post)) :: deads kk ++ hl) gl)) : ev E R ks (cst sl hl gl) := fun a W ⟨ν, F, hr⟩ => by
  have := hr.closeE (κ := κ) hb ha hn hκ
  refine h a W ?_
  have h2 : RelE E.fr ⟨fun j => lkT j sl, mrg (fun κ => lk κ hl) ((κ, .arr true ty sz (pre ++ cs :: post)) :: deads kk), fun j => lkT j gl⟩ a W := this
  rw [cst_app] at h2
  exact h2
end
end Go.Vm
