/- The abstract walk: calls that write to all that given rows own. No condition. -/
import Derived.Test.YtegohioalgikjaaVe
import Derived.Attr
set_option linter.unusedVariables false
set_option linter.unusedSimpArgs false
namespace Go.Vm
open Go Go.RowKit

/-- Rows alone, all of whose contents are owned. -/
def isRow : Blk → Prop
  | .arr true _ _ _ => True
  | _ => False
def rowsL : List (Nat × Blk) → Prop
  | [] => True
  | (_, b) :: r => isRow b ∧ rowsL r
theorem rowsL_get {κ : Nat} {blk : Blk} : ∀ {hc : List (Nat × Blk)}, rowsL hc → lk κ hc = some blk → ∃ ty sz es, blk = .arr true ty sz es
  | [], _, h => by simp [lk] at h
  | (k, b) :: r, hr, h => by
    simp only [lk] at h
    split at h
    · cases h
      have := hr.1
      cases blk with
      | arr d ty sz es => cases d <;> simp_all [isRow]
      | _ => simp [isRow] at this
    · exact rowsL_get hr.2 h
mutual
/-- Arguments that such a call may have: numbers, given rows, and structs of them. -/
def T.plain (hc : List (Nat × Blk)) : T → Prop
  | .c (.int _ _) => True
  | .c (.bool _) => True
  | .nilS => True
  | .ref κ => (lk κ hc).isSome = true
  | .agg xs => Ts.plain hc xs
  | _ => False
def Ts.plain (hc : List (Nat × Blk)) : List T → Prop
  | [] => True
  | t :: ts => T.plain hc t ∧ Ts.plain hc ts
end
section
variable {fr fr' : Fr} {W : World} {ok ok' : Nat → Prop} {ν : Nat → Value} {h : Nat → Option Blk} {ρ : Nat → Nat} {hc : List (Nat × Blk)}
mutual
theorem T.rz_ren : ∀ (t : T) (v : Value), T.plain hc t → T.rz fr W ok ν h (T.ren ρ t) v → T.rz fr' W ok' (fun κ => ν (ρ κ)) (fun κ => lk κ hc) t v
  | .c (.int _ _), v, _, hr => by simp only [T.ren, T.rz, C.rz] at hr ⊢; exact hr
  | .c (.bool _), v, _, hr => by simp only [T.ren, T.rz, C.rz] at hr ⊢; exact hr
  | .nilS, v, _, hr => by simpa only [T.ren, T.rz] using hr
  | .ref κ, v, hp, hr => by simp only [T.ren, T.rz, T.plain] at hr hp ⊢; exact ⟨hr.1, hp⟩
  | .agg xs, v, hp, hr => by simp only [T.ren, T.rz, T.plain] at hr hp ⊢; obtain ⟨us, a, b, c⟩ := hr; exact ⟨us, a, b, Ts.rz_ren xs us hp c⟩
  | .c (.sl _ _ _), v, hp, _ => by simp [T.plain] at hp
  | .c (.val _), v, hp, _ => by simp [T.plain] at hp
  | .ptr _ _, v, hp, _ => by simp [T.plain] at hp
  | .ep _ _ _ _, v, hp, _ => by simp [T.plain] at hp
  | .pv _, v, hp, _ => by simp [T.plain] at hp
  | .tup _, v, hp, _ => by simp [T.plain] at hp
  | .clo _ _, v, hp, _ => by simp [T.plain] at hp
  | .fn _, v, hp, _ => by simp [T.plain] at hp
  | .un, v, hp, _ => by simp [T.plain] at hp
  | .nn _ _, v, hp, _ => by simp [T.plain] at hp
  | .ca _, v, hp, _ => by simp [T.plain] at hp
theorem Ts.rz_ren : ∀ (ts : List T) (us : List Value), Ts.plain hc ts → Ts.rz fr W ok ν h (Ts.ren ρ ts) us → Ts.rz fr' W ok' (fun κ => ν (ρ κ)) (fun κ => lk κ hc) ts us
  | [], us, _, hr => by simpa only [Ts.ren, Ts.rz] using hr
  | t :: ts, us, hp, hr => by
    simp only [Ts.ren, Ts.rz, Ts.plain] at hr hp ⊢
    obtain ⟨u, us', a, b, c⟩ := hr
    exact ⟨u, us', a, T.rz_ren t u hp.1 b, Ts.rz_ren ts us' hp.2 c⟩
end
end
/-- A result that is a number. -/
def numT : T → Prop
  | .c (.int _ _) => True
  | .c (.bool _) => True
  | _ => False
theorem numT_rz {fr fr' : Fr} {W W' : World} {ok ok' : Nat → Prop} {ν ν' : Nat → Value} {h h' : Nat → Option Blk} {t : T} {v : Value} (hn : numT t) (hr : T.rz fr W ok ν h t v) : T.rz fr' W' ok' ν' h' t v := by
  unfold numT at hn
  split at hn
  · simp only [T.rz, C.rz] at hr ⊢; exact hr
  · simp only [T.rz, C.rz] at hr ⊢; exact hr
  · exact hn.elim
section
variable {fr : Fr} {st : St} {a : Act} {W : World} {ν : Nat → Value} {F : Nat → List Nat} {ρ : Nat → Nat} {hc : List (Nat × Blk)}
/-- The blocks that are given, with what they own. -/
def givenB (h : Nat → Option Blk) (ν : Nat → Value) (F : Nat → List Nat) (ρ : Nat → Nat) (hc : List (Nat × Blk)) (b : Nat) : Prop := ∃ κ, (lk κ hc).isSome = true ∧ (topOf h ν (ρ κ) = some b ∨ b ∈ F (ρ κ))
theorem row_ren {b : Blk} (h : isRow b) : b.ren ρ = b := by cases b <;> first | rfl | exact h.elim
theorem rows_ren {κ : Nat} {blk : Blk} (hR : rowsL hc) (h : lk κ hc = some blk) : blk.ren ρ = blk := by
  obtain ⟨ty, sz, es, rfl⟩ := rowsL_get hR h; rfl
theorem Rel.givenM (hr : Rel fr st a W ν F) (hR : rowsL hc) (hk : ∀ κ blk, lk κ hc = some blk → st.h (ρ κ) = some (blk.ren ρ)) (inj : ∀ κ κ', (lk κ hc).isSome = true → (lk κ' hc).isSome = true → ρ κ = ρ κ' → κ = κ') (ok : Nat → Prop) (N : Nat) (γ : Nat → Value) :
    HRel ⟨fr.P, W, ok, N, γ, givenB st.h ν F ρ hc, givenB st.h ν F ρ hc⟩ (fun κ => lk κ hc) W (fun κ => ν (ρ κ)) (fun κ => if (lk κ hc).isSome = true then F (ρ κ) else []) := by
  refine ⟨fun κ blk hb => ?_, fun κ hn => by simp only [hn]; rfl, fun κ κ' b hne h1 h2 => ?_, fun κ κ' b h1 h2 => ?_, fun κ => ?_, fun κ κ' b hne h1 h2 => ?_, fun κ b h1 => ?_, fun κ b h1 => ?_⟩
  · have hb' : lk κ hc = some blk := hb
    have hk' := hk κ _ hb'
    obtain ⟨ty, sz, es, rfl⟩ := rowsL_get hR hb'
    have := hr.heap (ρ κ) _ hk'
    simp only [Blk.ren, Blk.rz, Fr.B] at this ⊢
    simp only [hb', Option.isSome_some, if_true]
    exact this
  · obtain ⟨s1, t1⟩ := topc hk h1
    obtain ⟨s2, t2⟩ := topc hk h2
    exact hr.d1 _ _ b (fun e => hne (inj κ κ' s1 s2 e)) t1 t2
  · obtain ⟨s2, t2⟩ := topc hk h2
    split at h1
    · exact hr.d2 _ _ b h1 t2
    · simp at h1
  · show (if _ then _ else _ : List Nat).Nodup
    split
    · exact hr.d3 _
    · simp
  · split at h1
    · split at h2
      · rename_i s1 s2
        exact hr.d4 _ _ b (fun e => hne (inj κ κ' s1 s2 e)) h1 h2
      · simp at h2
    · simp at h1
  · obtain ⟨s1, t1⟩ := topc hk h1
    exact .inr ⟨κ, s1, .inl t1⟩
  · split at h1
    · rename_i s1; exact .inr (.inl ⟨κ, s1, .inr h1⟩)
    · simp at h1
theorem top_rows {h : Nat → Option Blk} {ν : Nat → Value} {κ : Nat} {ty sz : Nat} {es : List (List C)} (hb : h κ = some (.arr true ty sz es)) : topOf h ν κ = (ν κ).ownBlock := by
  simp [topOf, hb, topB]
open Classical in
/-- THE STATE BEHIND A CALL that wrote to given rows and to what they own. -/
theorem Rel.afterM {h2 : Nat → Option Blk} {hc' : List (Nat × Blk)} {W' : World} {ν' : Nat → Value} {F' : Nat → List Nat} {ok : Nat → Prop} {N : Nat} {γ : Nat → Value} {dst : Option Nat} {t : T} {v : Value}
    (hY : ∀ b, fr.Y b → fr.X b)
    (hr : Rel fr st a W ν F) (hR : rowsL hc) (hR' : rowsL hc') (hk : ∀ κ blk, lk κ hc = some blk → st.h (ρ κ) = some (blk.ren ρ)) (inj : ∀ κ κ', (lk κ hc).isSome = true → (lk κ' hc).isSome = true → ρ κ = ρ κ' → κ = κ')
    (hsame : ∀ κ, (lk κ hc').isSome = (lk κ hc).isSome)
    (hsl : ∀ j, (st.s j).safe) (hgl : ∀ j, (st.g j).safe) (hhl : ∀ κ blk, st.h κ = some blk → blk.safe)
    (ha : ∀ κ blk, lk κ hc' = some blk → h2 (ρ κ) = some (blk.ren ρ)) (hb : ∀ κ, (∀ κ0, (lk κ0 hc).isSome = true → ρ κ0 ≠ κ) → h2 κ = st.h κ)
    (hB : BelowX (givenB st.h ν F ρ hc) W W') (hH : HRel ⟨fr.P, W, ok, N, γ, givenB st.h ν F ρ hc, givenB st.h ν F ρ hc⟩ (fun κ => lk κ hc') W' ν' F') (hν' : ∀ κ, (lk κ hc).isSome = true → ν' κ = ν (ρ κ))
    (ht : ∀ ok ν h, T.rz fr W' ok ν h t v) (hd : ∀ d, dst = some d → d < fr.N) :
    RelE fr ⟨upd st.s dst t, h2, st.g⟩ (a.put dst v) W' := by
  let im : Nat → Prop := fun κ => ∃ κ0, (lk κ0 hc).isSome = true ∧ ρ κ0 = κ
  let F2 : Nat → List Nat := fun κ => if hi : im κ then F' hi.choose else F κ
  have F2i : ∀ κ0, (lk κ0 hc).isSome = true → F2 (ρ κ0) = F' κ0 := fun κ0 h0 => by
    have hi : im (ρ κ0) := ⟨κ0, h0, rfl⟩
    simp only [F2, dif_pos hi]
    rw [inj _ _ hi.choose_spec.1 h0 hi.choose_spec.2]
  have F2n : ∀ κ, ¬ im κ → F2 κ = F κ := fun κ hi => by simp only [F2, dif_neg hi]
  have h2n : ∀ κ, ¬ im κ → h2 κ = st.h κ := fun κ hi => hb κ fun κ0 h0 he => hi ⟨κ0, h0, he⟩
  have row : ∀ κ0, (lk κ0 hc).isSome = true → ∃ ty sz es, st.h (ρ κ0) = some (.arr true ty sz es) := fun κ0 h0 => by
    cases hl : lk κ0 hc with
    | none => simp [hl] at h0
    | some blk => have := hk κ0 _ hl; obtain ⟨ty, sz, es, rfl⟩ := rowsL_get hR hl; exact ⟨ty, sz, es, this⟩
  have row' : ∀ κ0, (lk κ0 hc).isSome = true → ∃ ty sz es, lk κ0 hc' = some (.arr true ty sz es) ∧ h2 (ρ κ0) = some (.arr true ty sz es) := fun κ0 h0 => by
    have h0' : (lk κ0 hc').isSome = true := by rw [hsame]; exact h0
    cases hl : lk κ0 hc' with
    | none => simp [hl] at h0'
    | some blk => have := ha κ0 _ hl; obtain ⟨ty, sz, es, rfl⟩ := rowsL_get hR' hl; exact ⟨ty, sz, es, rfl, this⟩
  have some2 : ∀ κ, (st.h κ).isSome = true → (h2 κ).isSome = true := fun κ hs => by
    by_cases hi : im κ
    · obtain ⟨κ0, h0, rfl⟩ := hi
      obtain ⟨_, _, _, _, h⟩ := row' κ0 h0; simp [h]
    · rw [h2n κ hi]; exact hs
  have topi : ∀ κ0, (lk κ0 hc).isSome = true → topOf h2 ν (ρ κ0) = topOf st.h ν (ρ κ0) := fun κ0 h0 => by
    obtain ⟨_, _, _, h1⟩ := row κ0 h0
    obtain ⟨_, _, _, _, h3⟩ := row' κ0 h0
    rw [top_rows h1, top_rows h3]
  have top2 : ∀ κ, topOf h2 ν κ = topOf st.h ν κ := fun κ => by
    by_cases hi : im κ
    · obtain ⟨κ0, h0, rfl⟩ := hi; exact topi κ0 h0
    · simp only [topOf, h2n κ hi]
  -- what is none of what was given
  have oth : ∀ κ b, ¬ im κ → (topOf st.h ν κ = some b ∨ b ∈ F κ) → ¬ givenB st.h ν F ρ hc b ∧ b < W.heap.size := by
    intro κ b hi hb
    refine ⟨?_, by rcases hb with hb | hb; exact (hr.top_lt hb).2; exact (hr.F_lt hb).2⟩
    rintro ⟨κ0, h0, hx⟩
    have hne : ρ κ0 ≠ κ := fun e => hi ⟨κ0, h0, e⟩
    rcases hb with hb | hb <;> rcases hx with hx | hx
    · exact hr.d1 _ _ b hne hx hb
    · exact hr.d2 _ _ b hx hb
    · exact hr.d2 _ _ b hb hx
    · exact hr.d4 _ _ b hne hx hb
  have gt : ∀ b, givenB st.h ν F ρ hc b → fr.Top b := by
    rintro b ⟨κ0, h0, hx | hx⟩
    · exact hr.n1 _ b hx
    · rcases hr.n2 _ b hx with h | h | h
      · exact .inl h
      · exact .inr h
      · exact .inr (hY b h)
  have gn : ∀ b, givenB st.h ν F ρ hc b → fr.New b := fun b hb => by
    rcases gt b hb with h | h
    · exact .inl h
    · exact .inr (.inl h)
  have fnew : ∀ κ0 b, (lk κ0 hc).isSome = true → b ∈ F' κ0 → W.heap.size ≤ b ∨ givenB st.h ν F ρ hc b := fun κ0 b h0 hb => by
    rcases hH.n2 κ0 b hb with h | h | h
    · exact .inl h
    · exact .inr h
    · exact .inr h
  have mem : ∀ κ b, ¬ im κ → (topOf st.h ν κ = some b ∨ b ∈ F κ) → W'.heap[b]? = W.heap[b]? := fun κ b hi hb => hB.block b (oth κ b hi hb).2 (oth κ b hi hb).1
  have ft : ∀ κ0 κ b, (lk κ0 hc).isSome = true → b ∈ F' κ0 → topOf h2 ν κ ≠ some b := by
    intro κ0 κ b h0 hb1 hb2
    by_cases hi : im κ
    · obtain ⟨κ1, h1, rfl⟩ := hi
      obtain ⟨_, _, _, g1, g2⟩ := row' κ1 h1
      refine hH.d2 κ0 κ1 b hb1 ?_
      rw [top_rows (h := fun κ => lk κ hc') g1, hν' κ1 h1, ← top_rows g2]; exact hb2
    · rw [top2] at hb2
      obtain ⟨e1, e2⟩ := oth κ b hi (.inl hb2)
      rcases fnew κ0 b h0 hb1 with h | h
      · omega
      · exact e1 h
  refine ⟨ν, F2, ?_⟩
  constructor
  · rw [put_defers]; exact hr.defers
  · rw [put_size]; exact hr.size
  · exact ⟨hB.os.trans hr.below.os, hB.tape.trans hr.below.tape, hB.output.trans hr.below.output, Nat.le_trans hr.below.size hB.size, Nat.le_trans hr.below.drawn hB.drawn, fun b hlt hx =>
      (hB.block b (Nat.lt_of_lt_of_le hlt hr.below.size) fun hg => by rcases gt b hg with h | h; omega; exact hx h).trans (hr.below.block b hlt hx)⟩
  · exact hr.ok0
  · intro j
    rw [put_get a dst v j (by rw [hr.size]; exact hd)]
    by_cases hj : dst = some j
    · subst hj; simpa [upd] using ht _ _ _
    · rw [if_neg hj]
      have : (upd st.s dst t) j = st.s j := by
        cases dst with
        | none => rfl
        | some d => simp only [upd]; rw [if_neg (fun e => hj (by rw [e]))]
      show T.rz fr W' _ ν _ (upd st.s dst t j) _
      rw [this]
      exact T.rz_safe (fun _ _ => rfl) some2 _ _ (hsl j) (hr.slots j)
  · exact fun j => T.rz_safe (fun _ _ => rfl) some2 _ _ (hgl j) (hr.ghosts j)
  · intro κ blk hb'
    have hb' : h2 κ = some blk := hb'
    by_cases hi : im κ
    · obtain ⟨κ0, h0, rfl⟩ := hi
      obtain ⟨ty, sz, es, g1, g2⟩ := row' κ0 h0
      rw [g2] at hb'
      obtain rfl := Option.some.inj hb'
      have := hH.heap κ0 _ g1
      simp only [Blk.rz, Fr.B, hν' κ0 h0] at this ⊢
      rw [F2i κ0 h0]
      exact this
    · rw [h2n κ hi] at hb'
      rw [F2n κ hi]
      exact Blk.rz_safe (hhl κ blk hb') (fun _ _ => rfl) some2 rfl (fun b hbt => mem κ b hi (.inl (by rw [topOf, hb']; exact hbt))) (fun b hbf => mem κ b hi (.inr hbf)) (hr.heap κ blk hb')
  · intro κ hn
    have hn : h2 κ = none := hn
    by_cases hi : im κ
    · obtain ⟨κ0, h0, rfl⟩ := hi
      obtain ⟨_, _, _, _, g2⟩ := row' κ0 h0
      rw [g2] at hn; cases hn
    · rw [F2n κ hi]; exact hr.none_ κ (by rw [← h2n κ hi]; exact hn)
  · intro κ κ' b hne e1 e2
    have e1 : topOf h2 ν κ = some b := e1
    have e2 : topOf h2 ν κ' = some b := e2
    rw [top2] at e1 e2
    exact hr.d1 κ κ' b hne e1 e2
  · intro κ κ' b e1 e2
    have e2 : topOf h2 ν κ' = some b := e2
    by_cases hi : im κ
    · obtain ⟨κ0, h0, rfl⟩ := hi
      rw [F2i κ0 h0] at e1
      exact ft κ0 κ' b h0 e1 e2
    · rw [F2n κ hi] at e1
      rw [top2] at e2
      exact hr.d2 κ κ' b e1 e2
  · intro κ
    by_cases hi : im κ
    · obtain ⟨κ0, h0, rfl⟩ := hi
      rw [F2i κ0 h0]; exact hH.d3 κ0
    · rw [F2n κ hi]; exact hr.d3 κ
  · intro κ κ' b hne e1 e2
    by_cases hi : im κ
    · obtain ⟨κ0, h0, rfl⟩ := hi
      rw [F2i κ0 h0] at e1
      by_cases hi' : im κ'
      · obtain ⟨κ1, h1, rfl⟩ := hi'
        rw [F2i κ1 h1] at e2
        exact hH.d4 κ0 κ1 b (fun e => hne (by rw [e])) e1 e2
      · rw [F2n κ' hi'] at e2
        obtain ⟨g1, g2⟩ := oth κ' b hi' (.inr e2)
        rcases fnew κ0 b h0 e1 with h | h
        · omega
        · exact g1 h
    · rw [F2n κ hi] at e1
      by_cases hi' : im κ'
      · obtain ⟨κ1, h1, rfl⟩ := hi'
        rw [F2i κ1 h1] at e2
        obtain ⟨g1, g2⟩ := oth κ b hi (.inr e1)
        rcases fnew κ1 b h1 e2 with h | h
        · omega
        · exact g1 h
      · rw [F2n κ' hi'] at e2
        exact hr.d4 κ κ' b hne e1 e2
  · intro κ b e1
    have e1 : topOf h2 ν κ = some b := e1
    rw [top2] at e1
    exact hr.n1 κ b e1
  · intro κ b e1
    by_cases hi : im κ
    · obtain ⟨κ0, h0, rfl⟩ := hi
      rw [F2i κ0 h0] at e1
      rcases fnew κ0 b h0 e1 with h | h
      · exact .inl (Nat.le_trans hr.below.size h)
      · exact gn b h
    · rw [F2n κ hi] at e1; exact hr.n2 κ b e1
/-- A CALL that writes to given rows and to what they own. -/
theorem stepM {o : Oper} {x : Operand} {args : Array Operand} {ats : Array Nat} {f : Nat} {ts : List T} {dp : Bool} {h2 : Nat → Option Blk} {hc' : List (Nat × Blk)} {t : T} (ρ : Nat → Nat) (hY : ∀ b, fr.Y b → fr.X b)
    (ho : o.op = .call { callee := .value x, args := args, argTypes := ats }) (hx : opd st.s x = .clo f []) (hs : SatG fr.P f dp ts hc t hc')
    (hargs : args.toList.map (opd st.s) = Ts.ren ρ ts) (hp : Ts.plain hc ts)
    (hR : rowsL hc) (hR' : rowsL hc') (hk : ∀ κ blk, lk κ hc = some blk → st.h (ρ κ) = some (blk.ren ρ)) (inj : ∀ κ κ', (lk κ hc).isSome = true → (lk κ' hc).isSome = true → ρ κ = ρ κ' → κ = κ')
    (hsame : ∀ κ, (lk κ hc').isSome = (lk κ hc).isSome)
    (hsl : ∀ j, (st.s j).safe) (hgl : ∀ j, (st.g j).safe) (hhl : ∀ κ blk, st.h κ = some blk → blk.safe)
    (ha : ∀ κ blk, lk κ hc' = some blk → h2 (ρ κ) = some (blk.ren ρ)) (hb : ∀ κ, (∀ κ0, (lk κ0 hc).isSome = true → ρ κ0 ≠ κ) → h2 κ = st.h κ)
    (ht : numT t) (hd : ∀ d, o.dst = some d → d < fr.N) :
    StepS fr o st ⟨upd st.s o.dst t, h2, st.g⟩ := by
  rintro a W ⟨ν, F, hr⟩ Q K hK
  have hv := hr.opd x
  rw [hx] at hv
  simp only [T.rz, Ts.rz] at hv
  obtain ⟨us, hv, rfl⟩ := hv
  have hvs : Ts.rz fr W (okOf fr W st.h ν) ν st.h (Ts.ren ρ ts) (args.toList.map a.eval) := by
    rw [← hargs]
    have : ∀ l : List Operand, Ts.rz fr W (okOf fr W st.h ν) ν st.h (l.map (Vm.opd st.s)) (l.map a.eval) := by
      intro l; induction l with
      | nil => simp [Ts.rz]
      | cons y l ih => simp only [List.map_cons, Ts.rz]; exact ⟨_, _, rfl, hr.opd y, ih⟩
    exact this _
  refine wp_call (R := fun _ _ => True) ho hv hs.1 ?_
  have h4 := hs.2 W (fun _ => False) (givenB st.h ν F ρ hc) (givenB st.h ν F ρ hc) (args.toList.map a.eval) (fun κ => ν (ρ κ)) (fun κ => if (lk κ hc).isSome = true then F (ρ κ) else []) 0 (fun _ => undef) (fun b hb => hb.elim) (fun _ b hb => hb)
    (hr.givenM hR hk inj _ _ _) (Ts.rz_ren ts _ hp hvs)
  rw [show (args.map a.eval ++ ([] : List Value).toArray) = (args.toList.map a.eval).toArray by apply Array.ext'; simp]
  refine h4.mono fun e W' ⟨hB, v, ν', F', he, hT, hH, hν'⟩ => ⟨v, he, hK v W' ?_⟩
  exact hr.afterM hY hR hR' hk inj hsame hsl hgl hhl ha hb hB hH hν' (fun _ _ _ => numT_rz ht hT) hd
end
theorem cst_put {sl gl : List (Nat × T)} {hl : List (Nat × Blk)} {d : Nat} {t : T} : (⟨upd (fun j => lkT j sl) (some d) t, fun κ => lk κ hl, fun j => lkT j gl⟩ : St) = cst ((d, t) :: sl) hl gl := by
  unfold cst
  congr 1
def sameK : List (Nat × Blk) → List (Nat × Blk) → Prop
  | [], [] => True
  | (k, _) :: r, (k', _) :: r' => k = k' ∧ sameK r r'
  | _, _ => False
theorem sameK_some {κ : Nat} : ∀ {l l' : List (Nat × Blk)}, sameK l l' → (lk κ l').isSome = (lk κ l).isSome
  | [], [], _ => rfl
  | [], _ :: _, h => by simp [sameK] at h
  | _ :: _, [], h => by simp [sameK] at h
  | (k, b) :: r, (k', b') :: r', h => by
    obtain ⟨rfl, h⟩ := h
    simp only [lk]
    split
    · rfl
    · exact sameK_some h
/-- What is to be shown of an operation that turns the whole state, and of those behind it. -/
def contM (c : Cx) (n : Nat) (o : Oper) (post : List Oper) (st1 : St) : Prop := ∃ st2, StepS c.E.fr o st1 st2 ∧ vops c n post [] st2
theorem ev_regionC {E : Env} {R : Exit → Act → World → Prop} {ks : List Fm} {st : St} {id : Nat} {pre post : List Oper} {o : Oper} (hE : E.Ok) (ho : o.guard = none) (hs : statB E.fr.N false (pre ++ o :: post).toArray = true)
    (h : vops ⟨E, (pre ++ o :: post).toArray, id, false, contM ⟨E, (pre ++ o :: post).toArray, id, false, ev E R ks⟩ (pre.length + 1) o post⟩ 0 pre [] st) :
    ev E R (.code (.region id (pre ++ o :: post).toArray false) :: ks) st := ev_regionM hE ho hs h
/-- THE CALL, from a state written down. -/
theorem callM_of {c : Cx} {n : Nat} {post : List Oper} {st1 : St} {o : Oper} {x : Operand} {args : Array Operand} {ats : Array Nat} {f d : Nat} {dp : Bool} {t : T} {P : Program} (rl : List (Nat × Nat)) (ρ0 : List (Nat × Option Nat))
    (sl : List (Nat × T)) (hl : List (Nat × Blk)) (gl : List (Nat × T)) {ts : List T} {hc hc' : List (Nat × Blk)} (hP : c.E.fr.P = P) (hs : SatG P f dp ts hc t hc') (hY : ∀ b, c.E.fr.Y b → c.E.fr.X b)
    (ho : o.op = .call { callee := .value x, args := args, argTypes := ats }) (hod : o.dst = some d) (hdN : d < c.E.fr.N) (hsim : Sim ρ0 st1 sl hl gl)
    (hx : opd (fun j => lkT j sl) x = .clo f []) 
    (hargs : args.toList.map (opd fun j => lkT j sl) = Ts.ren (rhoOf rl 0) ts) (hq : Ts.plain hc ts ∧ rowsL hc ∧ rowsL hc' ∧ sameK hc hc' ∧ givs (fun κ => lk κ hl) (rhoOf rl 0) hc ∧ numT t ∧ safeL sl ∧ safeL gl ∧ safeH hl) (hnd : (keysR (rhoOf rl 0) hc).Nodup)
    (h : vops c n post [] (cst ((d, t) :: sl) (renL (rhoOf rl 0) hc' ++ hl) gl)) :
    contM c n o post st1 := by
  obtain ⟨hp, hR, hR', hsk, hg, ht, h1, h2, h3⟩ := hq
  subst hP
  refine ⟨_, ?_, h⟩
  have inj := nodup_renL (hc := hc) (ρ := rhoOf rl 0) hnd
  have hsame : ∀ κ, (lk κ hc').isSome = (lk κ hc).isSome := fun κ => sameK_some hsk
  have key := stepM (fr := c.E.fr) (st := cst sl hl gl) (o := o) (h2 := fun κ => lk κ (renL (rhoOf rl 0) hc' ++ hl)) (hc := hc) (hc' := hc') (rhoOf rl 0) hY ho hx hs hargs hp hR hR' (fun κ b hb => givs_get hg κ b hb) inj hsame (fun j => safeL_get h1) (fun j => safeL_get h2) (fun κ blk hk => safeH_get h3 hk)
    (fun κ blk hb => by
      rw [lk_append, lk_renL (fun κ' h' e => inj κ κ' (by rw [← hsame, hb]; rfl) (by rw [← hsame]; exact h') e) hb]; rfl)
    (fun κ hn => by
      show lk κ (renL (rhoOf rl 0) hc' ++ hl) = lk κ hl
      rw [lk_append]
      cases hl' : lk κ (renL (rhoOf rl 0) hc') with
      | none => rfl
      | some b =>
        obtain ⟨κ0, e1, e2⟩ := lk_renL_some (hc := hc') (by rw [hl']; rfl)
        exact absurd e2 (hn κ0 (by rw [← hsame]; exact e1))) ht (fun d' hd' => by rw [hod] at hd'; cases hd'; exact hdN)
  rw [hod] at key
  have e : (⟨upd (cst sl hl gl).s (some d) t, fun κ => lk κ (renL (rhoOf rl 0) hc' ++ hl), (cst sl hl gl).g⟩ : St) = cst ((d, t) :: sl) (renL (rhoOf rl 0) hc' ++ hl) gl := cst_put
  rw [e] at key
  exact fun a W hr => key a W (hr.weak hsim)
/-- THE CONTRACT out of a walk in which the arguments live on, and nothing is given. -/
theorem sat_walkB {P : Program} {f : Nat} {fn : Func} {c : Code} {gs : List Arg} {own : Bool} {rs : List Dat} (hf : P.funcs[f]? = some fn) (hb : fn.body = some c) (hn : (fn.name == "runtime.NumGoroutine") = false) (hN : gs.length ≤ fn.ntmps)
    (H : ∀ fr : Fr, fr.P = P → fr.N = fn.ntmps → (∀ b, fr.Y b → fr.X b) → Args.bnd gs → ev (envOf fr P) (finR fr fn own rs) [.code c] (entA gs)) : Sat P f gs own rs := by
  refine ⟨⟨fn, hf, by simp [hb], hn⟩, fun W ok vs hok hr => ?_⟩
  have hbnd := Args.rz_bnd hr
  refine calls_of_wp hf hb ?_
  have := H ⟨P, W, ok, fn.ntmps, fun _ => undef, fun _ => False, fun _ => False⟩ rfl rfl (fun _ h => h) hbnd _ W (entA_rel hok hr hN)
  exact wp_mono this fun e a W h => fin_plain (fun _ h => h) (fun _ h => h) h
/-- Where a walk is to stop: ahead of a region. -/
structure Stop (p : Prop) : Prop where
  h : p
theorem ev_stop {E : Env} {R : Exit → Act → World → Prop} {ks : List Fm} {st : St} {ops : Array Oper} {b : Bool} (id : Nat) (h : Stop (ev E R (.code (.region id ops b) :: ks) st)) : ev E R (.code (.region id ops b) :: ks) st := h.h
attribute [go_sem] Blk.opn.injEq safeL safeH freshL T.safe Ts.safe Blk.safe T.plain Ts.plain rowsL isRow numT sameK
end Go.Vm
