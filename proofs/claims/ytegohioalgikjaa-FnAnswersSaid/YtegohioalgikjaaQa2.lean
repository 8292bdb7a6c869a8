/- Contracts of functions that FnAnswers reaches: what each returns; it writes to nothing of old. No condition but those that each theorem states. -/
import Derived.Test.YtegohioalgikjaaQa1
open Go Go.Vm Go.Proofs Go.IntWalk Go.RowKit
set_option maxRecDepth 100000
set_option maxHeartbeats 4000000
set_option linter.unusedSimpArgs false
set_option linter.unusedVariables false
set_option linter.unusedSectionVars false
namespace Go.Proofs.Ytegohioalgikjaa.W
attribute [local irreducible] kJ ev evx vops vstep vgo vgd vget vcall vcallFn vcallA vcallB vts vres vcond vbin
theorem firstF_all {α : Type} {f : α → Int} : ∀ {xs : List α}, (∀ x ∈ xs, f x = 0) → firstF f xs = 0
  | [], _ => rfl
  | x :: xs, h => by
    unfold firstF
    rw [if_pos (h x (by simp))]
    exact firstF_all fun y hy => h y (by simp [hy])
theorem dupAt_iff {xs : List Entry} {b : Nat} (hb : b < xs.length) : dupAt xs b = true ↔ ∃ a, a < b ∧ (xs.getD a default).ref = (xs.getD b default).ref := by
  unfold dupAt
  rw [List.any_eq_true]
  constructor
  · rintro ⟨x, hx, he⟩
    obtain ⟨a, ha, rfl⟩ := List.mem_iff_getElem.1 hx
    rw [List.length_take] at ha
    refine ⟨a, by omega, ?_⟩
    rw [getD_lt (show a < xs.length by omega)]
    simpa using he
  · rintro ⟨a, ha, he⟩
    have hl : a < (xs.take b).length := by rw [List.length_take]; omega
    refine ⟨(xs.take b)[a], List.getElem_mem hl, ?_⟩
    rw [List.getElem_take, ← getD_lt (show a < xs.length by omega)]
    simpa using he
theorem noDup_iff {xs : List Entry} : noDup xs = true ↔ ∀ a b, a < b → b < xs.length → (xs.getD a default).ref ≠ (xs.getD b default).ref := by
  unfold noDup
  rw [allLt_iff]
  constructor
  · intro h a b hab hb he
    have h1 := h b hb
    have h2 := (dupAt_iff hb).2 ⟨a, hab, he⟩
    rw [h2] at h1; cases h1
  · intro h b hb
    cases hq : dupAt xs b with
    | false => rfl
    | true =>
      obtain ⟨a, hab, he⟩ := (dupAt_iff hb).1 hq
      exact absurd he (h a b hab hb)
theorem noDup_nodup {xs : List Entry} : noDup xs = true ↔ (xs.map (·.ref)).Nodup := by
  rw [noDup_iff, List.nodup_iff_pairwise_ne, List.pairwise_iff_getElem]
  constructor
  · intro h i j hi hj hij
    rw [List.length_map] at hi hj
    have := h i j hij hj
    rw [getD_lt hi, getD_lt hj] at this
    simpa using this
  · intro h a b hab hb
    have := h a b (by rw [List.length_map]; omega) (by rw [List.length_map]; omega) hab
    rw [getD_lt (show a < xs.length by omega), getD_lt hb]
    simpa using this
theorem nf_iff {n : Node} {d : Int} : nf n d = 0 ↔ (inB d 2 3 && inB n.level 0 6 && inB n.nsn 0 100000 && inB n.right (-1) 39) = true ∧ n.entries.length ≤ 5 ∧ (∀ x ∈ n.entries, entryF d x = 0) ∧ (∀ x ∈ n.entries, fits n.level x = true) ∧ noDup n.entries = true := by
  constructor
  · intro h
    unfold nf at h
    split at h
    · omega
    rename_i h1
    split at h
    · omega
    rename_i h2
    split at h
    · rename_i h3; exact absurd h h3
    rename_i h3
    split at h
    · omega
    rename_i h4
    split at h
    · rename_i h5
      exact ⟨by rw [Bool.not_eq_false] at h1; exact h1, by omega, firstF_zero (by simpa using h3), by simpa using h4, h5⟩
    · omega
  · rintro ⟨h1, h2, h3, h4, h5⟩
    unfold nf
    rw [if_neg (by rw [h1]; simp), if_neg (by omega), if_neg (by rw [firstF_all h3]; simp), if_neg (by rw [List.all_eq_true.2 h4]; simp), if_pos h5]
theorem findRef_none {xs : List Entry} {r : Int} : findRef xs r < 0 ↔ ∀ x ∈ xs, x.ref ≠ r := by
  unfold findRef
  split
  · rename_i h
    obtain ⟨x, hx, he⟩ := List.any_eq_true.1 h
    constructor
    · intro h; omega
    · intro h; exact absurd (by simpa using he) (h x hx)
  · rename_i h
    constructor
    · intro _ x hx he
      exact h (List.any_eq_true.2 ⟨x, hx, by simpa using he⟩)
    · intro _; omega
theorem findRef_here {xs : List Entry} {i : Nat} {r : Int} (h : noDup xs = true) (hi : i < xs.length) (hr : (xs.getD i default).ref = r) : findRef xs r = i := by
  subst hr
  rw [findRef_self hi]
  cases hq : dupAt xs i with
  | false => rfl
  | true =>
    obtain ⟨a, ha, he⟩ := (dupAt_iff hi).1 hq
    exact absurd he (noDup_iff.1 h a i ha hi)
theorem weC_zero {n : Node} {d : Int} {e : Entry} (h : weC n d e = 0) : nf n d = 0 ∧ entryF d e = 0 ∧ fits n.level e = true ∧ findRef n.entries e.ref < 0 ∧ n.entries.length ≤ 4 := by
  unfold weC at h
  split at h
  · rename_i h1; exact absurd h h1
  rename_i h1
  split at h
  · rename_i h2; exact absurd h h2
  rename_i h2
  (repeat' split at h) <;> first | omega | skip
  rename_i h3 h4 h5
  exact ⟨by simpa using h1, by simpa using h2, by simpa using h3, by omega, by omega⟩
theorem nf_with {n : Node} {d : Int} {e : Entry} (h : weC n d e = 0) : nf ⟨n.level, n.nsn, n.right, n.entries ++ [e]⟩ d = 0 := by
  obtain ⟨h1, h2, h3, h4, h5⟩ := weC_zero h
  obtain ⟨g1, g2, g3, g4, g5⟩ := nf_iff.1 h1
  refine nf_iff.2 ⟨g1, by simp; omega, fun x hx => ?_, fun x hx => ?_, ?_⟩
  · rcases List.mem_append.1 hx with hx | hx
    · exact g3 x hx
    · rw [List.mem_singleton.1 hx]; exact h2
  · rcases List.mem_append.1 hx with hx | hx
    · exact g4 x hx
    · rw [List.mem_singleton.1 hx]; exact h3
  · rw [noDup_nodup] at g5 ⊢
    simp only [List.map_append, List.map_cons, List.map_nil]
    rw [List.nodup_append]
    refine ⟨g5, by simp, fun a ha b hb => ?_⟩
    obtain ⟨x, hx, rfl⟩ := List.mem_map.1 ha
    simp only [List.mem_cons, List.not_mem_nil, or_false] at hb
    subst hb
    exact findRef_none.1 h4 x hx
theorem without_sub (xs : List Entry) (i : Nat) : (xs.take i ++ xs.drop (i + 1)).Sublist xs := by
  conv => rhs; rw [← List.take_append_drop i xs]
  refine List.Sublist.append (List.Sublist.refl _) ?_
  have : xs.drop (i + 1) = (xs.drop i).drop 1 := by rw [List.drop_drop]
  rw [this]; exact List.drop_sublist _ _
theorem nf_without {n : Node} {d : Int} (i : Nat) (h : nf n d = 0) : nf ⟨n.level, n.nsn, n.right, n.entries.take i ++ n.entries.drop (i + 1)⟩ d = 0 := by
  obtain ⟨g1, g2, g3, g4, g5⟩ := nf_iff.1 h
  have hs := without_sub n.entries i
  exact nf_iff.2 ⟨g1, Nat.le_trans hs.length_le g2, fun x hx => g3 x (hs.subset hx), fun x hx => g4 x (hs.subset hx), noDup_nodup.2 ((hs.map _).nodup (noDup_nodup.1 g5))⟩
theorem without_gone {xs : List Entry} {i : Nat} {r : Int} (h : noDup xs = true) (hi : i < xs.length) (hr : (xs.getD i default).ref = r) : findRef (xs.take i ++ xs.drop (i + 1)) r < 0 := by
  rw [← filterE_one h hi hr, findRef_none]
  intro x hx
  simpa using (List.mem_filter.1 hx).2
theorem without_len {xs : List Entry} {i : Nat} (hi : i < xs.length) : (xs.take i ++ xs.drop (i + 1)).length = xs.length - 1 := by
  simp; omega
/-- Whether an entry may stand ahead of another one along an axis. -/
def leE (ax : Nat) (a b : Entry) : Bool := decide (a.rect.low.getD ax default < b.rect.low.getD ax default) || (decide (a.rect.low.getD ax default = b.rect.low.getD ax default) && decide (a.rect.high.getD ax default ≤ b.rect.high.getD ax default))
def sortE (ax : Nat) (xs : List Entry) : List Entry := sortL (leE ax) xs
def cmpE (ax : Nat) (a b : Entry) : Int := if cmpI (a.rect.low.getD ax default) (b.rect.low.getD ax default) ≠ 0 then cmpI (a.rect.low.getD ax default) (b.rect.low.getD ax default) else cmpI (a.rect.high.getD ax default) (b.rect.high.getD ax default)
theorem cmpI_neg (a b : Int) : cmpI a b < 0 ↔ a < b := by unfold cmpI; (repeat' split) <;> omega
theorem cmpI_zero (a b : Int) : cmpI a b = 0 ↔ a = b := by unfold cmpI; (repeat' split) <;> omega
theorem cmpE_neg (ax : Nat) (a b : Entry) : decide (cmpE ax a b < 0) = !leE ax b a := by
  unfold cmpE leE
  have h1 := cmpI_neg (a.rect.low.getD ax default) (b.rect.low.getD ax default)
  have h2 := cmpI_zero (a.rect.low.getD ax default) (b.rect.low.getD ax default)
  have h3 := cmpI_neg (a.rect.high.getD ax default) (b.rect.high.getD ax default)
  generalize cmpI (a.rect.low.getD ax default) (b.rect.low.getD ax default) = u at *
  generalize cmpI (a.rect.high.getD ax default) (b.rect.high.getD ax default) = v at *
  generalize a.rect.low.getD ax default = p at *
  generalize b.rect.low.getD ax default = q at *
  generalize a.rect.high.getD ax default = r at *
  generalize b.rect.high.getD ax default = s at *
  rw [Bool.eq_iff_iff]
  simp only [decide_eq_true_eq, Bool.not_eq_true', Bool.or_eq_false_iff, decide_eq_false_iff_not, Bool.and_eq_false_iff]
  split <;> omega
theorem leE_tr (ax : Nat) : ∀ x y z, leE ax x y = true → leE ax y z = true → leE ax x z = true := fun x y z h1 h2 => by
  unfold leE at *
  simp only [Bool.or_eq_true, Bool.and_eq_true, decide_eq_true_eq] at *
  omega
theorem leE_tot (ax : Nat) : ∀ x y, leE ax x y = false → leE ax y x = true := fun x y h => by
  unfold leE at *
  simp only [Bool.or_eq_true, Bool.and_eq_true, decide_eq_true_eq, Bool.or_eq_false_iff, decide_eq_false_iff_not, Bool.and_eq_false_iff] at *
  omega
theorem sortE_perm (ax : Nat) (xs : List Entry) : (sortE ax xs).Perm xs := sortL_perm xs
theorem sortE_len (ax : Nat) (xs : List Entry) : (sortE ax xs).length = xs.length := (sortE_perm ax xs).length_eq
theorem sortE_step (ax : Nat) {xs : List Entry} {k : Nat} (h : k < xs.length) : sortE ax (xs.take (k + 1)) = insL (leE ax) (sortE ax (xs.take k)) (xs.getD k default) := by
  rw [take_step (d := default) h]; exact sortL_snoc _ _
/-- Whether a pair may stand ahead of another one, seen from a point. -/
def leP (p : List Int) (a b : Pair) : Bool := decide (dist a.rect p < dist b.rect p) || (decide (dist a.rect p = dist b.rect p) && decide (a.id ≤ b.id))
def sortP (p : List Int) (xs : List Pair) : List Pair := sortL (leP p) xs
def cmpP (p : List Int) (a b : Pair) : Int := if cmpI (dist a.rect p) (dist b.rect p) ≠ 0 then cmpI (dist a.rect p) (dist b.rect p) else cmpI a.id b.id
theorem cmpP_neg (p : List Int) (a b : Pair) : decide (cmpP p a b < 0) = !leP p b a := by
  unfold cmpP leP
  have h1 := cmpI_neg (dist a.rect p) (dist b.rect p)
  have h2 := cmpI_zero (dist a.rect p) (dist b.rect p)
  have h3 := cmpI_neg a.id b.id
  generalize cmpI (dist a.rect p) (dist b.rect p) = u at *
  generalize cmpI a.id b.id = v at *
  generalize dist a.rect p = x at *
  generalize dist b.rect p = y at *
  rw [Bool.eq_iff_iff]
  simp only [decide_eq_true_eq, Bool.not_eq_true', Bool.or_eq_false_iff, decide_eq_false_iff_not, Bool.and_eq_false_iff]
  split <;> omega
theorem leP_tr (p : List Int) : ∀ x y z, leP p x y = true → leP p y z = true → leP p x z = true := fun x y z h1 h2 => by
  unfold leP at *
  simp only [Bool.or_eq_true, Bool.and_eq_true, decide_eq_true_eq] at *
  omega
theorem leP_tot (p : List Int) : ∀ x y, leP p x y = false → leP p y x = true := fun x y h => by
  unfold leP at *
  simp only [Bool.or_eq_true, Bool.and_eq_true, decide_eq_true_eq, Bool.or_eq_false_iff, decide_eq_false_iff_not, Bool.and_eq_false_iff] at *
  omega
theorem leP_id {p : List Int} {a b : Pair} (h1 : leP p a b = true) (h2 : leP p b a = true) : a.id = b.id := by
  unfold leP at *
  simp only [Bool.or_eq_true, Bool.and_eq_true, decide_eq_true_eq] at *
  omega
theorem sortP_perm (p : List Int) (xs : List Pair) : (sortP p xs).Perm xs := sortL_perm xs
theorem sortP_len (p : List Int) (xs : List Pair) : (sortP p xs).length = xs.length := (sortP_perm p xs).length_eq
theorem sortP_step (p : List Int) {xs : List Pair} {k : Nat} (h : k < xs.length) : sortP p (xs.take (k + 1)) = insL (leP p) (sortP p (xs.take k)) (xs.getD k default) := by
  rw [take_step (d := default) h]; exact sortL_snoc _ _
/-- That no id occurs twice. -/
def Ids (xs : List Pair) : Prop := ∀ i j, i < j → j < xs.length → (xs.getD i default).id ≠ (xs.getD j default).id
def semP (p : List Int) (xs : List Pair) (ds rs : List Dat) : Prop := ∃ a ∈ xs, ∃ b ∈ xs, ds = [(true, eP a), (true, eP b)] ∧ rs = [(false, [.int .i64 (cmpP p a b)])]
theorem cmpP_swo (p : List Int) {α : Type} (f : α → Pair) : Go.Sort.SWO (ltOf fun i j : α => cmpP p (f i) (f j)) where
  irrefl x := by show decide (cmpP p _ _ < 0) = false; rw [cmpP_neg]; have := leP_tot p (f x) (f x); cases h : leP p (f x) (f x) <;> simp_all
  trans x y z h1 h2 := by
    show decide (cmpP p _ _ < 0) = true
    have h1 : decide (cmpP p (f x) (f y) < 0) = true := h1
    have h2 : decide (cmpP p (f y) (f z) < 0) = true := h2
    rw [cmpP_neg] at *
    cases h : leP p (f z) (f x) with
    | false => rfl
    | true =>
      have h3 := leP_tr p _ _ _ h (leP_tot p (f y) (f x) (by simpa using h1))
      rw [h3] at h2; cases h2
  ntrans x y z h1 h2 := by
    show decide (cmpP p _ _ < 0) = false
    have h1 : decide (cmpP p (f x) (f y) < 0) = false := h1
    have h2 : decide (cmpP p (f y) (f z) < 0) = false := h2
    rw [cmpP_neg] at *
    have := leP_tr p _ _ _ (show leP p (f z) (f y) = true by simpa using h2) (by simpa using h1)
    simp [this]
theorem s_nearFirst1 (a b : Pair) (p : List Int) (g1 : Good a.rect p) (g2 : Good b.rect p) : Sat Try.prog 122 [.d (true, eP a), .d (true, eP b), .pv [sI p]] true (rI (cmpP p a b)) := by
  refine sat_walk (fn := Try.f122) rfl rfl rfl (Nat.le_of_ble_eq_true rfl) fun fr hP hN hbnd => ?_
  have hE : (envOf fr Try.prog).Ok := envOf_ok hP
  have hM := follows_of hP
  have hS : ∀ {draw ops}, statB Try.f122.ntmps draw ops = true → statB (envOf fr Try.prog).fr.N draw ops = true := fun h => by rw [envOf_fr, hN]; exact h
  have c0 := s_implDist a.rect p g1
  have c00 := s_implDist b.rect p g2
  have c1 := s_Compare (dist a.rect p) (dist b.rect p)
  have c2 := s_Compare a.id b.id
  have c3 := s_Or (cmpI (dist a.rect p) (dist b.rect p)) (cmpI a.id b.id)
  repeat' (first
    | exact True.intro
    | refine ev_seq ?_
    | ((first | refine vgd_go ?_ | refine ev_region hE hM (hS (by decide +kernel)) ?_ | refine ev_if ?_ | refine end_ret hE rfl rfl ?_ | refine end_norm hE rfl rfl ?_ | refine endG_ret [] hE rfl ?_ | refine endG_norm [] hE rfl ?_ | refine vcallB_of hP c0 ?_ | refine vcallB_of hP c00 ?_ | refine vcallB_of hP c1 ?_ | refine vcallB_of hP c2 ?_ | refine vcallB_of hP c3 ?_ | refine vcall_A ?_); simp (maxSteps := 2000000) only [go_sem, hP, ↓reduceIte, Nat.reduceAdd, Nat.reduceMul, Nat.reduceEqDiff, Nat.reduceSub, Nat.reduceLeDiff, reduceCtorEq])
    | refine ev_skip ?_ | refine ev_block ?_ | refine ev_blk ?_ | refine ev_ret ?_ | refine ev_exit ?_ | refine evx_code_ret ?_ | refine evx_blk_ret ?_ | refine evx_lp_ret ?_
    | refine evx_code_exit ?_ | refine evx_lp_exit ?_ | refine evx_blk_hit ?_ | refine evx_blk_pass (by decide) ?_
    | refine And.intro ?_ ?_ | intro _ | decide +kernel | omega)
  all_goals first | (simp [cmpP]; done) | omega | (simp_all; done) | trace_state
theorem s_nearFirst (p : List Int) : SatG Try.prog 97 false [.c (sI p)] [] (.clo 122 [.ptr 1 0]) [(1, .box [.c (sI p)])] := by
  refine satG_walk (fn := Try.f97) rfl rfl rfl (Nat.le_of_ble_eq_true rfl) (by simp) fun fr hP hN hdp hb1 hb2 => ?_
  have hE : (envOf fr Try.prog).Ok := envOf_ok hP
  have hM := follows_of hP
  have hS : ∀ {draw ops}, statB Try.f97.ntmps draw ops = true → statB (envOf fr Try.prog).fr.N draw ops = true := fun h => by rw [envOf_fr, hN]; exact h
  repeat' (first
    | exact True.intro
    | refine ev_seq ?_
    | ((first | refine endG_ret [(1, some 0)] hE rfl ?_ | refine vgd_go ?_ | refine ev_region hE hM (hS (by decide +kernel)) ?_ | refine ev_if ?_ | refine end_ret hE rfl rfl ?_ | refine end_norm hE rfl rfl ?_ | refine endG_ret [] hE rfl ?_ | refine endG_norm [] hE rfl ?_ | refine vcall_A ?_); simp (maxSteps := 2000000) only [go_sem, hP, ↓reduceIte, Nat.reduceAdd, Nat.reduceMul, Nat.reduceEqDiff, Nat.reduceSub, Nat.reduceLeDiff, reduceCtorEq])
    | refine ev_skip ?_ | refine ev_block ?_ | refine ev_blk ?_ | refine ev_ret ?_ | refine ev_exit ?_ | refine evx_code_ret ?_ | refine evx_blk_ret ?_ | refine evx_lp_ret ?_
    | refine evx_code_exit ?_ | refine evx_lp_exit ?_ | refine evx_blk_hit ?_ | refine evx_blk_pass (by decide) ?_
    | refine And.intro ?_ ?_ | intro _ | decide +kernel | omega)
  all_goals first | (simp [simTs, simT, lk, ren]; done) | trace_state
theorem s_l2Nearer (a b : Pair) (p : List Int) (g1 : Good a.rect p) (g2 : Good b.rect p) (hd : a.id ≠ b.id) : Sat Try.prog 126 [.d (false, [sI p]), .pv (eP a), .pv (eP b)] true (rB (leP p a b)) := by
  refine sat_walk (fn := Try.f126) rfl rfl rfl (Nat.le_of_ble_eq_true rfl) fun fr hP hN hbnd => ?_
  have hE : (envOf fr Try.prog).Ok := envOf_ok hP
  have hM := follows_of hP
  have hS : ∀ {draw ops}, statB Try.f126.ntmps draw ops = true → statB (envOf fr Try.prog).fr.N draw ops = true := fun h => by rw [envOf_fr, hN]; exact h
  have c0 := s_l1Dist a.rect p g1
  have c00 := s_l1Dist b.rect p g2
  have e : leP p a b = (decide (dist a.rect p < dist b.rect p) || (decide (dist a.rect p = dist b.rect p) && decide (a.id < b.id))) := by
    unfold leP
    have : decide (a.id ≤ b.id) = decide (a.id < b.id) := by rw [decide_eq_decide]; omega
    rw [this]
  rw [e]
  generalize dist a.rect p = x at *
  generalize dist b.rect p = y at *
  repeat' (first
    | exact True.intro
    | refine ev_seq ?_
    | ((first | refine vgd_go ?_ | refine ev_region hE hM (hS (by decide +kernel)) ?_ | refine ev_if ?_ | refine end_ret hE rfl rfl ?_ | refine end_norm hE rfl rfl ?_ | refine endG_ret [] hE rfl ?_ | refine endG_norm [] hE rfl ?_ | refine vcallB_of hP c0 ?_ | refine vcallB_of hP c00 ?_ | refine vcall_A ?_); simp (maxSteps := 2000000) only [go_sem, hP, ↓reduceIte, Nat.reduceAdd, Nat.reduceMul, Nat.reduceEqDiff, Nat.reduceSub, Nat.reduceLeDiff, reduceCtorEq])
    | refine ev_skip ?_ | refine ev_block ?_ | refine ev_blk ?_ | refine ev_ret ?_ | refine ev_exit ?_ | refine evx_code_ret ?_ | refine evx_blk_ret ?_ | refine evx_lp_ret ?_
    | refine evx_code_exit ?_ | refine evx_lp_exit ?_ | refine evx_blk_hit ?_ | refine evx_blk_pass (by decide) ?_
    | refine And.intro ?_ ?_ | intro _ | decide +kernel | omega)
  all_goals first | rfl | (simp_all; done) | trace_state
theorem qf_k {q : Query} {d : Int} (h : qf q d = 0) (hk : q.kind = 4) : 1 ≤ q.k ∧ q.k ≤ 20 := by
  have hb : boxed q.kind = false := by unfold boxed; simp [hk]
  unfold qf at h
  split at h
  · omega
  split at h
  · omega
  rw [hb] at h
  simp only [Bool.false_eq_true, if_false] at h
  split at h
  · omega
  split at h
  · omega
  · rename_i h4; simp [inB, hk] at h4; omega
theorem qf_d {q : Query} {d : Int} (h : qf q d = 0) : 2 ≤ d ∧ d ≤ 3 := by
  unfold qf at h
  split at h
  · omega
  · rename_i h1; simp [inB] at h1; omega
theorem pairs_w {xs : List Pair} {d : Int} (h : ∀ x ∈ xs, rf x.rect d = 0) (hd : d ≤ 3) : wPs xs ≤ 7 * xs.length := by
  unfold wPs
  induction xs with
  | nil => simp
  | cons x xs ih =>
    have h1 := ih (fun y hy => h y (List.mem_cons_of_mem _ hy))
    have h2 := rf_len (h x (List.mem_cons_self ..))
    have e : wR x.rect = x.rect.low.length + x.rect.high.length := rfl
    have e2 : sumW (fun p => wR p.rect) (x :: xs) = wR x.rect + sumW (fun p : Pair => wR p.rect) xs := rfl
    rw [e2, List.length_cons]
    omega
theorem idsN {xs : List Pair} {k : Nat} {p : List Int} (h : Ids xs) (hk : k < xs.length) : ∀ y ∈ sortP p (xs.take k), y.id ≠ (xs.getD k default).id := fun y hy => by
  have hm := (sortP_perm p _).mem_iff.1 hy
  obtain ⟨j, hj, e⟩ := List.mem_iff_getElem.1 hm
  rw [List.length_take] at hj
  have := h j k (by omega) hk
  rw [getD_lt (by omega)] at this
  rw [List.getElem_take] at e
  rwa [e] at this
theorem s_l2Near (xs : List Pair) (pt : List Int) (hg : ∀ x ∈ xs, Good x.rect pt) (hi : Ids xs) (hl : xs.length ≤ 1000) : Sat Try.prog 101 [aPs xs, aL pt] false [(false, [sP (sortP pt xs)])] := by
  refine sat_walk (fn := Try.f101) rfl rfl rfl (Nat.le_of_ble_eq_true rfl) fun fr hP hN hbnd => ?_
  have hE : (envOf fr Try.prog).Ok := envOf_ok hP
  have hM := follows_of hP
  have hS : ∀ {draw ops}, statB Try.f101.ntmps draw ops = true → statB (envOf fr Try.prog).fr.N draw ops = true := fun h => by rw [envOf_fr, hN]; exact h
  repeat' (first
    | exact True.intro
    | refine ev_seq ?_
    | ((first | refine vgd_go ?_ | refine ev_region hE hM (hS (by decide +kernel)) ?_ | refine ev_if ?_ | refine end_ret hE rfl rfl ?_ | refine end_norm hE rfl rfl ?_ | refine endG_ret [] hE rfl ?_ | refine endG_norm [] hE rfl ?_ | refine vcall_A ?_); simp (maxSteps := 2000000) only [go_sem, hP, ↓reduceIte, Nat.reduceAdd, Nat.reduceMul, Nat.reduceEqDiff, Nat.reduceSub, Nat.reduceLeDiff, reduceCtorEq])
    | refine ev_skip ?_ | refine ev_block ?_ | refine ev_blk ?_ | refine ev_ret ?_ | refine ev_exit ?_ | refine evx_code_ret ?_ | refine evx_blk_ret ?_ | refine evx_lp_ret ?_
    | refine evx_code_exit ?_ | refine evx_lp_exit ?_ | refine evx_blk_hit ?_ | refine evx_blk_pass (by decide) ?_
    | refine And.intro ?_ ?_ | intro _ | decide +kernel | omega)
  refine ev_loop (ι := Nat) (fun k => [(0, .c (sP xs)), (1, .c (sI pt)), (5, .ref 100000), (6, iT k)]) (fun k => [(100000, .arr (decide (k = 0)) 55 3 ((sortP pt (xs.take k)).map eP))]) (fun _ => []) (fun k => k ≤ xs.length) (fun k => xs.length - k) 0 [(100000, some 4096)] (by omega) (by simp only [go_sem, hP, ↓reduceIte, Nat.reduceAdd, Nat.reduceMul, Nat.reduceEqDiff, Nat.reduceSub, Nat.reduceLeDiff, reduceCtorEq]; simp [sortP, sortL]) ?_
  intro k hk
  have hw1 : k < xs.length → IntKind.i64.wrap ((k : Int) + 1) = k + 1 := fun h => i64_in _ (by omega)
  have hyl : (sortP pt (xs.take k)).length = k := by rw [sortP_len, List.length_take]; omega
  have hym : ∀ y ∈ sortP pt (xs.take k), y ∈ xs := fun y hy => List.mem_of_mem_take ((sortP_perm pt _).mem_iff.1 hy)
  by_cases hlt : k < xs.length
  · have hst := sortP_step pt hlt
    rw [insL_at] at hst
    have hid := idsN (p := pt) hi hlt
    have gx := hg _ (getD_mem (d := default) hlt)
    generalize sortP pt (xs.take k) = ys at *
    have hpl : ys.findIdx (fun y => !leP pt y (xs.getD k default)) ≤ ys.length := List.findIdx_le_length
    have hpy : ∀ j, j < ys.findIdx (fun y => !leP pt y (xs.getD k default)) → leP pt (ys.getD j default) (xs.getD k default) = true := fun j hj => by
      have := List.not_of_lt_findIdx hj
      rw [getD_lt (by omega)]
      simpa using this
    have hpn : ∀ j, j = ys.findIdx (fun y => !leP pt y (xs.getD k default)) → j < ys.length → leP pt (ys.getD j default) (xs.getD k default) = false := fun j hj hjl => by
      subst hj
      have := List.findIdx_getElem (w := hjl)
      rw [getD_lt hjl]
      simpa using this
    generalize ys.findIdx (fun y => !leP pt y (xs.getD k default)) = p at *
    have dl : decide ((k : Int) < (xs.length : Int)) = true := by simp only [decide_eq_true_eq]; omega
    repeat' (first
      | exact True.intro
      | refine ev_seq ?_
      | ((first | refine vgd_go ?_ | refine ev_region hE hM (hS (by decide +kernel)) ?_ | refine ev_if ?_ | refine end_ret hE rfl rfl ?_ | refine end_norm hE rfl rfl ?_ | refine endG_ret [] hE rfl ?_ | refine endG_norm [] hE rfl ?_ | refine vcall_A ?_); simp (maxSteps := 2000000) only [go_sem, hP, ↓reduceIte, Nat.reduceAdd, Nat.reduceMul, Nat.reduceEqDiff, Nat.reduceSub, Nat.reduceLeDiff, reduceCtorEq, dl, List.length_map])
      | refine ev_skip ?_ | refine ev_block ?_ | refine ev_blk ?_ | refine ev_ret ?_ | refine ev_exit ?_ | refine evx_code_ret ?_ | refine evx_blk_ret ?_ | refine evx_lp_ret ?_
      | refine evx_code_exit ?_ | refine evx_lp_exit ?_ | refine evx_blk_hit ?_ | refine evx_blk_pass (by decide) ?_
      | refine And.intro ?_ ?_ | intro _ | decide +kernel | omega)
    refine ev_loop (ι := Nat) (fun j => [(0, .c (sP xs)), (1, .c (sI pt)), (5, .ref 100000), (6, iT k), (7, iT j)]) (fun j => [(100000, .arr (decide (k = 0)) 55 3 (ys.map eP))]) (fun _ => []) (fun j => j ≤ p) (fun j => p - j) 0 [] (by omega) (by simp only [go_sem, hP, ↓reduceIte, Nat.reduceAdd, Nat.reduceMul, Nat.reduceEqDiff, Nat.reduceSub, Nat.reduceLeDiff, reduceCtorEq]; simp) ?_
    intro j hj
    have hw2 : IntKind.i64.wrap ((j : Int) + 1) = j + 1 := i64_in _ (by omega)
    have tj : Int.toNat (j : Int) = j := by simp
    have ht1 : List.take (ys.length - j) (List.drop j (ys.map eP)) = List.drop j (ys.map eP) := List.take_of_length_le (by simp)
    have ht2 : List.take ys.length (ys.map eP) = ys.map eP := List.take_of_length_le (by simp)
    by_cases hjl : j < ys.length
    · have d0 : decide ((j : Int) < (ys.length : Int)) = true := by simp only [decide_eq_true_eq]; omega
      have hjm := getD_mem (d := default) hjl
      have hm1 : (ys.map eP).getD j [] = eP (ys.getD j default) := by rw [List.getD_eq_getElem?_getD, List.getElem?_map, List.getElem?_eq_getElem hjl, getD_lt hjl]; rfl
      have cn := s_l2Nearer (ys.getD j default) (xs.getD k default) pt (hg _ (hym _ hjm)) gx (hid _ hjm)
      by_cases hj1 : j < p
      · have hle := hpy j hj1
        rw [hle] at cn
        repeat' (first
          | exact True.intro
          | refine ev_seq ?_
          | ((first | refine vgd_go ?_ | refine ev_region hE hM (hS (by decide +kernel)) ?_ | refine ev_if ?_ | refine end_ret hE rfl rfl ?_ | refine end_norm hE rfl rfl ?_ | refine endG_ret [] hE rfl ?_ | refine endG_norm [] hE rfl ?_ | refine vcallB_of hP cn ?_ | refine vcall_A ?_); simp (maxSteps := 2000000) only [go_sem, hP, ↓reduceIte, Nat.reduceAdd, Nat.reduceMul, Nat.reduceEqDiff, Nat.reduceSub, Nat.reduceLeDiff, reduceCtorEq, List.append_eq, List.cons_append, List.nil_append, Cs.strip, C.strip, Es.strip, strip_eI, Bool.and_false, Bool.and_self, Bool.false_and, Bool.false_eq_true, List.length_append, List.length_take, List.length_drop, List.length_cons, List.length_nil, Int.toNat_zero, ite_self, hjl, hm1, d0, ht1, ht2, List.length_map])
          | refine ev_skip ?_ | refine ev_block ?_ | refine ev_blk ?_ | refine ev_ret ?_ | refine ev_exit ?_ | refine evx_code_ret ?_ | refine evx_blk_ret ?_ | refine evx_lp_ret ?_
          | refine evx_code_exit ?_ | refine evx_lp_exit ?_ | refine evx_blk_hit ?_ | refine evx_blk_pass (by decide) ?_
          | refine And.intro ?_ ?_ | intro _ | decide +kernel | omega)
        all_goals first
          | exact ev_lp (j + 1) [] (by omega) (by omega) (by simp only [go_sem, hP, ↓reduceIte, Nat.reduceAdd, Nat.reduceMul, Nat.reduceEqDiff, Nat.reduceSub, Nat.reduceLeDiff, reduceCtorEq]; simp [hw2])
          | (exfalso; omega)
          | omega
          | (simp only [Nat.min_def]; split <;> omega)
          | (simp_all; done)
          | trace_state
      · obtain rfl : j = p := by omega
        have hle := hpn j rfl hjl
        rw [hle] at cn
        repeat' (first
          | exact True.intro
          | refine ev_seq ?_
          | ((first | refine vgd_go ?_ | refine ev_region hE hM (hS (by decide +kernel)) ?_ | refine ev_if ?_ | refine end_ret hE rfl rfl ?_ | refine end_norm hE rfl rfl ?_ | refine endG_ret [] hE rfl ?_ | refine endG_norm [] hE rfl ?_ | refine vcallB_of hP cn ?_ | refine vcall_A ?_); simp (maxSteps := 2000000) only [go_sem, hP, ↓reduceIte, Nat.reduceAdd, Nat.reduceMul, Nat.reduceEqDiff, Nat.reduceSub, Nat.reduceLeDiff, reduceCtorEq, List.append_eq, List.cons_append, List.nil_append, Cs.strip, C.strip, Es.strip, strip_eI, Bool.and_false, Bool.and_self, Bool.false_and, Bool.false_eq_true, List.length_append, List.length_take, List.length_drop, List.length_cons, List.length_nil, Int.toNat_zero, ite_self, hjl, hm1, d0, ht1, ht2, tj, List.length_map])
          | refine ev_skip ?_ | refine ev_block ?_ | refine ev_blk ?_ | refine ev_ret ?_ | refine ev_exit ?_ | refine evx_code_ret ?_ | refine evx_blk_ret ?_ | refine evx_lp_ret ?_
          | refine evx_code_exit ?_ | refine evx_lp_exit ?_ | refine evx_blk_hit ?_ | refine evx_blk_pass (by decide) ?_
          | refine And.intro ?_ ?_ | intro _ | decide +kernel | omega)
        all_goals first
          | exact ev_lp (k + 1) [(100000, some 40992)] (by omega) (by omega) (by simp only [go_sem, hP, ↓reduceIte, Nat.reduceAdd, Nat.reduceMul, Nat.reduceEqDiff, Nat.reduceSub, Nat.reduceLeDiff, reduceCtorEq]; rw [hst]; simp [hw1 hlt, Es.strip, eP_eq, show IntKind.i64.wrap 1 = 1 from rfl, List.map_take, List.map_drop, ht1, ht2])
          | (exfalso; omega)
          | omega
          | (simp only [Nat.min_def]; split <;> omega)
          | (simp_all; done)
          | trace_state
    · obtain rfl : j = p := by omega
      obtain rfl : j = ys.length := by omega
      have d0 : decide ((ys.length : Int) < (ys.length : Int)) = false := by simp
      by_cases h0 : k = 0
      · subst h0
        repeat' (first
          | exact True.intro
          | refine ev_seq ?_
          | ((first | refine vgd_go ?_ | refine ev_region hE hM (hS (by decide +kernel)) ?_ | refine ev_if ?_ | refine end_ret hE rfl rfl ?_ | refine end_norm hE rfl rfl ?_ | refine endG_ret [] hE rfl ?_ | refine endG_norm [] hE rfl ?_ | refine vcall_A ?_); simp (maxSteps := 2000000) only [go_sem, hP, ↓reduceIte, Nat.reduceAdd, Nat.reduceMul, Nat.reduceEqDiff, Nat.reduceSub, Nat.reduceLeDiff, reduceCtorEq, List.append_eq, List.cons_append, List.nil_append, Cs.strip, C.strip, Es.strip, strip_eI, Bool.and_false, Bool.and_self, Bool.false_and, Bool.false_eq_true, List.length_append, List.length_take, List.length_drop, List.length_cons, List.length_nil, Int.toNat_zero, ite_self, d0, ht1, ht2, tj, List.length_map])
          | refine ev_skip ?_ | refine ev_block ?_ | refine ev_blk ?_ | refine ev_ret ?_ | refine ev_exit ?_ | refine evx_code_ret ?_ | refine evx_blk_ret ?_ | refine evx_lp_ret ?_
          | refine evx_code_exit ?_ | refine evx_lp_exit ?_ | refine evx_blk_hit ?_ | refine evx_blk_pass (by decide) ?_
          | refine And.intro ?_ ?_ | intro _ | decide +kernel | omega)
        all_goals first
          | exact ev_lp 1 [(100000, some 40992)] (by omega) (by omega) (by simp only [go_sem, hP, ↓reduceIte, Nat.reduceAdd, Nat.reduceMul, Nat.reduceEqDiff, Nat.reduceSub, Nat.reduceLeDiff, reduceCtorEq]; rw [hst]; simp [hw1 hlt, Es.strip, eP_eq, show IntKind.i64.wrap 1 = 1 from rfl, List.map_take, List.map_drop, ht1, ht2])
          | (exfalso; omega)
          | omega
          | (simp_all; done)
          | trace_state
      · repeat' (first
          | exact True.intro
          | refine ev_seq ?_
          | ((first | refine vgd_go ?_ | refine ev_region hE hM (hS (by decide +kernel)) ?_ | refine ev_if ?_ | refine end_ret hE rfl rfl ?_ | refine end_norm hE rfl rfl ?_ | refine endG_ret [] hE rfl ?_ | refine endG_norm [] hE rfl ?_ | refine vcall_A ?_); simp (maxSteps := 2000000) only [go_sem, hP, ↓reduceIte, Nat.reduceAdd, Nat.reduceMul, Nat.reduceEqDiff, Nat.reduceSub, Nat.reduceLeDiff, reduceCtorEq, List.append_eq, List.cons_append, List.nil_append, Cs.strip, C.strip, Es.strip, strip_eI, Bool.and_false, Bool.and_self, Bool.false_and, Bool.false_eq_true, List.length_append, List.length_take, List.length_drop, List.length_cons, List.length_nil, Int.toNat_zero, ite_self, d0, ht1, ht2, tj, List.length_map])
          | refine ev_skip ?_ | refine ev_block ?_ | refine ev_blk ?_ | refine ev_ret ?_ | refine ev_exit ?_ | refine evx_code_ret ?_ | refine evx_blk_ret ?_ | refine evx_lp_ret ?_
          | refine evx_code_exit ?_ | refine evx_lp_exit ?_ | refine evx_blk_hit ?_ | refine evx_blk_pass (by decide) ?_
          | refine And.intro ?_ ?_ | intro _ | decide +kernel | omega)
        all_goals first
          | exact ev_lp (k + 1) [(100000, some 40992)] (by omega) (by omega) (by simp only [go_sem, hP, ↓reduceIte, Nat.reduceAdd, Nat.reduceMul, Nat.reduceEqDiff, Nat.reduceSub, Nat.reduceLeDiff, reduceCtorEq]; rw [hst]; simp [hw1 hlt, Es.strip, eP_eq, show IntKind.i64.wrap 1 = 1 from rfl, List.map_take, List.map_drop, ht1, ht2])
          | (exfalso; omega)
          | omega
          | (simp_all; done)
          | trace_state
  · have hke : k = xs.length := by omega
    subst hke
    have dl : decide ((xs.length : Int) < (xs.length : Int)) = false := by simp
    repeat' (first
      | exact True.intro
      | refine ev_seq ?_
      | ((first | refine vgd_go ?_ | refine ev_region hE hM (hS (by decide +kernel)) ?_ | refine ev_if ?_ | refine end_ret hE rfl rfl ?_ | refine end_norm hE rfl rfl ?_ | refine endG_ret [] hE rfl ?_ | refine endG_norm [] hE rfl ?_ | refine vcall_A ?_); simp (maxSteps := 2000000) only [go_sem, hP, ↓reduceIte, Nat.reduceAdd, Nat.reduceMul, Nat.reduceEqDiff, Nat.reduceSub, Nat.reduceLeDiff, reduceCtorEq, dl, List.take_length, List.length_map])
      | refine ev_skip ?_ | refine ev_block ?_ | refine ev_blk ?_ | refine ev_ret ?_ | refine ev_exit ?_ | refine evx_code_ret ?_ | refine evx_blk_ret ?_ | refine evx_lp_ret ?_
      | refine evx_code_exit ?_ | refine evx_lp_exit ?_ | refine evx_blk_hit ?_ | refine evx_blk_pass (by decide) ?_
      | refine And.intro ?_ ?_ | intro _ | decide +kernel | omega)
    all_goals first | (split <;> rfl) | (simp_all; done)
theorem s_l2AddF (xs : List Pair) (p : Pair) (hl : xs.length ≤ 1048576) (hx : xs.length ≠ 0) : SatG Try.prog 119 false [.ref 1, .agg [iT p.id, .c (sI p.rect.low), .c (sI p.rect.high)]] [(1, .arr false 55 3 (xs.map eP))] (.ref 2) [(1, .arr false 55 3 (xs.map eP)), (2, .arr false 55 3 ((addV xs p).map eP))] := by
  refine satG_walk (fn := Try.f119) rfl rfl rfl (Nat.le_of_ble_eq_true rfl) (by simp) fun fr hP hN hdp hb1 hb2 => ?_
  have hE : (envOf fr Try.prog).Ok := envOf_ok hP
  have hM := follows_of hP
  have hS : ∀ {draw ops}, statB Try.f119.ntmps draw ops = true → statB (envOf fr Try.prog).fr.N draw ops = true := fun h => by rw [envOf_fr, hN]; exact h
  have ha := addAt_le xs p
  repeat' (first
    | exact True.intro
    | refine ev_seq ?_
    | ((first | refine vgd_go ?_ | refine ev_region hE hM (hS (by decide +kernel)) ?_ | refine ev_if ?_ | refine end_ret hE rfl rfl ?_ | refine end_norm hE rfl rfl ?_ | refine endG_ret [] hE rfl ?_ | refine endG_norm [] hE rfl ?_ | refine vcall_A ?_); simp (maxSteps := 2000000) only [go_sem, hP, ↓reduceIte, Nat.reduceAdd, Nat.reduceMul, Nat.reduceEqDiff, Nat.reduceSub, Nat.reduceLeDiff, reduceCtorEq])
    | refine ev_skip ?_ | refine ev_block ?_ | refine ev_blk ?_ | refine ev_ret ?_ | refine ev_exit ?_ | refine evx_code_ret ?_ | refine evx_blk_ret ?_ | refine evx_lp_ret ?_
    | refine evx_code_exit ?_ | refine evx_lp_exit ?_ | refine evx_blk_hit ?_ | refine evx_blk_pass (by decide) ?_
    | refine And.intro ?_ ?_ | intro _ | decide +kernel | omega)
  refine ev_loop (ι := Nat) (fun k => [(0, .ref 1), (3, .ptr 0 0), (5, .ref 100000), (6, .c (.bool (decide (addAt xs p < k)))), (7, iT k)]) (fun k => [(1, .arr false 55 3 (xs.map eP)), (0, .box [iT p.id, .c (sI p.rect.low), .c (sI p.rect.high)]), (100000, .arr (decide (k = 0)) 55 3 ((addK xs p k).map eP))]) (fun _ => [(0, .ref 1)]) (fun k => k ≤ xs.length) (fun k => xs.length - k) 0 [(100000, some 4096)] (by omega) (by simp only [go_sem, hP, ↓reduceIte, Nat.reduceAdd, Nat.reduceMul, Nat.reduceEqDiff, Nat.reduceSub, Nat.reduceLeDiff, reduceCtorEq]; simp [addK_zero]) ?_
  intro k hk
  have hw1 : k < xs.length → IntKind.i64.wrap ((k : Int) + 1) = k + 1 := fun h => i64_in _ (by omega)
  have hal := addK_len (xs := xs) (p := p) k
  by_cases hlt : k < xs.length
  · rcases Nat.lt_trichotomy k (addAt xs p) with h1 | h1 | h1
    · have h2 := addAt_lt h1
      have h3 : decide (addAt xs p < k) = false := by simp; omega
      have h4 : decide (addAt xs p < k + 1) = false := by simp; omega
      by_cases h0 : k = 0
      · subst h0
        repeat' (first
          | exact True.intro
          | refine ev_seq ?_
          | ((first | refine vgd_go ?_ | refine ev_region hE hM (hS (by decide +kernel)) ?_ | refine ev_if ?_ | refine end_ret hE rfl rfl ?_ | refine end_norm hE rfl rfl ?_ | refine endG_ret [] hE rfl ?_ | refine endG_norm [] hE rfl ?_ | refine vcall_A ?_); simp (maxSteps := 2000000) only [go_sem, hP, ↓reduceIte, Nat.reduceAdd, Nat.reduceMul, Nat.reduceEqDiff, Nat.reduceSub, Nat.reduceLeDiff, reduceCtorEq, h3, addK_zero, Bool.and_self, List.length_map, Cs.strip, C.strip, Es.strip, strip_eI])
          | refine ev_skip ?_ | refine ev_block ?_ | refine ev_blk ?_ | refine ev_ret ?_ | refine ev_exit ?_ | refine evx_code_ret ?_ | refine evx_blk_ret ?_ | refine evx_lp_ret ?_
          | refine evx_code_exit ?_ | refine evx_lp_exit ?_ | refine evx_blk_hit ?_ | refine evx_blk_pass (by decide) ?_
          | refine And.intro ?_ ?_ | intro _ | decide +kernel | omega)
        all_goals first
          | exact ev_lp 1 [(100000, some 36912)] (by omega) (by omega) (by simp only [go_sem, hP, ↓reduceIte, Nat.reduceAdd, Nat.reduceMul, Nat.reduceEqDiff, Nat.reduceSub, Nat.reduceLeDiff, reduceCtorEq]; have := addK_lo h1; simp only [Nat.zero_add] at this h4; rw [this, h4]; simp [addK_zero, eP_eq, Es.strip, show IntKind.i64.wrap 1 = 1 from rfl])
          | (exfalso; omega)
          | (simp [Es.strip]; done)
          | (simp [Es.strip]; omega)
          | (simp_all; done)
      · have h5 : decide (k = 0) = false := by simpa using h0
        repeat' (first
          | exact True.intro
          | refine ev_seq ?_
          | ((first | refine vgd_go ?_ | refine ev_region hE hM (hS (by decide +kernel)) ?_ | refine ev_if ?_ | refine end_ret hE rfl rfl ?_ | refine end_norm hE rfl rfl ?_ | refine endG_ret [] hE rfl ?_ | refine endG_norm [] hE rfl ?_ | refine vcall_A ?_); simp (maxSteps := 2000000) only [go_sem, hP, ↓reduceIte, Nat.reduceAdd, Nat.reduceMul, Nat.reduceEqDiff, Nat.reduceSub, Nat.reduceLeDiff, reduceCtorEq, h3, h5, Bool.and_self, List.length_map, Cs.strip, C.strip, Es.strip, strip_eI])
          | refine ev_skip ?_ | refine ev_block ?_ | refine ev_blk ?_ | refine ev_ret ?_ | refine ev_exit ?_ | refine evx_code_ret ?_ | refine evx_blk_ret ?_ | refine evx_lp_ret ?_
          | refine evx_code_exit ?_ | refine evx_lp_exit ?_ | refine evx_blk_hit ?_ | refine evx_blk_pass (by decide) ?_
          | refine And.intro ?_ ?_ | intro _ | decide +kernel | omega)
        all_goals first
          | exact ev_lp (k + 1) [(100000, some 36912)] (by omega) (by omega) (by simp only [go_sem, hP, ↓reduceIte, Nat.reduceAdd, Nat.reduceMul, Nat.reduceEqDiff, Nat.reduceSub, Nat.reduceLeDiff, reduceCtorEq]; rw [addK_lo h1, h4]; simp [hw1 hlt, eP_eq])
          | (exfalso; omega)
          | (simp [Es.strip]; done)
          | (simp [Es.strip]; omega)
          | (simp_all; done)
    · have h2 := addAt_eq (xs := xs) (p := p) (by omega)
      have h3 : decide (addAt xs p < k) = false := by simp; omega
      have h4 : decide (addAt xs p < k + 1) = true := by simp; omega
      have h6 := addK_at (xs := xs) (p := p) (by omega)
      rw [← h1] at h2 h6
      by_cases h0 : k = 0
      · subst h0
        repeat' (first
          | exact True.intro
          | refine ev_seq ?_
          | ((first | refine vgd_go ?_ | refine ev_region hE hM (hS (by decide +kernel)) ?_ | refine ev_if ?_ | refine end_ret hE rfl rfl ?_ | refine end_norm hE rfl rfl ?_ | refine endG_ret [] hE rfl ?_ | refine endG_norm [] hE rfl ?_ | refine vcall_A ?_); simp (maxSteps := 2000000) only [go_sem, hP, ↓reduceIte, Nat.reduceAdd, Nat.reduceMul, Nat.reduceEqDiff, Nat.reduceSub, Nat.reduceLeDiff, reduceCtorEq, h3, addK_zero, Bool.and_self, List.length_map, Cs.strip, C.strip, Es.strip, strip_eI])
          | refine ev_skip ?_ | refine ev_block ?_ | refine ev_blk ?_ | refine ev_ret ?_ | refine ev_exit ?_ | refine evx_code_ret ?_ | refine evx_blk_ret ?_ | refine evx_lp_ret ?_
          | refine evx_code_exit ?_ | refine evx_lp_exit ?_ | refine evx_blk_hit ?_ | refine evx_blk_pass (by decide) ?_
          | refine And.intro ?_ ?_ | intro _ | decide +kernel | omega)
        all_goals first
          | exact ev_lp 1 [(100000, some 36912)] (by omega) (by omega) (by simp only [go_sem, hP, ↓reduceIte, Nat.reduceAdd, Nat.reduceMul, Nat.reduceEqDiff, Nat.reduceSub, Nat.reduceLeDiff, reduceCtorEq]; simp only [Nat.zero_add] at h6 h4; rw [h6, h4]; simp [addK_zero, eP_eq, Es.strip, show IntKind.i64.wrap 1 = 1 from rfl])
          | (exfalso; omega)
          | (simp [Es.strip]; done)
          | (simp [Es.strip]; omega)
          | (simp_all; done)
      · have h5 : decide (k = 0) = false := by simpa using h0
        repeat' (first
          | exact True.intro
          | refine ev_seq ?_
          | ((first | refine vgd_go ?_ | refine ev_region hE hM (hS (by decide +kernel)) ?_ | refine ev_if ?_ | refine end_ret hE rfl rfl ?_ | refine end_norm hE rfl rfl ?_ | refine endG_ret [] hE rfl ?_ | refine endG_norm [] hE rfl ?_ | refine vcall_A ?_); simp (maxSteps := 2000000) only [go_sem, hP, ↓reduceIte, Nat.reduceAdd, Nat.reduceMul, Nat.reduceEqDiff, Nat.reduceSub, Nat.reduceLeDiff, reduceCtorEq, h3, h5, Bool.and_self, List.length_map, Cs.strip, C.strip, Es.strip, strip_eI])
          | refine ev_skip ?_ | refine ev_block ?_ | refine ev_blk ?_ | refine ev_ret ?_ | refine ev_exit ?_ | refine evx_code_ret ?_ | refine evx_blk_ret ?_ | refine evx_lp_ret ?_
          | refine evx_code_exit ?_ | refine evx_lp_exit ?_ | refine evx_blk_hit ?_ | refine evx_blk_pass (by decide) ?_
          | refine And.intro ?_ ?_ | intro _ | decide +kernel | omega)
        all_goals first
          | exact ev_lp (k + 1) [(100000, some 36912)] (by omega) (by omega) (by simp only [go_sem, hP, ↓reduceIte, Nat.reduceAdd, Nat.reduceMul, Nat.reduceEqDiff, Nat.reduceSub, Nat.reduceLeDiff, reduceCtorEq]; rw [h6, h4]; simp [hw1 hlt, eP_eq])
          | (exfalso; omega)
          | (simp [Es.strip]; done)
          | (simp [Es.strip]; omega)
          | omega
          | (simp_all; done)
    · have h3 : decide (addAt xs p < k) = true := by simp; omega
      have h4 : decide (addAt xs p < k + 1) = true := by simp; omega
      have h5 : decide (k = 0) = false := by simp; omega
      repeat' (first
        | exact True.intro
        | refine ev_seq ?_
        | ((first | refine vgd_go ?_ | refine ev_region hE hM (hS (by decide +kernel)) ?_ | refine ev_if ?_ | refine end_ret hE rfl rfl ?_ | refine end_norm hE rfl rfl ?_ | refine endG_ret [] hE rfl ?_ | refine endG_norm [] hE rfl ?_ | refine vcall_A ?_); simp (maxSteps := 2000000) only [go_sem, hP, ↓reduceIte, Nat.reduceAdd, Nat.reduceMul, Nat.reduceEqDiff, Nat.reduceSub, Nat.reduceLeDiff, reduceCtorEq, h3, h5, Bool.and_self, List.length_map, Cs.strip, C.strip, Es.strip, strip_eI])
        | refine ev_skip ?_ | refine ev_block ?_ | refine ev_blk ?_ | refine ev_ret ?_ | refine ev_exit ?_ | refine evx_code_ret ?_ | refine evx_blk_ret ?_ | refine evx_lp_ret ?_
        | refine evx_code_exit ?_ | refine evx_lp_exit ?_ | refine evx_blk_hit ?_ | refine evx_blk_pass (by decide) ?_
        | refine And.intro ?_ ?_ | intro _ | decide +kernel | omega)
      all_goals first
        | exact ev_lp (k + 1) [(100000, some 36912)] (by omega) (by omega) (by simp only [go_sem, hP, ↓reduceIte, Nat.reduceAdd, Nat.reduceMul, Nat.reduceEqDiff, Nat.reduceSub, Nat.reduceLeDiff, reduceCtorEq]; rw [addK_hi h1 hlt, h4]; simp [hw1 hlt, eP_eq])
        | (exfalso; omega)
        | omega
        | (simp_all; done)
  · have hke : k = xs.length := by omega
    subst hke
    by_cases hd : addAt xs p < xs.length
    · have h3 : decide (addAt xs p < xs.length) = true := by simpa using hd
      have h5 : decide (xs.length = 0) = false := by simp; rintro rfl; simp at hd
      repeat' (first
        | exact True.intro
        | refine ev_seq ?_
        | ((first | refine endG_ret [(2, some 100000)] hE rfl ?_ | refine vgd_go ?_ | refine ev_region hE hM (hS (by decide +kernel)) ?_ | refine ev_if ?_ | refine end_ret hE rfl rfl ?_ | refine end_norm hE rfl rfl ?_ | refine endG_ret [] hE rfl ?_ | refine endG_norm [] hE rfl ?_ | refine vcall_A ?_); simp (maxSteps := 2000000) only [go_sem, hP, ↓reduceIte, Nat.reduceAdd, Nat.reduceMul, Nat.reduceEqDiff, Nat.reduceSub, Nat.reduceLeDiff, reduceCtorEq, h3, h5, addK_done hd, List.length_map, Cs.strip, C.strip, Es.strip, strip_eI])
        | refine ev_skip ?_ | refine ev_block ?_ | refine ev_blk ?_ | refine ev_ret ?_ | refine ev_exit ?_ | refine evx_code_ret ?_ | refine evx_blk_ret ?_ | refine evx_lp_ret ?_
        | refine evx_code_exit ?_ | refine evx_lp_exit ?_ | refine evx_blk_hit ?_ | refine evx_blk_pass (by decide) ?_
        | refine And.intro ?_ ?_ | intro _ | decide +kernel | omega)
      all_goals first
        | (exfalso; omega)
        | (simp_all; done)
        | trace_state
    · have h3 : decide (addAt xs p < xs.length) = false := by simpa using hd
      have h6 := addK_last hd
      rw [← h6]
      clear h6
      by_cases h0 : xs.length = 0
      · exact absurd h0 hx
      · have h5 : decide (xs.length = 0) = false := by simpa using h0
        repeat' (first
          | exact True.intro
          | refine ev_seq ?_
          | ((first | refine endG_ret [(2, some 45080)] hE rfl ?_ | refine vgd_go ?_ | refine ev_region hE hM (hS (by decide +kernel)) ?_ | refine ev_if ?_ | refine end_ret hE rfl rfl ?_ | refine end_norm hE rfl rfl ?_ | refine endG_ret [] hE rfl ?_ | refine endG_norm [] hE rfl ?_ | refine vcall_A ?_); simp (maxSteps := 2000000) only [go_sem, hP, ↓reduceIte, Nat.reduceAdd, Nat.reduceMul, Nat.reduceEqDiff, Nat.reduceSub, Nat.reduceLeDiff, reduceCtorEq, h3, h5, List.length_map, Cs.strip, C.strip, Es.strip, strip_eI])
          | refine ev_skip ?_ | refine ev_block ?_ | refine ev_blk ?_ | refine ev_ret ?_ | refine ev_exit ?_ | refine evx_code_ret ?_ | refine evx_blk_ret ?_ | refine evx_lp_ret ?_
          | refine evx_code_exit ?_ | refine evx_lp_exit ?_ | refine evx_blk_hit ?_ | refine evx_blk_pass (by decide) ?_
          | refine And.intro ?_ ?_ | intro _ | decide +kernel | omega)
        all_goals first
          | (exfalso; omega)
          | (simp only [Es.strip, List.length_nil]; omega)
          | omega
          | (simp_all [eP_eq]; done)
          | trace_state
theorem s_l2Add0 (p : Pair) : SatG Try.prog 119 false [.ref 1, .agg [iT p.id, .c (sI p.rect.low), .c (sI p.rect.high)]] [(1, .arr true 55 3 [])] (.ref 2) [(1, .arr true 55 3 []), (2, .arr false 55 3 ([p].map eP))] := by
  refine satG_walk (fn := Try.f119) rfl rfl rfl (Nat.le_of_ble_eq_true rfl) (by simp) fun fr hP hN hdp hb1 hb2 => ?_
  have hE : (envOf fr Try.prog).Ok := envOf_ok hP
  have hM := follows_of hP
  have hS : ∀ {draw ops}, statB Try.f119.ntmps draw ops = true → statB (envOf fr Try.prog).fr.N draw ops = true := fun h => by rw [envOf_fr, hN]; exact h
  repeat' (first
    | exact True.intro
    | refine ev_seq ?_
    | ((first | refine vgd_go ?_ | refine ev_region hE hM (hS (by decide +kernel)) ?_ | refine ev_if ?_ | refine end_ret hE rfl rfl ?_ | refine end_norm hE rfl rfl ?_ | refine endG_ret [] hE rfl ?_ | refine endG_norm [] hE rfl ?_ | refine vcall_A ?_); simp (maxSteps := 2000000) only [go_sem, hP, ↓reduceIte, Nat.reduceAdd, Nat.reduceMul, Nat.reduceEqDiff, Nat.reduceSub, Nat.reduceLeDiff, reduceCtorEq])
    | refine ev_skip ?_ | refine ev_block ?_ | refine ev_blk ?_ | refine ev_ret ?_ | refine ev_exit ?_ | refine evx_code_ret ?_ | refine evx_blk_ret ?_ | refine evx_lp_ret ?_
    | refine evx_code_exit ?_ | refine evx_lp_exit ?_ | refine evx_blk_hit ?_ | refine evx_blk_pass (by decide) ?_
    | refine And.intro ?_ ?_ | intro _ | decide +kernel | omega)
  refine ev_loop (ι := Nat) (fun k => [(0, .ref 1), (3, .ptr 0 0), (5, .ref 100000), (6, .c (.bool false)), (7, iT k)]) (fun k => [(1, .arr true 55 3 []), (0, .box [iT p.id, .c (sI p.rect.low), .c (sI p.rect.high)]), (100000, .arr true 55 3 [])]) (fun _ => [(0, .ref 1)]) (fun k => k = 0) (fun k => 0 - k) 0 [(100000, some 4096)] rfl (by simp only [go_sem, hP, ↓reduceIte, Nat.reduceAdd, Nat.reduceMul, Nat.reduceEqDiff, Nat.reduceSub, Nat.reduceLeDiff, reduceCtorEq]; simp) ?_
  rintro k rfl
  have d1 : decide (((0 : Nat) : Int) < 0) = false := rfl
  repeat' (first
    | exact True.intro
    | refine ev_seq ?_
    | ((first | refine endG_ret [(2, some 45080)] hE rfl ?_ | refine vgd_go ?_ | refine ev_region hE hM (hS (by decide +kernel)) ?_ | refine ev_if ?_ | refine end_ret hE rfl rfl ?_ | refine end_norm hE rfl rfl ?_ | refine endG_ret [] hE rfl ?_ | refine endG_norm [] hE rfl ?_ | refine vcall_A ?_); simp (maxSteps := 2000000) only [go_sem, hP, ↓reduceIte, Nat.reduceAdd, Nat.reduceMul, Nat.reduceEqDiff, Nat.reduceSub, Nat.reduceLeDiff, reduceCtorEq, d1])
    | refine ev_skip ?_ | refine ev_block ?_ | refine ev_blk ?_ | refine ev_ret ?_ | refine ev_exit ?_ | refine evx_code_ret ?_ | refine evx_blk_ret ?_ | refine evx_lp_ret ?_
    | refine evx_code_exit ?_ | refine evx_lp_exit ?_ | refine evx_blk_hit ?_ | refine evx_blk_pass (by decide) ?_
    | refine And.intro ?_ ?_ | intro _ | decide +kernel | omega)
  all_goals first
    | (simp [Es.strip]; done)
    | (simp [Es.strip]; omega)
    | (simp_all [Es.strip, eP_eq]; done)
    | trace_state
def prV (c : List Int) (p : Int) (d : Nat) : Pair := ⟨nx c p 40, rectV c (p + 1) d⟩
def drV (c : List Int) (a : Int) (d : Nat) : Nat → List Pair
  | 0 => []
  | k + 1 => if findId (drV c a d k) (prV c (a + (6 * d + 1) * k) d).id < 0 then addV (drV c a d k) (prV c (a + (6 * d + 1) * k) d) else drV c a d k
theorem addV_len' (xs : List Pair) (p : Pair) : (addV xs p).length = xs.length + 1 := by
  unfold addV
  rw [List.length_append, List.length_append, List.length_take, List.length_drop]
  have := addAt_le xs p
  simp; omega
theorem addV_all {P : Pair → Prop} {xs : List Pair} {p : Pair} (h : ∀ x ∈ xs, P x) (hp : P p) : ∀ x ∈ addV xs p, P x := fun x hx => by
  unfold addV at hx
  rcases List.mem_append.1 hx with h1 | h1
  · rcases List.mem_append.1 h1 with h2 | h2
    · exact h x (List.mem_of_mem_take h2)
    · rw [List.mem_singleton.1 h2]; exact hp
  · exact h x (List.mem_of_mem_drop h1)
theorem drV_len (c : List Int) (a : Int) (d : Nat) : ∀ k, (drV c a d k).length ≤ k
  | 0 => Nat.le_refl 0
  | k + 1 => by
    have := drV_len c a d k
    simp only [drV]
    split
    · rw [addV_len']; omega
    · omega
theorem drV_pos (c : List Int) (a : Int) (d : Nat) : ∀ k, k ≠ 0 → (drV c a d k).length ≠ 0
  | 0, h => absurd rfl h
  | k + 1, _ => by
    simp only [drV]
    split
    · rw [addV_len']; omega
    · rename_i h
      cases k with
      | zero => exact absurd (show findId (drV c a d 0) _ < 0 from by show findId [] _ < 0; simp [findId]) h
      | succ k => exact drV_pos c a d (k + 1) (by omega)
theorem rectV_w (c : List Int) (a : Int) (d : Nat) : wR (rectV c a d) = 2 * d := by
  have e : wR (rectV c a d) = (rectV c a d).low.length + (rectV c a d).high.length := rfl
  rw [e]; simp [rectV, rectLo, rectHi]; omega
theorem bentV_w (c : List Int) (a : Int) (d : Nat) : wR (bentV c a d) ≤ 2 * d + 1 := by
  have e : ∀ r : Rect, wR r = r.low.length + r.high.length := fun _ => rfl
  unfold bentV
  (repeat' split) <;> rw [e] <;> simp [rectV, rectLo, rectHi] <;> omega
theorem drV_w (c : List Int) (a : Int) (d : Nat) : ∀ k, ∀ x ∈ drV c a d k, wR x.rect ≤ 2 * d + 1
  | 0, x, h => by simp [drV] at h
  | k + 1, x, h => by
    have ih := drV_w c a d k
    simp only [drV] at h
    split at h
    · refine addV_all (P := fun x => wR x.rect ≤ 2 * d + 1) ih ?_ x h
      have := rectV_w c (a + (6 * d + 1) * k + 1) d
      show wR (rectV c _ d) ≤ _
      omega
    · exact ih x h
theorem s_l2Draw (c : List Int) (a : Int) (d n : Nat) (hc : codeOk c) (h0 : 0 ≤ a) (h1 : a ≤ 1072000000) (hd0 : 0 < d) (hd : d ≤ 100) (hn : n ≤ 100) : SatG Try.prog 89 false [.ptr 1 0, iT d, iT n] [(1, bSrc c a)] (.ref 2) [(1, bSrc c (a + (6 * d + 1) * n)), (2, .arr (decide (n = 0)) 55 3 ((drV c a d n).map eP))] := by
  refine satG_walk (fn := Try.f89) rfl rfl rfl (Nat.le_of_ble_eq_true rfl) (by simp) fun fr hP hN hdp hb1 hb2 => ?_
  have hE : (envOf fr Try.prog).Ok := envOf_ok hP
  have hM := follows_of hP
  have hS : ∀ {draw ops}, statB Try.f89.ntmps draw ops = true → statB (envOf fr Try.prog).fr.N draw ops = true := fun h => by rw [envOf_fr, hN]; exact h
  repeat' (first
    | exact True.intro
    | refine ev_seq ?_
    | ((first | refine vgd_go ?_ | refine ev_region hE hM (hS (by decide +kernel)) ?_ | refine ev_if ?_ | refine end_ret hE rfl rfl ?_ | refine end_norm hE rfl rfl ?_ | refine endG_ret [] hE rfl ?_ | refine endG_norm [] hE rfl ?_ | refine vcall_A ?_); simp (maxSteps := 2000000) only [go_sem, hP, ↓reduceIte, Nat.reduceAdd, Nat.reduceMul, Nat.reduceEqDiff, Nat.reduceSub, Nat.reduceLeDiff, reduceCtorEq])
    | refine ev_skip ?_ | refine ev_block ?_ | refine ev_blk ?_ | refine ev_ret ?_ | refine ev_exit ?_ | refine evx_code_ret ?_ | refine evx_blk_ret ?_ | refine evx_lp_ret ?_
    | refine evx_code_exit ?_ | refine evx_lp_exit ?_ | refine evx_blk_hit ?_ | refine evx_blk_pass (by decide) ?_
    | refine And.intro ?_ ?_ | intro _ | decide +kernel | omega)
  refine ev_loop (ι := Nat) (fun k => [(0, .ptr 1 0), (1, iT d), (2, iT ((n - k : Nat) : Int)), (7, .ref 100000)]) (fun k => [(1, bSrc c (a + (6 * d + 1) * k)), (100000, .arr (decide (k = 0)) 55 3 ((drV c a d k).map eP))]) (fun _ => [(0, .ref 1)]) (fun k => k ≤ n) (fun k => n - k) 0 [(100000, some 4096)] (by omega) (by simp only [go_sem, hP, ↓reduceIte, Nat.reduceAdd, Nat.reduceMul, Nat.reduceEqDiff, Nat.reduceSub, Nat.reduceLeDiff, reduceCtorEq]; simp [drV]) ?_
  intro k hk
  have hl := drV_len c a d k
  have hp : (6 * (d : Int) + 1) * k ≤ 601 * 100 := Int.mul_le_mul (by omega) (by omega) (by omega) (by omega)
  have hp0 : 0 ≤ (6 * (d : Int) + 1) * k := Int.mul_nonneg (by omega) (by omega)
  have hnx : a + (6 * (d : Int) + 1) * k + 1 + 6 * d = a + (6 * d + 1) * (k + 1) := by rw [Int.mul_add]; omega
  by_cases hlt : k < n
  · have hw1 : IntKind.i64.wrap (((n - k : Nat) : Int) - 1) = ((n - (k + 1) : Nat) : Int) := by rw [i64_in _ (by omega)]; omega
    have hg : decide ((0 : Int) < ((n - k : Nat) : Int)) = true := by simp; omega
    have hst : drV c a d (k + 1) = if findId (drV c a d k) (prV c (a + (6 * d + 1) * k) d).id < 0 then addV (drV c a d k) (prV c (a + (6 * d + 1) * k) d) else drV c a d k := rfl
    have pid : (prV c (a + (6 * d + 1) * k) d).id = nx c (a + (6 * d + 1) * k) 40 := rfl
    have plo : (prV c (a + (6 * d + 1) * k) d).rect.low = rectLo c (a + (6 * d + 1) * k + 1) d := rfl
    have phi : (prV c (a + (6 * d + 1) * k) d).rect.high = rectHi c (a + (6 * d + 1) * k + 1) d := rfl
    by_cases hk0 : k = 0
    · subst hk0
      have e0 : drV c a d 0 = [] := rfl
      rw [e0] at hst
      generalize prV c (a + (6 * (d : Int) + 1) * ((0 : Nat) : Int)) d = p at *
      generalize hpp : a + (6 * (d : Int) + 1) * ((0 : Nat) : Int) = q at *
      have k1 := s_l1Next c q 40 hc (by omega) (by omega) (by omega) (by omega)
      have k2 := s_l1Rect c (q + 1) d hc (by omega) (by omega) hd0 hd
      rw [← pid] at k1
      rw [← plo, ← phi] at k2
      have k3 := s_l2At [] p.id
      have k4 := s_l2Add0 p
      have ef : findId [] p.id = -1 := rfl
      rw [ef] at k3 hst
      have ea : addV [] p = [p] := rfl
      rw [if_pos (by decide), ea] at hst
      have hf' : decide ((-1 : Int) < 0) = true := rfl
      have hz0 : decide ((0 : Nat) = 0) = true := rfl
      rw [e0]
      repeat' (first
        | exact True.intro
        | refine ev_seq ?_
        | ((first | refine vgd_go ?_ | refine ev_region hE hM (hS (by decide +kernel)) ?_ | refine ev_if ?_ | refine end_ret hE rfl rfl ?_ | refine end_norm hE rfl rfl ?_ | refine endG_ret [] hE rfl ?_ | refine endG_norm [] hE rfl ?_ | refine vcallG_at (args := [.ptr 1 0, iT 40]) 1 [] rfl hP (k1) ?_ | refine vcallG_at (args := [.ptr 1 0, iT d]) 1 [] rfl hP (k2) ?_ | refine vcallB_of hP k3 ?_ | refine vcallG_of (args := [.ref 100000, .agg [iT p.id, .c (sI p.rect.low), .c (sI p.rect.high)]]) [(1, 100000)] [] hP k4 ?_ | refine vcall_A ?_); simp (maxSteps := 2000000) only [go_sem, hP, ↓reduceIte, Nat.reduceAdd, Nat.reduceMul, Nat.reduceEqDiff, Nat.reduceSub, Nat.reduceLeDiff, reduceCtorEq, hg, hf', hz0, List.length_map, List.map_nil])
        | refine ev_skip ?_ | refine ev_block ?_ | refine ev_blk ?_ | refine ev_ret ?_ | refine ev_exit ?_ | refine evx_code_ret ?_ | refine evx_blk_ret ?_ | refine evx_lp_ret ?_
        | refine evx_code_exit ?_ | refine evx_lp_exit ?_ | refine evx_blk_hit ?_ | refine evx_blk_pass (by decide) ?_
        | refine And.intro ?_ ?_ | intro _ | decide +kernel | omega)
      all_goals first
        | exact ev_lp 1 [(100000, some 2121744)] (by omega) (by omega) (by simp only [go_sem, hP, ↓reduceIte, Nat.reduceAdd, Nat.reduceMul, Nat.reduceEqDiff, Nat.reduceSub, Nat.reduceLeDiff, reduceCtorEq]; rw [hst]; simp [eP_eq]; exact ⟨hw1, by rw [hnx]; simp⟩)
        | (exfalso; omega)
        | omega
        | (simp_all; done)
        | trace_state
    · have hz0 : decide (k = 0) = false := decide_eq_false hk0
      have hyl : (drV c a d k).length ≠ 0 := drV_pos c a d k hk0
      generalize prV c (a + (6 * d + 1) * k) d = p at *
      generalize hpp : a + (6 * (d : Int) + 1) * k = q at *
      generalize drV c a d k = ys at *
      have k1 := s_l1Next c q 40 hc (by omega) (by omega) (by omega) (by omega)
      have k2 := s_l1Rect c (q + 1) d hc (by omega) (by omega) hd0 hd
      rw [← pid] at k1
      rw [← plo, ← phi] at k2
      have k3 := s_l2At ys p.id
      have k4 := s_l2AddF ys p (by omega) hyl
      by_cases hf : findId ys p.id < 0
      · have hf' : decide (findId ys p.id < 0) = true := decide_eq_true hf
        rw [if_pos hf] at hst
        repeat' (first
          | exact True.intro
          | refine ev_seq ?_
          | ((first | refine vgd_go ?_ | refine ev_region hE hM (hS (by decide +kernel)) ?_ | refine ev_if ?_ | refine end_ret hE rfl rfl ?_ | refine end_norm hE rfl rfl ?_ | refine endG_ret [] hE rfl ?_ | refine endG_norm [] hE rfl ?_ | refine vcallG_at (args := [.ptr 1 0, iT 40]) 1 [] rfl hP (k1) ?_ | refine vcallG_at (args := [.ptr 1 0, iT d]) 1 [] rfl hP (k2) ?_ | refine vcallB_of hP k3 ?_ | refine vcallG_of (args := [.ref 100000, .agg [iT p.id, .c (sI p.rect.low), .c (sI p.rect.high)]]) [(1, 100000)] [] hP k4 ?_ | refine vcall_A ?_); simp (maxSteps := 2000000) only [go_sem, hP, ↓reduceIte, Nat.reduceAdd, Nat.reduceMul, Nat.reduceEqDiff, Nat.reduceSub, Nat.reduceLeDiff, reduceCtorEq, hg, hf', hz0, List.length_map])
          | refine ev_skip ?_ | refine ev_block ?_ | refine ev_blk ?_ | refine ev_ret ?_ | refine ev_exit ?_ | refine evx_code_ret ?_ | refine evx_blk_ret ?_ | refine evx_lp_ret ?_
          | refine evx_code_exit ?_ | refine evx_lp_exit ?_ | refine evx_blk_hit ?_ | refine evx_blk_pass (by decide) ?_
          | refine And.intro ?_ ?_ | intro _ | decide +kernel | omega)
        all_goals first
          | exact ev_lp (k + 1) [(100000, some 2121744)] (by omega) (by omega) (by simp only [go_sem, hP, ↓reduceIte, Nat.reduceAdd, Nat.reduceMul, Nat.reduceEqDiff, Nat.reduceSub, Nat.reduceLeDiff, reduceCtorEq]; rw [hst]; simp [hw1, hnx])
          | (exfalso; omega)
          | omega
          | (simp_all; done)
          | trace_state
      · have hf' : decide (findId ys p.id < 0) = false := decide_eq_false hf
        rw [if_neg hf] at hst
        repeat' (first
          | exact True.intro
          | refine ev_seq ?_
          | ((first | refine vgd_go ?_ | refine ev_region hE hM (hS (by decide +kernel)) ?_ | refine ev_if ?_ | refine end_ret hE rfl rfl ?_ | refine end_norm hE rfl rfl ?_ | refine endG_ret [] hE rfl ?_ | refine endG_norm [] hE rfl ?_ | refine vcallG_at (args := [.ptr 1 0, iT 40]) 1 [] rfl hP (k1) ?_ | refine vcallG_at (args := [.ptr 1 0, iT d]) 1 [] rfl hP (k2) ?_ | refine vcallB_of hP k3 ?_ | refine vcall_A ?_); simp (maxSteps := 2000000) only [go_sem, hP, ↓reduceIte, Nat.reduceAdd, Nat.reduceMul, Nat.reduceEqDiff, Nat.reduceSub, Nat.reduceLeDiff, reduceCtorEq, hg, hf', hz0, List.length_map])
          | refine ev_skip ?_ | refine ev_block ?_ | refine ev_blk ?_ | refine ev_ret ?_ | refine ev_exit ?_ | refine evx_code_ret ?_ | refine evx_blk_ret ?_ | refine evx_lp_ret ?_
          | refine evx_code_exit ?_ | refine evx_lp_exit ?_ | refine evx_blk_hit ?_ | refine evx_blk_pass (by decide) ?_
          | refine And.intro ?_ ?_ | intro _ | decide +kernel | omega)
        all_goals first
          | exact ev_lp (k + 1) [(100000, some 100000)] (by omega) (by omega) (by simp only [go_sem, hP, ↓reduceIte, Nat.reduceAdd, Nat.reduceMul, Nat.reduceEqDiff, Nat.reduceSub, Nat.reduceLeDiff, reduceCtorEq]; rw [hst]; simp [hw1, hnx])
          | (exfalso; omega)
          | omega
          | (simp_all; done)
          | trace_state
  · have hke : k = n := by omega
    subst hke
    have hg : decide ((0 : Int) < ((k - k : Nat) : Int)) = false := by simp
    repeat' (first
      | exact True.intro
      | refine ev_seq ?_
      | ((first | refine endG_ret [(2, some 100000)] hE rfl ?_ | refine vgd_go ?_ | refine ev_region hE hM (hS (by decide +kernel)) ?_ | refine ev_if ?_ | refine end_ret hE rfl rfl ?_ | refine end_norm hE rfl rfl ?_ | refine endG_ret [] hE rfl ?_ | refine endG_norm [] hE rfl ?_ | refine vcall_A ?_); simp (maxSteps := 2000000) only [go_sem, hP, ↓reduceIte, Nat.reduceAdd, Nat.reduceMul, Nat.reduceEqDiff, Nat.reduceSub, Nat.reduceLeDiff, reduceCtorEq, hg])
      | refine ev_skip ?_ | refine ev_block ?_ | refine ev_blk ?_ | refine ev_ret ?_ | refine ev_exit ?_ | refine evx_code_ret ?_ | refine evx_blk_ret ?_ | refine evx_lp_ret ?_
      | refine evx_code_exit ?_ | refine evx_lp_exit ?_ | refine evx_blk_hit ?_ | refine evx_blk_pass (by decide) ?_
      | refine And.intro ?_ ?_ | intro _ | decide +kernel | omega)
    all_goals first
      | (exfalso; omega)
      | (simp_all; done)
      | trace_state
/-- Pairs that may be wrong, the number of dimensions, and where the code is read on. -/
structure BQ where
  l : List Pair
  d : Int
  p : Int
def b2c (c : List Int) (a : Int) : Nat := (pk c (a + 1) [0, 1, 3, 6, 9]).toNat
theorem b2c_in (c : List Int) (a : Int) : pk c (a + 1) [0, 1, 3, 6, 9] = (b2c c a : Int) ∧ b2c c a ≤ 9 := by
  have h := pk_mem (c := c) (a := a + 1) (xs := [0, 1, 3, 6, 9]) (by simp)
  simp only [List.mem_cons, List.not_mem_nil, or_false] at h
  unfold b2c; omega
def b2e (c : List Int) (a : Int) : List Pair := drV c (a + 2) (b3d c a) (b2c c a)
theorem b2e_len (c : List Int) (a : Int) : (b2e c a).length ≤ 9 := Nat.le_trans (drV_len _ _ _ _) (b2c_in c a).2
def b2q (c : List Int) (a : Int) : Int := a + 2 + (6 * b3d c a + 1) * b2c c a
def b2v (c : List Int) (a : Int) : Int := nx c (b2q c a) 16
theorem b2q_in (c : List Int) (a : Int) : a ≤ b2q c a ∧ b2q c a ≤ a + 1000 := by
  have h1 := (b2c_in c a).2
  have h2 := (b3d_in c a).2
  have h3 : (6 * (b3d c a : Int) + 1) * b2c c a ≤ 19 * 9 := Int.mul_le_mul (by omega) (by omega) (by omega) (by omega)
  have h4 : 0 ≤ (6 * (b3d c a : Int) + 1) * b2c c a := Int.mul_nonneg (by omega) (by omega)
  unfold b2q; omega
def ixV (c : List Int) (q : Int) (d k : Nat) : List Pair := (List.range k).map fun (i : Nat) => ⟨i, rectV c (q + 6 * d * i) d⟩
def b2n (c : List Int) (a : Int) : Nat := (pk c (b2q c a + 2) [60, 61]).toNat
theorem b2n_in (c : List Int) (a : Int) : pk c (b2q c a + 2) [60, 61] = (b2n c a : Int) ∧ b2n c a ≤ 61 := by
  have h := pk_mem (c := c) (a := b2q c a + 2) (xs := [60, 61]) (by simp)
  simp only [List.mem_cons, List.not_mem_nil, or_false] at h
  unfold b2n; omega
def bq (c : List Int) (a : Int) : BQ :=
  if b2v c a = 0 then ⟨b2e c a ++ [⟨pk c (b2q c a + 1) [-1, 1000, 0, 999], rectV c (b2q c a + 2) (b3d c a)⟩], b3d c a, b2q c a + 2 + 6 * b3d c a⟩
  else if b2v c a = 1 then ⟨b2e c a ++ [⟨998, bentV c (b2q c a + 1) (b3d c a)⟩], b3d c a, bentA c (b2q c a + 1) (b3d c a)⟩
  else if b2v c a = 2 then ⟨b2e c a, pk c (b2q c a + 1) [1, 4, 2, 3], b2q c a + 2⟩
  else if b2v c a = 3 then (if nx c (b2q c a + 1) 2 = 0 then ⟨ixV c (b2q c a + 3) (b3d c a) (b2n c a), b3d c a, b2q c a + 3 + 6 * b3d c a * b2n c a⟩ else ⟨b2e c a, b3d c a, b2q c a + 2⟩)
  else ⟨b2e c a, b3d c a, b2q c a + 1⟩
theorem bq_p (c : List Int) (a : Int) : a ≤ (bq c a).p ∧ (bq c a).p ≤ a + 61000 := by
  have h1 := b2q_in c a
  have h2 := (b3d_in c a).2
  have h3 := bentA_in c (b2q c a + 1) (b3d c a)
  have h4 := (b2n_in c a).2
  have h5 : 6 * (b3d c a : Int) * b2n c a ≤ 18 * 61 := Int.mul_le_mul (by omega) (by omega) (by omega) (by omega)
  have h6 : 0 ≤ 6 * (b3d c a : Int) * b2n c a := Int.mul_nonneg (by omega) (by omega)
  unfold bq
  (repeat' split) <;> simp only <;> omega
theorem wPs_le {xs : List Pair} {m : Nat} (h : ∀ x ∈ xs, wR x.rect ≤ m) : wPs xs ≤ (m + 1) * xs.length := by
  induction xs with
  | nil => exact Nat.zero_le _
  | cons y ys ih =>
    have e : wPs (y :: ys) = 1 + wR y.rect + wPs ys := by unfold wPs sumW; simp; omega
    have h2 := h y (List.mem_cons_self ..)
    have h3 := ih fun x hx => h x (List.mem_cons_of_mem _ hx)
    rw [e, List.length_cons, Nat.mul_add]; omega
theorem bq_w (c : List Int) (a : Int) : wPs (bq c a).l ≤ 1000 := by
  have h2 := (b3d_in c a).2
  have hl := b2e_len c a
  have hn := (b2n_in c a).2
  have he : ∀ x ∈ b2e c a, wR x.rect ≤ 7 := fun x hx => Nat.le_trans (drV_w _ _ _ _ x hx) (by omega)
  have key : ∀ xs : List Pair, (∀ x ∈ xs, wR x.rect ≤ 7) → xs.length ≤ 61 → wPs xs ≤ 1000 := fun xs h hx => by
    have := wPs_le h
    omega
  have one : ∀ p : Pair, wR p.rect ≤ 7 → wPs (b2e c a ++ [p]) ≤ 1000 := fun p hp => key _ (fun x hx => by
    rcases List.mem_append.1 hx with h | h
    · exact he x h
    · rw [List.mem_singleton.1 h]; exact hp) (by rw [List.length_append]; simp; omega)
  unfold bq
  split
  · exact one _ (by rw [rectV_w]; omega)
  split
  · exact one _ (Nat.le_trans (bentV_w _ _ _) (by omega))
  split
  · show wPs (b2e c a) ≤ 1000
    exact key _ he (by omega)
  split
  · split
    · show wPs (ixV c (b2q c a + 3) (b3d c a) (b2n c a)) ≤ 1000
      refine key _ (fun x hx => ?_) (by simp [ixV]; omega)
      simp only [ixV, List.mem_map] at hx
      obtain ⟨i, _, rfl⟩ := hx
      rw [rectV_w]; omega
    · show wPs (b2e c a) ≤ 1000
      exact key _ he (by omega)
  · show wPs (b2e c a) ≤ 1000
    exact key _ he (by omega)
theorem s_l2Bent0 (c : List Int) (a : Int) (hc : codeOk c) (h0 : 0 ≤ a) (h1 : a ≤ 1070000000) (hv : b2v c a = 0) : SatG Try.prog 51 false [.ptr 1 0] [(1, bSrc c a)] (.tup [.c (sP (bq c a).l), iT (bq c a).d]) [(1, bSrc c (bq c a).p)] := by
  have ev : bq c a = ⟨b2e c a ++ [(⟨pk c (b2q c a + 1) [-1, 1000, 0, 999], rectV c (b2q c a + 2) (b3d c a)⟩ : Pair)], (b3d c a : Int), b2q c a + 2 + 6 * b3d c a⟩ := by unfold bq; simp [hv]
  rw [ev]
  have h : SatG Try.prog 51 false [.ptr 1 0] [(1, bSrc c a)] (.tup [.ref 2, iT ((b3d c a : Int))]) ((1, bSrc c (b2q c a + 2 + 6 * b3d c a)) :: [(2, .fro 3 ((b2e c a ++ [(⟨pk c (b2q c a + 1) [-1, 1000, 0, 999], rectV c (b2q c a + 2) (b3d c a)⟩ : Pair)]).map eP))]) := by
    refine satG_walk (fn := Try.f51) rfl rfl rfl (Nat.le_of_ble_eq_true rfl) (by simp) fun fr hP hN hdp hb1 hb2 => ?_
    have hE : (envOf fr Try.prog).Ok := envOf_ok hP
    have hM := follows_of hP
    have hS : ∀ {draw ops}, statB Try.f51.ntmps draw ops = true → statB (envOf fr Try.prog).fr.N draw ops = true := fun h => by rw [envOf_fr, hN]; exact h
    obtain ⟨d1, d2⟩ := b3d_in c a
    obtain ⟨n1, n2⟩ := b2c_in c a
    have q := b2q_in c a
    have le := b2e_len c a
    have t0 : Int.toNat 0 = 0 := rfl
    have k1 := s_l1Dims c a hc (by omega) (by omega)
    rw [d1] at k1
    have k2 := s_l1Pick c (a + 1) [0, 1, 3, 6, 9] hc (by omega) (by omega) (by simp) (by simp)
    rw [n1, show a + 1 + 1 = a + 2 by omega] at k2
    have k4 := s_l2Draw c (a + 2) (b3d c a) (b2c c a) hc (by omega) (by omega) (by omega) (by omega) (by omega)
    rw [show drV c (a + 2) (b3d c a) (b2c c a) = b2e c a from rfl, show a + 2 + (6 * (b3d c a : Int) + 1) * (b2c c a : Int) = b2q c a from rfl] at k4
    have k5 := s_l1Next c (b2q c a) 16 hc (by omega) (by omega) (by omega) (by omega)
    rw [show nx c (b2q c a) 16 = b2v c a from rfl] at k5
    have k6 := s_l1Pick c (b2q c a + 1) [-1, 1000, 0, 999] hc (by omega) (by omega) (by simp) (by simp)
    rw [show b2q c a + 1 + 1 = b2q c a + 2 by omega] at k6
    have k7 := s_l1Rect c (b2q c a + 2) (b3d c a) hc (by omega) (by omega) (by omega) (by omega)
    repeat' (first
      | exact True.intro
      | refine ev_seq ?_
      | ((first | refine endG_ret [(2, some 20552)] hE rfl ?_ | refine vgd_go ?_ | refine ev_region hE hM (hS (by decide +kernel)) ?_ | refine ev_if ?_ | refine end_ret hE rfl rfl ?_ | refine end_norm hE rfl rfl ?_ | refine endG_ret [] hE rfl ?_ | refine endG_norm [] hE rfl ?_ | refine vcallG_at (args := [.ptr 1 0]) 1 [] rfl hP (k1) ?_ | refine vcallG_at (args := [.ptr 1 0, .ref 8216]) 1 [8216] rfl hP (k2) ?_ | refine vcallG_at (args := [.ptr 1 0, iT (b3d c a), iT (b2c c a)]) 1 [] rfl hP (k4) ?_ | refine vcallG_at (args := [.ptr 1 0, iT 16]) 1 [] rfl hP (k5) ?_ | refine vcallG_at (args := [.ptr 1 0, .ref 20496]) 1 [20496] rfl hP (k6) ?_ | refine vcallG_at (args := [.ptr 1 0, iT (b3d c a)]) 1 [] rfl hP (k7) ?_ | refine vcall_A ?_); simp (maxSteps := 2000000) only [go_sem, hP, ↓reduceIte, Nat.reduceAdd, Nat.reduceMul, Nat.reduceEqDiff, Nat.reduceSub, Nat.reduceLeDiff, reduceCtorEq, List.length_map, Bool.and_self, Int.reduceBEq, t0, Cs.strip, C.strip, hv, rectV, eP_eq])
      | refine ev_skip ?_ | refine ev_block ?_ | refine ev_blk ?_ | refine ev_ret ?_ | refine ev_exit ?_ | refine evx_code_ret ?_ | refine evx_blk_ret ?_ | refine evx_lp_ret ?_
      | refine evx_code_exit ?_ | refine evx_lp_exit ?_ | refine evx_blk_hit ?_ | refine evx_blk_pass (by decide) ?_
      | refine And.intro ?_ ?_ | intro _ | decide +kernel | omega)
    all_goals first
      | rfl
      | (exfalso; omega)
      | omega
      | (rename_i h; exact h.symm)
      | (simp [eP_eq]; done)
      | (simp [strip_oP]; done)
      | (simp_all; done)
      | trace_state
  exact satG_data (fz := [(2, .fro 3 ((b2e c a ++ [(⟨pk c (b2q c a + 1) [-1, 1000, 0, 999], rectV c (b2q c a + 2) (b3d c a)⟩ : Pair)]).map eP))]) (fun κ h => by simp only [lk] at h; split at h <;> simp_all) trivial rfl h
theorem s_l2Bent1 (c : List Int) (a : Int) (hc : codeOk c) (h0 : 0 ≤ a) (h1 : a ≤ 1070000000) (hv : b2v c a = 1) : SatG Try.prog 51 false [.ptr 1 0] [(1, bSrc c a)] (.tup [.c (sP (bq c a).l), iT (bq c a).d]) [(1, bSrc c (bq c a).p)] := by
  have ev : bq c a = ⟨b2e c a ++ [(⟨998, bentV c (b2q c a + 1) (b3d c a)⟩ : Pair)], (b3d c a : Int), bentA c (b2q c a + 1) (b3d c a)⟩ := by unfold bq; simp [hv]
  rw [ev]
  have h : SatG Try.prog 51 false [.ptr 1 0] [(1, bSrc c a)] (.tup [.ref 2, iT ((b3d c a : Int))]) ((1, bSrc c (bentA c (b2q c a + 1) (b3d c a))) :: [(2, .fro 3 ((b2e c a ++ [(⟨998, bentV c (b2q c a + 1) (b3d c a)⟩ : Pair)]).map eP))]) := by
    refine satG_walk (fn := Try.f51) rfl rfl rfl (Nat.le_of_ble_eq_true rfl) (by simp) fun fr hP hN hdp hb1 hb2 => ?_
    have hE : (envOf fr Try.prog).Ok := envOf_ok hP
    have hM := follows_of hP
    have hS : ∀ {draw ops}, statB Try.f51.ntmps draw ops = true → statB (envOf fr Try.prog).fr.N draw ops = true := fun h => by rw [envOf_fr, hN]; exact h
    obtain ⟨d1, d2⟩ := b3d_in c a
    obtain ⟨n1, n2⟩ := b2c_in c a
    have q := b2q_in c a
    have le := b2e_len c a
    have t0 : Int.toNat 0 = 0 := rfl
    have k1 := s_l1Dims c a hc (by omega) (by omega)
    rw [d1] at k1
    have k2 := s_l1Pick c (a + 1) [0, 1, 3, 6, 9] hc (by omega) (by omega) (by simp) (by simp)
    rw [n1, show a + 1 + 1 = a + 2 by omega] at k2
    have k4 := s_l2Draw c (a + 2) (b3d c a) (b2c c a) hc (by omega) (by omega) (by omega) (by omega) (by omega)
    rw [show drV c (a + 2) (b3d c a) (b2c c a) = b2e c a from rfl, show a + 2 + (6 * (b3d c a : Int) + 1) * (b2c c a : Int) = b2q c a from rfl] at k4
    have k5 := s_l1Next c (b2q c a) 16 hc (by omega) (by omega) (by omega) (by omega)
    rw [show nx c (b2q c a) 16 = b2v c a from rfl] at k5
    have k7 := s_l1Bent c (b2q c a + 1) (b3d c a) hc (by omega) (by omega) (by omega) (by omega)
    repeat' (first
      | exact True.intro
      | refine ev_seq ?_
      | ((first | refine endG_ret [(2, some 28720)] hE rfl ?_ | refine vgd_go ?_ | refine ev_region hE hM (hS (by decide +kernel)) ?_ | refine ev_if ?_ | refine end_ret hE rfl rfl ?_ | refine end_norm hE rfl rfl ?_ | refine endG_ret [] hE rfl ?_ | refine endG_norm [] hE rfl ?_ | refine vcallG_at (args := [.ptr 1 0]) 1 [] rfl hP (k1) ?_ | refine vcallG_at (args := [.ptr 1 0, .ref 8216]) 1 [8216] rfl hP (k2) ?_ | refine vcallG_at (args := [.ptr 1 0, iT (b3d c a), iT (b2c c a)]) 1 [] rfl hP (k4) ?_ | refine vcallG_at (args := [.ptr 1 0, iT 16]) 1 [] rfl hP (k5) ?_ | refine vcallG_at (args := [.ptr 1 0, iT (b3d c a)]) 1 [] rfl hP (k7) ?_ | refine vcall_A ?_); simp (maxSteps := 2000000) only [go_sem, hP, ↓reduceIte, Nat.reduceAdd, Nat.reduceMul, Nat.reduceEqDiff, Nat.reduceSub, Nat.reduceLeDiff, reduceCtorEq, List.length_map, Bool.and_self, Int.reduceBEq, t0, Cs.strip, C.strip, hv, eP_eq])
      | refine ev_skip ?_ | refine ev_block ?_ | refine ev_blk ?_ | refine ev_ret ?_ | refine ev_exit ?_ | refine evx_code_ret ?_ | refine evx_blk_ret ?_ | refine evx_lp_ret ?_
      | refine evx_code_exit ?_ | refine evx_lp_exit ?_ | refine evx_blk_hit ?_ | refine evx_blk_pass (by decide) ?_
      | refine And.intro ?_ ?_ | intro _ | decide +kernel | omega)
    all_goals first
      | rfl
      | (exfalso; omega)
      | omega
      | (rename_i h; exact h.symm)
      | (simp [eP_eq]; done)
      | (simp [strip_oP]; done)
      | (simp_all; done)
      | trace_state
  exact satG_data (fz := [(2, .fro 3 ((b2e c a ++ [(⟨998, bentV c (b2q c a + 1) (b3d c a)⟩ : Pair)]).map eP))]) (fun κ h => by simp only [lk] at h; split at h <;> simp_all) trivial rfl h
theorem s_l2Bent2 (c : List Int) (a : Int) (hc : codeOk c) (h0 : 0 ≤ a) (h1 : a ≤ 1070000000) (hv : b2v c a = 2) : SatG Try.prog 51 false [.ptr 1 0] [(1, bSrc c a)] (.tup [.c (sP (bq c a).l), iT (bq c a).d]) [(1, bSrc c (bq c a).p)] := by
  have ev : bq c a = ⟨b2e c a, pk c (b2q c a + 1) [1, 4, 2, 3], b2q c a + 2⟩ := by unfold bq; simp [hv]
  rw [ev]
  have h : SatG Try.prog 51 false [.ptr 1 0] [(1, bSrc c a)] (.tup [.ref 2, iT (pk c (b2q c a + 1) [1, 4, 2, 3])]) ((1, bSrc c (b2q c a + 2)) :: [(2, .fro 3 ((b2e c a).map eP))]) := by
    refine satG_walk (fn := Try.f51) rfl rfl rfl (Nat.le_of_ble_eq_true rfl) (by simp) fun fr hP hN hdp hb1 hb2 => ?_
    have hE : (envOf fr Try.prog).Ok := envOf_ok hP
    have hM := follows_of hP
    have hS : ∀ {draw ops}, statB Try.f51.ntmps draw ops = true → statB (envOf fr Try.prog).fr.N draw ops = true := fun h => by rw [envOf_fr, hN]; exact h
    obtain ⟨d1, d2⟩ := b3d_in c a
    obtain ⟨n1, n2⟩ := b2c_in c a
    have q := b2q_in c a
    have le := b2e_len c a
    have t0 : Int.toNat 0 = 0 := rfl
    have k1 := s_l1Dims c a hc (by omega) (by omega)
    rw [d1] at k1
    have k2 := s_l1Pick c (a + 1) [0, 1, 3, 6, 9] hc (by omega) (by omega) (by simp) (by simp)
    rw [n1, show a + 1 + 1 = a + 2 by omega] at k2
    have k4 := s_l2Draw c (a + 2) (b3d c a) (b2c c a) hc (by omega) (by omega) (by omega) (by omega) (by omega)
    rw [show drV c (a + 2) (b3d c a) (b2c c a) = b2e c a from rfl, show a + 2 + (6 * (b3d c a : Int) + 1) * (b2c c a : Int) = b2q c a from rfl] at k4
    have k5 := s_l1Next c (b2q c a) 16 hc (by omega) (by omega) (by omega) (by omega)
    rw [show nx c (b2q c a) 16 = b2v c a from rfl] at k5
    have k6 := s_l1Pick c (b2q c a + 1) [1, 4, 2, 3] hc (by omega) (by omega) (by simp) (by simp)
    rw [show b2q c a + 1 + 1 = b2q c a + 2 by omega] at k6
    repeat' (first
      | exact True.intro
      | refine ev_seq ?_
      | ((first | refine endG_ret [(2, some 2105384)] hE rfl ?_ | refine vgd_go ?_ | refine ev_region hE hM (hS (by decide +kernel)) ?_ | refine ev_if ?_ | refine end_ret hE rfl rfl ?_ | refine end_norm hE rfl rfl ?_ | refine endG_ret [] hE rfl ?_ | refine endG_norm [] hE rfl ?_ | refine vcallG_at (args := [.ptr 1 0]) 1 [] rfl hP (k1) ?_ | refine vcallG_at (args := [.ptr 1 0, .ref 8216]) 1 [8216] rfl hP (k2) ?_ | refine vcallG_at (args := [.ptr 1 0, iT (b3d c a), iT (b2c c a)]) 1 [] rfl hP (k4) ?_ | refine vcallG_at (args := [.ptr 1 0, iT 16]) 1 [] rfl hP (k5) ?_ | refine vcallG_at (args := [.ptr 1 0, .ref 36872]) 1 [36872] rfl hP (k6) ?_ | refine vcall_A ?_); simp (maxSteps := 2000000) only [go_sem, hP, ↓reduceIte, Nat.reduceAdd, Nat.reduceMul, Nat.reduceEqDiff, Nat.reduceSub, Nat.reduceLeDiff, reduceCtorEq, List.length_map, Bool.and_self, Int.reduceBEq, t0, Cs.strip, C.strip, hv])
      | refine ev_skip ?_ | refine ev_block ?_ | refine ev_blk ?_ | refine ev_ret ?_ | refine ev_exit ?_ | refine evx_code_ret ?_ | refine evx_blk_ret ?_ | refine evx_lp_ret ?_
      | refine evx_code_exit ?_ | refine evx_lp_exit ?_ | refine evx_blk_hit ?_ | refine evx_blk_pass (by decide) ?_
      | refine And.intro ?_ ?_ | intro _ | decide +kernel | omega)
    all_goals first
      | rfl
      | (exfalso; omega)
      | omega
      | (rename_i h; exact h.symm)
      | (simp [eP_eq]; done)
      | (simp [strip_oP]; done)
      | (simp_all; done)
      | trace_state
  exact satG_data (fz := [(2, .fro 3 ((b2e c a).map eP))]) (fun κ h => by simp only [lk] at h; split at h <;> simp_all) trivial rfl h
theorem s_l2Bent3n (c : List Int) (a : Int) (hc : codeOk c) (h0 : 0 ≤ a) (h1 : a ≤ 1070000000) (hv : b2v c a = 3) (hx : ¬ nx c (b2q c a + 1) 2 = 0) : SatG Try.prog 51 false [.ptr 1 0] [(1, bSrc c a)] (.tup [.c (sP (bq c a).l), iT (bq c a).d]) [(1, bSrc c (bq c a).p)] := by
  have ev : bq c a = ⟨b2e c a, (b3d c a : Int), b2q c a + 2⟩ := by unfold bq; simp [hv, hx]
  rw [ev]
  have h : SatG Try.prog 51 false [.ptr 1 0] [(1, bSrc c a)] (.tup [.ref 2, iT ((b3d c a : Int))]) ((1, bSrc c (b2q c a + 2)) :: [(2, .fro 3 ((b2e c a).map eP))]) := by
    refine satG_walk (fn := Try.f51) rfl rfl rfl (Nat.le_of_ble_eq_true rfl) (by simp) fun fr hP hN hdp hb1 hb2 => ?_
    have hE : (envOf fr Try.prog).Ok := envOf_ok hP
    have hM := follows_of hP
    have hS : ∀ {draw ops}, statB Try.f51.ntmps draw ops = true → statB (envOf fr Try.prog).fr.N draw ops = true := fun h => by rw [envOf_fr, hN]; exact h
    obtain ⟨d1, d2⟩ := b3d_in c a
    obtain ⟨n1, n2⟩ := b2c_in c a
    have q := b2q_in c a
    have le := b2e_len c a
    have t0 : Int.toNat 0 = 0 := rfl
    have k1 := s_l1Dims c a hc (by omega) (by omega)
    rw [d1] at k1
    have k2 := s_l1Pick c (a + 1) [0, 1, 3, 6, 9] hc (by omega) (by omega) (by simp) (by simp)
    rw [n1, show a + 1 + 1 = a + 2 by omega] at k2
    have k4 := s_l2Draw c (a + 2) (b3d c a) (b2c c a) hc (by omega) (by omega) (by omega) (by omega) (by omega)
    rw [show drV c (a + 2) (b3d c a) (b2c c a) = b2e c a from rfl, show a + 2 + (6 * (b3d c a : Int) + 1) * (b2c c a : Int) = b2q c a from rfl] at k4
    have k5 := s_l1Next c (b2q c a) 16 hc (by omega) (by omega) (by omega) (by omega)
    rw [show nx c (b2q c a) 16 = b2v c a from rfl] at k5
    have k6 := s_l1Chance c (b2q c a + 1) 2 hc (by omega) (by omega) (by omega) (by omega)
    rw [show b2q c a + 1 + 1 = b2q c a + 2 by omega] at k6
    have hx' : (nx c (b2q c a + 1) 2 == 0) = false := beq_eq_false_iff_ne.2 hx
    repeat' (first
      | exact True.intro
      | refine ev_seq ?_
      | ((first | refine endG_ret [(2, some 2105384)] hE rfl ?_ | refine vgd_go ?_ | refine ev_region hE hM (hS (by decide +kernel)) ?_ | refine ev_if ?_ | refine end_ret hE rfl rfl ?_ | refine end_norm hE rfl rfl ?_ | refine endG_ret [] hE rfl ?_ | refine endG_norm [] hE rfl ?_ | refine vcallG_at (args := [.ptr 1 0]) 1 [] rfl hP (k1) ?_ | refine vcallG_at (args := [.ptr 1 0, .ref 8216]) 1 [8216] rfl hP (k2) ?_ | refine vcallG_at (args := [.ptr 1 0, iT (b3d c a), iT (b2c c a)]) 1 [] rfl hP (k4) ?_ | refine vcallG_at (args := [.ptr 1 0, iT 16]) 1 [] rfl hP (k5) ?_ | refine vcallG_at (args := [.ptr 1 0, iT 2]) 1 [] rfl hP (k6) ?_ | refine vcall_A ?_); simp (maxSteps := 2000000) only [go_sem, hP, ↓reduceIte, Nat.reduceAdd, Nat.reduceMul, Nat.reduceEqDiff, Nat.reduceSub, Nat.reduceLeDiff, reduceCtorEq, List.length_map, Bool.and_self, Int.reduceBEq, t0, Cs.strip, C.strip, hv, hx'])
      | refine ev_skip ?_ | refine ev_block ?_ | refine ev_blk ?_ | refine ev_ret ?_ | refine ev_exit ?_ | refine evx_code_ret ?_ | refine evx_blk_ret ?_ | refine evx_lp_ret ?_
      | refine evx_code_exit ?_ | refine evx_lp_exit ?_ | refine evx_blk_hit ?_ | refine evx_blk_pass (by decide) ?_
      | refine And.intro ?_ ?_ | intro _ | decide +kernel | omega)
    all_goals first
      | rfl
      | (exfalso; omega)
      | omega
      | (rename_i h; exact h.symm)
      | (simp [eP_eq]; done)
      | (simp [strip_oP]; done)
      | (simp_all; done)
      | trace_state
  exact satG_data (fz := [(2, .fro 3 ((b2e c a).map eP))]) (fun κ h => by simp only [lk] at h; split at h <;> simp_all) trivial rfl h
theorem s_l2Bent4 (c : List Int) (a : Int) (hc : codeOk c) (h0 : 0 ≤ a) (h1 : a ≤ 1070000000) (g0 : b2v c a ≠ 0) (g1 : b2v c a ≠ 1) (g2 : b2v c a ≠ 2) (g3 : b2v c a ≠ 3) : SatG Try.prog 51 false [.ptr 1 0] [(1, bSrc c a)] (.tup [.c (sP (bq c a).l), iT (bq c a).d]) [(1, bSrc c (bq c a).p)] := by
  have ev : bq c a = ⟨b2e c a, (b3d c a : Int), b2q c a + 1⟩ := by unfold bq; simp [g0, g1, g2, g3]
  rw [ev]
  have h : SatG Try.prog 51 false [.ptr 1 0] [(1, bSrc c a)] (.tup [.ref 2, iT ((b3d c a : Int))]) ((1, bSrc c (b2q c a + 1)) :: [(2, .fro 3 ((b2e c a).map eP))]) := by
    refine satG_walk (fn := Try.f51) rfl rfl rfl (Nat.le_of_ble_eq_true rfl) (by simp) fun fr hP hN hdp hb1 hb2 => ?_
    have hE : (envOf fr Try.prog).Ok := envOf_ok hP
    have hM := follows_of hP
    have hS : ∀ {draw ops}, statB Try.f51.ntmps draw ops = true → statB (envOf fr Try.prog).fr.N draw ops = true := fun h => by rw [envOf_fr, hN]; exact h
    obtain ⟨d1, d2⟩ := b3d_in c a
    obtain ⟨n1, n2⟩ := b2c_in c a
    have q := b2q_in c a
    have le := b2e_len c a
    have t0 : Int.toNat 0 = 0 := rfl
    have k1 := s_l1Dims c a hc (by omega) (by omega)
    rw [d1] at k1
    have k2 := s_l1Pick c (a + 1) [0, 1, 3, 6, 9] hc (by omega) (by omega) (by simp) (by simp)
    rw [n1, show a + 1 + 1 = a + 2 by omega] at k2
    have k4 := s_l2Draw c (a + 2) (b3d c a) (b2c c a) hc (by omega) (by omega) (by omega) (by omega) (by omega)
    rw [show drV c (a + 2) (b3d c a) (b2c c a) = b2e c a from rfl, show a + 2 + (6 * (b3d c a : Int) + 1) * (b2c c a : Int) = b2q c a from rfl] at k4
    have k5 := s_l1Next c (b2q c a) 16 hc (by omega) (by omega) (by omega) (by omega)
    rw [show nx c (b2q c a) 16 = b2v c a from rfl] at k5
    have b0 : (b2v c a == 0) = false := beq_eq_false_iff_ne.2 g0
    have b1 : (b2v c a == 1) = false := beq_eq_false_iff_ne.2 g1
    have b2 : (b2v c a == 2) = false := beq_eq_false_iff_ne.2 g2
    have b3 : (b2v c a == 3) = false := beq_eq_false_iff_ne.2 g3
    repeat' (first
      | exact True.intro
      | refine ev_seq ?_
      | ((first | refine endG_ret [(2, some 2105384)] hE rfl ?_ | refine vgd_go ?_ | refine ev_region hE hM (hS (by decide +kernel)) ?_ | refine ev_if ?_ | refine end_ret hE rfl rfl ?_ | refine end_norm hE rfl rfl ?_ | refine endG_ret [] hE rfl ?_ | refine endG_norm [] hE rfl ?_ | refine vcallG_at (args := [.ptr 1 0]) 1 [] rfl hP (k1) ?_ | refine vcallG_at (args := [.ptr 1 0, .ref 8216]) 1 [8216] rfl hP (k2) ?_ | refine vcallG_at (args := [.ptr 1 0, iT (b3d c a), iT (b2c c a)]) 1 [] rfl hP (k4) ?_ | refine vcallG_at (args := [.ptr 1 0, iT 16]) 1 [] rfl hP (k5) ?_ | refine vcall_A ?_); simp (maxSteps := 2000000) only [go_sem, hP, ↓reduceIte, Nat.reduceAdd, Nat.reduceMul, Nat.reduceEqDiff, Nat.reduceSub, Nat.reduceLeDiff, reduceCtorEq, List.length_map, Bool.and_self, Int.reduceBEq, t0, Cs.strip, C.strip, b0, b1, b2, b3])
      | refine ev_skip ?_ | refine ev_block ?_ | refine ev_blk ?_ | refine ev_ret ?_ | refine ev_exit ?_ | refine evx_code_ret ?_ | refine evx_blk_ret ?_ | refine evx_lp_ret ?_
      | refine evx_code_exit ?_ | refine evx_lp_exit ?_ | refine evx_blk_hit ?_ | refine evx_blk_pass (by decide) ?_
      | refine And.intro ?_ ?_ | intro _ | decide +kernel | omega)
    all_goals first
      | rfl
      | (exfalso; omega)
      | omega
      | (rename_i h; exact h.symm)
      | (simp [eP_eq]; done)
      | (simp [strip_oP]; done)
      | (simp_all; done)
      | trace_state
  exact satG_data (fz := [(2, .fro 3 ((b2e c a).map eP))]) (fun κ h => by simp only [lk] at h; split at h <;> simp_all) trivial rfl h
theorem s_l2Bent3 (c : List Int) (a : Int) (hc : codeOk c) (h0 : 0 ≤ a) (h1 : a ≤ 1070000000) (hv : b2v c a = 3) (hx : nx c (b2q c a + 1) 2 = 0) : SatG Try.prog 51 false [.ptr 1 0] [(1, bSrc c a)] (.tup [.c (sP (bq c a).l), iT (bq c a).d]) [(1, bSrc c (bq c a).p)] := by
  have ev : bq c a = ⟨ixV c (b2q c a + 3) (b3d c a) (b2n c a), (b3d c a : Int), b2q c a + 3 + 6 * b3d c a * b2n c a⟩ := by unfold bq; simp [hv, hx]
  rw [ev]
  have h : SatG Try.prog 51 false [.ptr 1 0] [(1, bSrc c a)] (.tup [.ref 2, iT ((b3d c a : Int))]) ((1, bSrc c (b2q c a + 3 + 6 * b3d c a * b2n c a)) :: [(2, .fro 3 ((ixV c (b2q c a + 3) (b3d c a) (b2n c a)).map eP))]) := by
    refine satG_walk (fn := Try.f51) rfl rfl rfl (Nat.le_of_ble_eq_true rfl) (by simp) fun fr hP hN hdp hb1 hb2 => ?_
    have hE : (envOf fr Try.prog).Ok := envOf_ok hP
    have hM := follows_of hP
    have hS : ∀ {draw ops}, statB Try.f51.ntmps draw ops = true → statB (envOf fr Try.prog).fr.N draw ops = true := fun h => by rw [envOf_fr, hN]; exact h
    obtain ⟨d1, d2⟩ := b3d_in c a
    obtain ⟨n1, n2⟩ := b2c_in c a
    have q := b2q_in c a
    have le := b2e_len c a
    have t0 : Int.toNat 0 = 0 := rfl
    have k1 := s_l1Dims c a hc (by omega) (by omega)
    rw [d1] at k1
    have k2 := s_l1Pick c (a + 1) [0, 1, 3, 6, 9] hc (by omega) (by omega) (by simp) (by simp)
    rw [n1, show a + 1 + 1 = a + 2 by omega] at k2
    have k4 := s_l2Draw c (a + 2) (b3d c a) (b2c c a) hc (by omega) (by omega) (by omega) (by omega) (by omega)
    rw [show drV c (a + 2) (b3d c a) (b2c c a) = b2e c a from rfl, show a + 2 + (6 * (b3d c a : Int) + 1) * (b2c c a : Int) = b2q c a from rfl] at k4
    have k5 := s_l1Next c (b2q c a) 16 hc (by omega) (by omega) (by omega) (by omega)
    rw [show nx c (b2q c a) 16 = b2v c a from rfl] at k5
    obtain ⟨x1, x2⟩ := b2n_in c a
    have k6 := s_l1Chance c (b2q c a + 1) 2 hc (by omega) (by omega) (by omega) (by omega)
    rw [show b2q c a + 1 + 1 = b2q c a + 2 by omega] at k6
    have hx' : (nx c (b2q c a + 1) 2 == 0) = true := by simp [hx]
    have k8 := s_l1Pick c (b2q c a + 2) [60, 61] hc (by omega) (by omega) (by simp) (by simp)
    rw [x1, show b2q c a + 2 + 1 = b2q c a + 3 by omega] at k8
    repeat' (first
      | exact True.intro
      | refine ev_seq ?_
      | ((first | refine vgd_go ?_ | refine ev_region hE hM (hS (by decide +kernel)) ?_ | refine ev_if ?_ | refine end_ret hE rfl rfl ?_ | refine end_norm hE rfl rfl ?_ | refine endG_ret [] hE rfl ?_ | refine endG_norm [] hE rfl ?_ | refine vcallG_at (args := [.ptr 1 0]) 1 [] rfl hP (k1) ?_ | refine vcallG_at (args := [.ptr 1 0, .ref 8216]) 1 [8216] rfl hP (k2) ?_ | refine vcallG_at (args := [.ptr 1 0, iT (b3d c a), iT (b2c c a)]) 1 [] rfl hP (k4) ?_ | refine vcallG_at (args := [.ptr 1 0, iT 16]) 1 [] rfl hP (k5) ?_ | refine vcallG_at (args := [.ptr 1 0, iT 2]) 1 [] rfl hP (k6) ?_ | refine vcallG_at (args := [.ptr 1 0, .ref 53256]) 1 [53256] rfl hP (k8) ?_ | refine vcall_A ?_); simp (maxSteps := 2000000) only [go_sem, hP, ↓reduceIte, Nat.reduceAdd, Nat.reduceMul, Nat.reduceEqDiff, Nat.reduceSub, Nat.reduceLeDiff, reduceCtorEq, List.length_map, Bool.and_self, Int.reduceBEq, t0, Cs.strip, C.strip, hv, hx'])
      | refine ev_skip ?_ | refine ev_block ?_ | refine ev_blk ?_ | refine ev_ret ?_ | refine ev_exit ?_ | refine evx_code_ret ?_ | refine evx_blk_ret ?_ | refine evx_lp_ret ?_
      | refine evx_code_exit ?_ | refine evx_lp_exit ?_ | refine evx_blk_hit ?_ | refine evx_blk_pass (by decide) ?_
      | refine And.intro ?_ ?_ | intro _ | decide +kernel | omega)
    any_goals (show _ = Es.strip _; rfl)
    refine ev_loop (ι := Nat) (fun k => [(0, .ptr 1 0), (4, iT (b3d c a)), (5, .ref 100000), (6, iT (b2n c a))]) (fun k => [(1, bSrc c (b2q c a + 3 + 6 * b3d c a * k)), (100000, .arr true 55 3 ((ixV c (b2q c a + 3) (b3d c a) k).map oP))]) (fun _ => [(0, .ref 1)]) (fun k => k ≤ b2n c a) (fun k => b2n c a - k) 0 [(100000, none)] (by omega) (by simp only [go_sem, hP, ↓reduceIte, Nat.reduceAdd, Nat.reduceMul, Nat.reduceEqDiff, Nat.reduceSub, Nat.reduceLeDiff, reduceCtorEq]; simp [ixV]) ?_
    intro k hk
    have hlen : (ixV c (b2q c a + 3) (b3d c a) k).length = k := by simp [ixV]
    have hl6 : 6 * (b3d c a : Int) * k ≤ 18 * 61 := Int.mul_le_mul (by omega) (by omega) (by omega) (by omega)
    have hg6 : 0 ≤ 6 * (b3d c a : Int) * k := Int.mul_nonneg (by omega) (by omega)
    have hn : b2q c a + 3 + 6 * (b3d c a : Int) * k + 6 * b3d c a = b2q c a + 3 + 6 * b3d c a * (k + 1) := by rw [Int.mul_add]; omega
    by_cases hlt : k < b2n c a
    · have hg : decide ((k : Int) < (b2n c a : Int)) = true := decide_eq_true (by omega)
      have hs : ixV c (b2q c a + 3) (b3d c a) (k + 1) = ixV c (b2q c a + 3) (b3d c a) k ++ [⟨k, rectV c (b2q c a + 3 + 6 * b3d c a * k) (b3d c a)⟩] := by simp [ixV, List.range_succ]
      repeat' (first
        | exact True.intro
        | refine ev_seq ?_
        | ((first | refine vgd_go ?_ | refine ev_region hE hM (hS (by decide +kernel)) ?_ | refine ev_if ?_ | refine end_ret hE rfl rfl ?_ | refine end_norm hE rfl rfl ?_ | refine endG_ret [] hE rfl ?_ | refine endG_norm [] hE rfl ?_ | refine vcallG_at (args := [.ptr 1 0, iT (b3d c a)]) 1 [] rfl hP (s_l1RectR c (b2q c a + 3 + 6 * b3d c a * k) (b3d c a) hc (by omega) (by omega) (by omega) (by omega)) ?_ | refine vcall_A ?_); simp (maxSteps := 2000000) only [go_sem, hP, ↓reduceIte, Nat.reduceAdd, Nat.reduceMul, Nat.reduceEqDiff, Nat.reduceSub, Nat.reduceLeDiff, reduceCtorEq, hg, hlen, List.length_map, Bool.and_self])
        | refine ev_skip ?_ | refine ev_block ?_ | refine ev_blk ?_ | refine ev_ret ?_ | refine ev_exit ?_ | refine evx_code_ret ?_ | refine evx_blk_ret ?_ | refine evx_lp_ret ?_
        | refine evx_code_exit ?_ | refine evx_lp_exit ?_ | refine evx_blk_hit ?_ | refine evx_blk_pass (by decide) ?_
        | refine And.intro ?_ ?_ | intro _ | decide +kernel | omega)
      all_goals first
        | exact ev_lp (k + 1) [(100000, some 61504)] (by omega) (by omega) (by simp only [go_sem, hP, ↓reduceIte, Nat.reduceAdd, Nat.reduceMul, Nat.reduceEqDiff, Nat.reduceSub, Nat.reduceLeDiff, reduceCtorEq]; rw [hs]; simp [hn, oP_eq, rectV])
        | (exfalso; omega)
        | omega
        | (simp_all; done)
        | trace_state
    · have hke : k = b2n c a := by omega
      subst hke
      have hg : decide ((b2n c a : Int) < (b2n c a : Int)) = false := by simp
      repeat' (first
        | exact True.intro
        | refine ev_seq ?_
        | ((first | refine endG_ret [(2, some 100000)] hE rfl ?_ | refine vgd_go ?_ | refine ev_region hE hM (hS (by decide +kernel)) ?_ | refine ev_if ?_ | refine end_ret hE rfl rfl ?_ | refine end_norm hE rfl rfl ?_ | refine endG_ret [] hE rfl ?_ | refine endG_norm [] hE rfl ?_ | refine vcall_A ?_); simp (maxSteps := 2000000) only [go_sem, hP, ↓reduceIte, Nat.reduceAdd, Nat.reduceMul, Nat.reduceEqDiff, Nat.reduceSub, Nat.reduceLeDiff, reduceCtorEq, hg, hlen, List.length_map])
        | refine ev_skip ?_ | refine ev_block ?_ | refine ev_blk ?_ | refine ev_ret ?_ | refine ev_exit ?_ | refine evx_code_ret ?_ | refine evx_blk_ret ?_ | refine evx_lp_ret ?_
        | refine evx_code_exit ?_ | refine evx_lp_exit ?_ | refine evx_blk_hit ?_ | refine evx_blk_pass (by decide) ?_
        | refine And.intro ?_ ?_ | intro _ | decide +kernel | omega)
      all_goals first
        | rfl
        | (exfalso; omega)
        | (simp_all; done)
        | trace_state
  exact satG_data (fz := [(2, .fro 3 ((ixV c (b2q c a + 3) (b3d c a) (b2n c a)).map eP))]) (fun κ h => by simp only [lk] at h; split at h <;> simp_all) trivial rfl h
theorem s_l2Bent (c : List Int) (a : Int) (hc : codeOk c) (h0 : 0 ≤ a) (h1 : a ≤ 1070000000) : SatG Try.prog 51 false [.ptr 1 0] [(1, bSrc c a)] (.tup [.c (sP (bq c a).l), iT (bq c a).d]) [(1, bSrc c (bq c a).p)] := by
  by_cases g0 : b2v c a = 0
  · exact s_l2Bent0 c a hc h0 h1 g0
  by_cases g1 : b2v c a = 1
  · exact s_l2Bent1 c a hc h0 h1 g1
  by_cases g2 : b2v c a = 2
  · exact s_l2Bent2 c a hc h0 h1 g2
  by_cases g3 : b2v c a = 3
  · by_cases hx : nx c (b2q c a + 1) 2 = 0
    · exact s_l2Bent3 c a hc h0 h1 g3 hx
    · exact s_l2Bent3n c a hc h0 h1 g3 hx
  exact s_l2Bent4 c a hc h0 h1 g0 g1 g2 g3
theorem pair_ext {a b : Pair} (h1 : a.id = b.id) (h2 : a.rect = b.rect) : a = b := by
  cases a; cases b; simp_all
def Ris (xs : List Pair) : Prop := xs.Pairwise (fun a b => a.id < b.id)
theorem addV_nil (p : Pair) : addV [] p = [p] := rfl
theorem addV_cons (y : Pair) (ys : List Pair) (p : Pair) : addV (y :: ys) p = if p.id < y.id then p :: y :: ys else y :: addV ys p := by
  unfold addV addAt
  by_cases h : p.id < y.id
  · simp [h, List.findIdx_cons]
  · by_cases ha : ys.any (fun q => decide (p.id < q.id)) = true
    · simp [h, ha, List.findIdx_cons]
    · simp [h, ha]
theorem findId_cons (y : Pair) (ys : List Pair) (r : Int) : findId (y :: ys) r = if y.id = r then 0 else if findId ys r < 0 then -1 else findId ys r + 1 := by
  unfold findId
  by_cases h : y.id = r
  · simp [h, List.findIdx_cons]
  · by_cases ha : ys.any (fun e => decide (e.id = r)) = true
    · simp only [List.any_cons, h, decide_false, Bool.false_or, ha, if_true, List.findIdx_cons, cond_false, if_false]
      rw [if_neg (by omega)]; simp
    · simp [h, ha]
theorem findId_no {r : Int} : ∀ {xs : List Pair}, findId xs r < 0 → ∀ x ∈ xs, x.id ≠ r
  | [], _, x, hx => by cases hx
  | y :: ys, h, x, hx => by
    rw [findId_cons] at h
    split at h
    · omega
    · rename_i hy
      split at h
      · rename_i h2
        rcases List.mem_cons.1 hx with rfl | hm
        · exact hy
        · exact findId_no h2 x hm
      · omega
theorem findId_none {r : Int} : ∀ {xs : List Pair}, (∀ x ∈ xs, x.id ≠ r) → findId xs r < 0
  | [], _ => by simp [findId]
  | y :: ys, h => by
    rw [findId_cons, if_neg (h y (List.mem_cons_self ..)), if_pos (findId_none fun x hx => h x (List.mem_cons_of_mem _ hx))]; decide
theorem findId_yes {xs : List Pair} {p : Pair} (h : p ∈ xs) : 0 ≤ findId xs p.id := by
  by_cases h1 : findId xs p.id < 0
  · exact absurd rfl (findId_no h1 p h)
  · omega
def erP (r : Int) : List Pair → List Pair
  | [] => []
  | y :: ys => if y.id = r then ys else y :: erP r ys
theorem tk_er {r : Int} : ∀ {xs : List Pair}, 0 ≤ findId xs r → xs.take (findId xs r).toNat ++ xs.drop ((findId xs r).toNat + 1) = erP r xs
  | [], h => by simp [findId] at h
  | y :: ys, h => by
    rw [findId_cons] at h ⊢
    unfold erP
    by_cases hy : y.id = r
    · rw [if_pos hy, if_pos hy]; rfl
    · rw [if_neg hy] at h ⊢
      rw [if_neg hy]
      by_cases h2 : findId ys r < 0
      · rw [if_pos h2] at h; omega
      · rw [if_neg h2]
        have ih := tk_er (xs := ys) (r := r) (by omega)
        have e : (findId ys r + 1).toNat = (findId ys r).toNat + 1 := by omega
        rw [e, List.take_succ_cons, List.drop_succ_cons, List.cons_append, ih]
theorem ris_lt {y : Pair} {ys : List Pair} (h : Ris (y :: ys)) : ∀ x ∈ ys, y.id < x.id := (List.pairwise_cons.1 h).1
theorem ris_tl {y : Pair} {ys : List Pair} (h : Ris (y :: ys)) : Ris ys := (List.pairwise_cons.1 h).2
theorem addV_mem {xs : List Pair} {p x : Pair} : x ∈ addV xs p ↔ x = p ∨ x ∈ xs := by
  induction xs with
  | nil => rw [addV_nil]; simp
  | cons y ys ih =>
    rw [addV_cons]
    split
    · simp
    · rw [List.mem_cons, ih, List.mem_cons]
      constructor
      · rintro (h | h | h)
        · exact Or.inr (Or.inl h)
        · exact Or.inl h
        · exact Or.inr (Or.inr h)
      · rintro (h | h | h)
        · exact Or.inr (Or.inl h)
        · exact Or.inl h
        · exact Or.inr (Or.inr h)
theorem ris_add {p : Pair} : ∀ {xs : List Pair}, Ris xs → (∀ x ∈ xs, x.id ≠ p.id) → Ris (addV xs p)
  | [], _, _ => by rw [addV_nil]; exact List.pairwise_singleton _ _
  | y :: ys, h, hn => by
    rw [addV_cons]
    have hy := hn y (List.mem_cons_self ..)
    split
    · rename_i h1
      refine List.pairwise_cons.2 ⟨fun x hx => ?_, h⟩
      rcases List.mem_cons.1 hx with rfl | hm
      · exact h1
      · have := ris_lt h x hm; omega
    · rename_i h1
      refine List.pairwise_cons.2 ⟨fun x hx => ?_, ris_add (ris_tl h) fun x hx => hn x (List.mem_cons_of_mem _ hx)⟩
      rcases addV_mem.1 hx with rfl | hm
      · omega
      · exact ris_lt h x hm
theorem er_add {p : Pair} : ∀ {xs : List Pair}, (∀ x ∈ xs, x.id ≠ p.id) → erP p.id (addV xs p) = xs
  | [], _ => by rw [addV_nil]; simp [erP]
  | y :: ys, hn => by
    rw [addV_cons]
    split
    · simp [erP]
    · unfold erP
      rw [if_neg (hn y (List.mem_cons_self ..)), er_add fun x hx => hn x (List.mem_cons_of_mem _ hx)]
theorem add_er {q : Pair} : ∀ {xs : List Pair}, Ris xs → q ∈ xs → addV (erP q.id xs) q = xs
  | [], _, h => by cases h
  | y :: ys, hr, hm => by
    unfold erP
    rcases List.mem_cons.1 hm with rfl | h
    · rw [if_pos rfl]
      cases ys with
      | nil => rfl
      | cons z zs => rw [addV_cons, if_pos (ris_lt hr z (List.mem_cons_self ..))]
    · have hlt := ris_lt hr q h
      rw [if_neg (by omega), addV_cons, if_neg (by omega), add_er (ris_tl hr) h]
theorem er_mem {r : Int} : ∀ {xs : List Pair}, ∀ x ∈ erP r xs, x ∈ xs
  | [], x, h => h
  | y :: ys, x, h => by
    unfold erP at h
    split at h
    · exact List.mem_cons_of_mem _ h
    · rcases List.mem_cons.1 h with rfl | h
      · exact List.mem_cons_self ..
      · exact List.mem_cons_of_mem _ (er_mem x h)
theorem ris_er {r : Int} : ∀ {xs : List Pair}, Ris xs → Ris (erP r xs)
  | [], h => h
  | y :: ys, h => by
    unfold erP
    split
    · exact ris_tl h
    · exact List.pairwise_cons.2 ⟨fun x hx => ris_lt h x (er_mem x hx), ris_er (ris_tl h)⟩
theorem er_no {r : Int} : ∀ {xs : List Pair}, Ris xs → ∀ x ∈ erP r xs, x.id ≠ r
  | [], _, x, h => by cases h
  | y :: ys, hr, x, h => by
    unfold erP at h
    split at h
    · rename_i hy
      have := ris_lt hr x h; omega
    · rename_i hy
      rcases List.mem_cons.1 h with rfl | h
      · exact hy
      · exact er_no (ris_tl hr) x h
theorem er_len {q : Pair} : ∀ {xs : List Pair}, q ∈ xs → (erP q.id xs).length + 1 = xs.length
  | [], h => by cases h
  | y :: ys, h => by
    unfold erP
    split
    · simp
    · rename_i hy
      rcases List.mem_cons.1 h with rfl | h
      · exact absurd rfl hy
      · have := er_len h
        simp; omega
theorem ris_one {a b : Pair} : ∀ {xs : List Pair}, Ris xs → a ∈ xs → b ∈ xs → a.id = b.id → a = b
  | [], _, h, _, _ => by cases h
  | y :: ys, hr, ha, hb, e => by
    rcases List.mem_cons.1 ha with h1 | h1
    · rcases List.mem_cons.1 hb with h2 | h2
      · rw [h1, h2]
      · have := ris_lt hr b h2; rw [← h1] at this; omega
    · rcases List.mem_cons.1 hb with h2 | h2
      · have := ris_lt hr a h1; rw [← h2] at this; omega
      · exact ris_one (ris_tl hr) h1 h2 e
theorem mf_iff {xs : List Pair} {d : Int} : mf xs d = 0 ↔ (2 ≤ d ∧ d ≤ 3) ∧ xs.length ≤ 60 ∧ (∀ x ∈ xs, pairF d x = 0) ∧ Ris xs := by
  constructor
  · intro h
    have h1 := mf_len h
    have h2 := mf_rise h
    have hd : 2 ≤ d ∧ d ≤ 3 := by
      unfold mf at h
      split at h
      · omega
      · rename_i h1; simp [inB] at h1; omega
    have h0 : firstF (pairF d) xs = 0 := by unfold mf at h; (repeat' split at h) <;> first | omega | simp_all
    refine ⟨hd, h1, firstF_zero h0, ?_⟩
    unfold Ris
    rw [List.pairwise_iff_getElem]
    intro i j hi hj hij
    have := h2 i j hij hj
    rwa [getD_lt hi, getD_lt hj] at this
  · rintro ⟨⟨h1, h2⟩, h3, h4, h5⟩
    have e1 : inB d 2 3 = true := by simp [inB]; omega
    have e2 := firstF_all h4
    have e3 : allLt xs.length (risesAt xs) = true := allLt_iff.mpr fun j hj => by
      unfold risesAt
      by_cases h0 : j = 0
      · simp [h0]
      · have := List.pairwise_iff_getElem.1 h5 (j - 1) j (by omega) hj (by omega)
        rw [← getD_lt (d := default), ← getD_lt (d := default)] at this
        rw [Bool.or_eq_true]; exact Or.inr (decide_eq_true this)
    unfold mf
    rw [if_neg (by rw [e1]; decide), if_neg (by omega), if_neg (by rw [e2]; decide), e3]; rfl
theorem apC_zero {xs : List Pair} {d : Int} {p : Pair} (h : apC xs d p = 0) : mf xs d = 0 ∧ pairF d p = 0 ∧ findId xs p.id < 0 ∧ xs.length < 60 := by
  unfold apC at h
  split at h
  · omega
  split at h
  · omega
  split at h
  · omega
  split at h
  · omega
  · omega
theorem apC_iff {xs : List Pair} {d : Int} {p : Pair} (h1 : mf xs d = 0) (h2 : pairF d p = 0) (h3 : findId xs p.id < 0) (h4 : xs.length < 60) : apC xs d p = 0 := by
  unfold apC
  rw [if_neg (by omega), if_neg (by omega), if_neg (by omega), if_neg (by omega)]
/-- What adding a pair brings about. -/
theorem add_facts {xs : List Pair} {d : Int} {p : Pair} (h : apC xs d p = 0) : apV xs d p = addV xs p ∧ mf (addV xs p) d = 0 ∧ fpC (addV xs p) d p.id = 0 ∧ (fpV (addV xs p) d p.id).rect = p.rect ∧ tpC (addV xs p) d p = 0 ∧ tpV (addV xs p) d p = xs := by
  obtain ⟨a1, a2, a3, a4⟩ := apC_zero h
  obtain ⟨m1, m2, m3, m4⟩ := mf_iff.1 a1
  have hn := findId_no a3
  have hr := ris_add m4 hn
  have hm : mf (addV xs p) d = 0 := mf_iff.2 ⟨m1, by rw [addV_len']; omega, fun x hx => (addV_mem.1 hx).elim (fun e => e ▸ a2) (m3 x), hr⟩
  have hin : p ∈ addV xs p := addV_mem.2 (Or.inl rfl)
  have hy := findId_yes hin
  obtain ⟨i, e1, e2, e3⟩ := findId_get hy
  have he := ris_one hr (getD_mem (d := default) e2) hin e3
  have hf : fpC (addV xs p) d p.id = 0 := by unfold fpC; rw [if_neg (by omega), if_neg (by omega)]
  have ht : tpC (addV xs p) d p = 0 := by
    unfold tpC
    rw [if_neg (by omega), if_neg (by omega), if_neg]
    rintro (h | h)
    · omega
    · apply h; rw [e1, Int.toNat_natCast, he]
  refine ⟨if_pos h, hm, hf, ?_, ht, ?_⟩
  · unfold fpV
    rw [if_pos hf, e1, Int.toNat_natCast, he]
  · unfold tpV
    rw [if_pos ht, tk_er hy, er_add hn]
/-- What taking a pair out brings about. -/
theorem take_facts {xs : List Pair} {d : Int} {q : Pair} (h : tpC xs d q = 0) : (tpV xs d q).length + 1 = xs.length ∧ fpC (tpV xs d q) d q.id = 4 ∧ apC (tpV xs d q) d q = 0 ∧ apV (tpV xs d q) d q = xs := by
  obtain ⟨t1, t2, t3, t4⟩ := tpC_zero h
  obtain ⟨m1, m2, m3, m4⟩ := mf_iff.1 t1
  obtain ⟨i, e1, e2, e3⟩ := findId_get t3
  rw [e1, Int.toNat_natCast] at t4
  have hq : xs.getD i default = q := pair_ext e3 t4
  have hin : q ∈ xs := by rw [← hq]; exact getD_mem e2
  have hv : tpV xs d q = erP q.id xs := by unfold tpV; rw [if_pos h, tk_er t3]
  have hl := er_len hin
  have hno := findId_none (er_no (r := q.id) m4)
  have hm : mf (erP q.id xs) d = 0 := mf_iff.2 ⟨m1, by omega, fun x hx => m3 x (er_mem x hx), ris_er m4⟩
  have ha := apC_iff hm t2 hno (by omega)
  rw [hv]
  refine ⟨hl, ?_, ha, ?_⟩
  · unfold fpC; rw [if_neg (by omega), if_pos hno]
  · unfold apV; rw [if_pos ha, add_er m4 hin]
def dpP (c : List Int) : Int := (bq c 0).p
def dpE (c : List Int) : Pair := ⟨pk c (dpP c + 3) [nx c (dpP c) 40, nx c (dpP c + 1) 40, nx c (dpP c + 2) 40, 999, 1000, -1], bentV c (dpP c + 4) (clD (bq c 0).d)⟩
def dtE (c : List Int) : Pair := if 0 < (bq c 0).l.length ∧ nx c 0 4 ≠ 0 then (bq c 0).l.getD (nx c 1 (bq c 0).l.length).toNat default else dpE c
theorem bq_len (c : List Int) (a : Int) : (bq c a).l.length ≤ 1000 := by
  have := bq_w c a
  have e : wPs (bq c a).l = (bq c a).l.length + sumW (fun p => wR p.rect) (bq c a).l := rfl
  omega
def hiQ (c : List Int) (q : Int) (d : Nat) : Nat → List Int
  | 0 => rectHi c q d
  | k + 1 => (hiQ c q d k).set k (min ((hiQ c q d k).getD k default + pk c (q + 6 * d + k) [0, 5, 20]) 1000)
theorem hiQ_len (c : List Int) (q : Int) (d : Nat) : ∀ k, (hiQ c q d k).length = d
  | 0 => by simp [hiQ, rectHi]
  | k + 1 => by simp [hiQ, hiQ_len c q d k]
theorem pkq_in (c : List Int) (a : Int) : 0 ≤ pk c a [0, 5, 20] ∧ pk c a [0, 5, 20] ≤ 20 := by
  have h := pk_mem (c := c) (a := a) (xs := [0, 5, 20]) (by simp)
  simp only [List.mem_cons, List.not_mem_nil, or_false] at h
  omega
theorem hiQ_in (c : List Int) (q : Int) (d : Nat) : ∀ k j, j < d → -1000 ≤ (hiQ c q d k).getD j default ∧ (hiQ c q d k).getD j default ≤ 1000
  | 0, j, h => rectV_hi c q d j h
  | k + 1, j, h => by
    have ih := hiQ_in c q d k
    have hp := pkq_in c (q + 6 * d + k)
    have hl := hiQ_len c q d k
    simp only [hiQ]
    by_cases hj : k = j
    · subst hj
      have hi := ih k h
      rw [List.getD_eq_getElem?_getD, List.getElem?_set_self (by omega)]
      show -1000 ≤ min _ _ ∧ min _ _ ≤ _
      omega
    · rw [List.getD_eq_getElem?_getD, List.getElem?_set_ne hj, ← List.getD_eq_getElem?_getD]
      exact ih j h
structure LQ where
  q : Query
  p : Int
def lq (c : List Int) (p : Int) (d : Nat) : LQ :=
  if nx c p 5 = 0 ∨ nx c p 5 = 1 then ⟨⟨pk c (p + 1 + 7 * d) [1, 2], ⟨rectLo c (p + 1) d, hiQ c (p + 1) d d⟩, [], 0⟩, p + 2 + 7 * d⟩
  else if nx c p 5 = 2 then ⟨⟨3, ⟨[], []⟩, pointV c (p + 1) d, 0⟩, p + 1 + 5 * d⟩
  else ⟨⟨4, ⟨[], []⟩, pointV c (p + 1) d, pk c (p + 1 + 5 * d) [1, 2, 3, 20]⟩, p + 2 + 5 * d⟩
theorem lq_p (c : List Int) (p : Int) (d : Nat) (hd : d ≤ 100) : p ≤ (lq c p d).p ∧ (lq c p d).p ≤ p + 1000 := by
  unfold lq
  (repeat' split) <;> simp only <;> omega
@[go_sem] abbrev tQr (q : Query) : T := .agg [iT q.kind, .c (sI q.rect.low), .c (sI q.rect.high), .c (sI q.point), iT q.k]
theorem s_l2Query2 (c : List Int) (p : Int) (d : Nat) (hc : codeOk c) (h0 : 0 ≤ p) (h1 : p ≤ 1071000000) (hd0 : 0 < d) (hd : d ≤ 100) (hv : nx c p 5 = 2) : SatG Try.prog 90 false [.ptr 1 0, iT d] [(1, bSrc c p)] (tQr (lq c p d).q) [(1, bSrc c (lq c p d).p)] := by
  have ev : lq c p d = ⟨⟨3, ⟨[], []⟩, pointV c (p + 1) d, 0⟩, p + 1 + 5 * d⟩ := by unfold lq; simp [hv]
  rw [ev]
  have h0' : SatG Try.prog 90 false [.ptr 1 0, iT d] [(1, bSrc c p)] (.agg [iT 3, .ref 2, .ref 3, .ref 4, iT 0]) [(1, bSrc c (p + 1 + 5 * d)), (2, .arr true 2 1 (([] : List Int).map eI)), (3, .arr true 2 1 (([] : List Int).map eI)), (4, .fro 1 ((pointV c (p + 1) d).map eI))] := by
    refine satG_walk (fn := Try.f90) rfl rfl rfl (Nat.le_of_ble_eq_true rfl) (by simp) fun fr hP hN hdp hb1 hb2 => ?_
    have hE : (envOf fr Try.prog).Ok := envOf_ok hP
    have hM := follows_of hP
    have hS : ∀ {draw ops}, statB Try.f90.ntmps draw ops = true → statB (envOf fr Try.prog).fr.N draw ops = true := fun h => by rw [envOf_fr, hN]; exact h
    have k1 := s_l1Next c p 5 hc (by omega) (by omega) (by omega) (by omega)
    have k2 := s_l1PointR c (p + 1) d hc (by omega) (by omega) (by omega)
    have b0 : ((2 : Int) == 0) = false := rfl
    have b1 : ((2 : Int) == 1) = false := rfl
    have b2 : ((2 : Int) == 2) = true := rfl
    rw [hv] at k1
    repeat' (first
      | exact True.intro
      | refine ev_seq ?_
      | ((first | refine endG_ret [(2, none), (3, none), (4, some 2146320)] hE rfl ?_ | refine vgd_go ?_ | refine ev_region hE hM (hS (by decide +kernel)) ?_ | refine ev_if ?_ | refine end_ret hE rfl rfl ?_ | refine end_norm hE rfl rfl ?_ | refine endG_ret [] hE rfl ?_ | refine endG_norm [] hE rfl ?_ | refine vcallG_at (args := [.ptr 1 0, iT 5]) 1 [] rfl hP (k1) ?_ | refine vcallG_at (args := [.ptr 1 0, iT d]) 1 [] rfl hP (k2) ?_ | refine vcall_A ?_); simp (maxSteps := 2000000) only [go_sem, hP, ↓reduceIte, Nat.reduceAdd, Nat.reduceMul, Nat.reduceEqDiff, Nat.reduceSub, Nat.reduceLeDiff, reduceCtorEq, b0, b1, b2, List.length_map])
      | refine ev_skip ?_ | refine ev_block ?_ | refine ev_blk ?_ | refine ev_ret ?_ | refine ev_exit ?_ | refine evx_code_ret ?_ | refine evx_blk_ret ?_ | refine evx_lp_ret ?_
      | refine evx_code_exit ?_ | refine evx_lp_exit ?_ | refine evx_blk_hit ?_ | refine evx_blk_pass (by decide) ?_
      | refine And.intro ?_ ?_ | intro _ | decide +kernel | omega)
    all_goals first
      | rfl
      | (exfalso; omega)
      | (simp_all; done)
      | trace_state
  have h := satG_weak (rt' := (.agg [iT 3, .ref 2, .ref 3, .ref 4, iT 0])) (hl2 := (1, bSrc c (p + 1 + 5 * d)) :: [(2, .fro 1 (([] : List Int).map eI)), (3, .fro 1 (([] : List Int).map eI)), (4, .fro 1 ((pointV c (p + 1) d).map eI))]) [] h0' (by simp only [go_sem, ↓reduceIte, reduceCtorEq]; simp [strip_eI, Es.strip]) (by simp only [go_sem, ↓reduceIte, reduceCtorEq]; simp) (fun κ hk => rfl)
  exact satG_data (fz := [(2, .fro 1 (([] : List Int).map eI)), (3, .fro 1 (([] : List Int).map eI)), (4, .fro 1 ((pointV c (p + 1) d).map eI))]) (fun κ h => by simp only [lk] at h; split at h <;> simp_all) trivial rfl h
theorem s_l2QueryN (c : List Int) (p : Int) (d : Nat) (hc : codeOk c) (h0 : 0 ≤ p) (h1 : p ≤ 1071000000) (hd0 : 0 < d) (hd : d ≤ 100) (g0 : nx c p 5 ≠ 0) (g1 : nx c p 5 ≠ 1) (g2 : nx c p 5 ≠ 2) : SatG Try.prog 90 false [.ptr 1 0, iT d] [(1, bSrc c p)] (tQr (lq c p d).q) [(1, bSrc c (lq c p d).p)] := by
  have ev : lq c p d = ⟨⟨4, ⟨[], []⟩, pointV c (p + 1) d, pk c (p + 1 + 5 * d) [1, 2, 3, 20]⟩, p + 2 + 5 * d⟩ := by unfold lq; simp [g0, g1, g2]
  rw [ev]
  have h0' : SatG Try.prog 90 false [.ptr 1 0, iT d] [(1, bSrc c p)] (.agg [iT 4, .ref 2, .ref 3, .ref 4, iT (pk c (p + 1 + 5 * d) [1, 2, 3, 20])]) [(1, bSrc c (p + 2 + 5 * d)), (2, .arr true 2 1 (([] : List Int).map eI)), (3, .arr true 2 1 (([] : List Int).map eI)), (4, .fro 1 ((pointV c (p + 1) d).map eI))] := by
    refine satG_walk (fn := Try.f90) rfl rfl rfl (Nat.le_of_ble_eq_true rfl) (by simp) fun fr hP hN hdp hb1 hb2 => ?_
    have hE : (envOf fr Try.prog).Ok := envOf_ok hP
    have hM := follows_of hP
    have hS : ∀ {draw ops}, statB Try.f90.ntmps draw ops = true → statB (envOf fr Try.prog).fr.N draw ops = true := fun h => by rw [envOf_fr, hN]; exact h
    have k1 := s_l1Next c p 5 hc (by omega) (by omega) (by omega) (by omega)
    have k2 := s_l1PointR c (p + 1) d hc (by omega) (by omega) (by omega)
    have k3 := s_l1Pick c (p + 1 + 5 * d) [1, 2, 3, 20] hc (by omega) (by omega) (by simp) (by simp)
    rw [show p + 1 + 5 * (d : Int) + 1 = p + 2 + 5 * d by omega] at k3
    have b0 : (nx c p 5 == 0) = false := beq_eq_false_iff_ne.2 g0
    have b1 : (nx c p 5 == 1) = false := beq_eq_false_iff_ne.2 g1
    have b2 : (nx c p 5 == 2) = false := beq_eq_false_iff_ne.2 g2
    repeat' (first
      | exact True.intro
      | refine ev_seq ?_
      | ((first | refine endG_ret [(2, none), (3, none), (4, some 2150416)] hE rfl ?_ | refine vgd_go ?_ | refine ev_region hE hM (hS (by decide +kernel)) ?_ | refine ev_if ?_ | refine end_ret hE rfl rfl ?_ | refine end_norm hE rfl rfl ?_ | refine endG_ret [] hE rfl ?_ | refine endG_norm [] hE rfl ?_ | refine vcallG_at (args := [.ptr 1 0, iT 5]) 1 [] rfl hP (k1) ?_ | refine vcallG_at (args := [.ptr 1 0, iT d]) 1 [] rfl hP (k2) ?_ | refine vcallG_at (args := [.ptr 1 0, .ref 53280]) 1 [53280] rfl hP (k3) ?_ | refine vcall_A ?_); simp (maxSteps := 2000000) only [go_sem, hP, ↓reduceIte, Nat.reduceAdd, Nat.reduceMul, Nat.reduceEqDiff, Nat.reduceSub, Nat.reduceLeDiff, reduceCtorEq, b0, b1, b2, List.length_map])
      | refine ev_skip ?_ | refine ev_block ?_ | refine ev_blk ?_ | refine ev_ret ?_ | refine ev_exit ?_ | refine evx_code_ret ?_ | refine evx_blk_ret ?_ | refine evx_lp_ret ?_
      | refine evx_code_exit ?_ | refine evx_lp_exit ?_ | refine evx_blk_hit ?_ | refine evx_blk_pass (by decide) ?_
      | refine And.intro ?_ ?_ | intro _ | decide +kernel | omega)
    all_goals first
      | rfl
      | (exfalso; omega)
      | (rename_i h; exact h.symm)
      | (simp_all; done)
      | trace_state
  have h := satG_weak (rt' := (.agg [iT 4, .ref 2, .ref 3, .ref 4, iT (pk c (p + 1 + 5 * d) [1, 2, 3, 20])])) (hl2 := (1, bSrc c (p + 2 + 5 * d)) :: [(2, .fro 1 (([] : List Int).map eI)), (3, .fro 1 (([] : List Int).map eI)), (4, .fro 1 ((pointV c (p + 1) d).map eI))]) [] h0' (by simp only [go_sem, ↓reduceIte, reduceCtorEq]; simp [strip_eI, Es.strip]) (by simp only [go_sem, ↓reduceIte, reduceCtorEq]; simp) (fun κ hk => rfl)
  exact satG_data (fz := [(2, .fro 1 (([] : List Int).map eI)), (3, .fro 1 (([] : List Int).map eI)), (4, .fro 1 ((pointV c (p + 1) d).map eI))]) (fun κ h => by simp only [lk] at h; split at h <;> simp_all) trivial rfl h
end Go.Proofs.Ytegohioalgikjaa.W
