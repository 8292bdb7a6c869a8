/- Contracts of functions that FnWidens reaches: what each returns; it writes to nothing of old. No condition but those that each theorem states. -/
import Derived.Test.YtmpndkhnajogkaaQa1
open Go Go.Vm Go.Proofs Go.IntWalk Go.RowKit
set_option maxRecDepth 100000
set_option maxHeartbeats 4000000
set_option linter.unusedSimpArgs false
set_option linter.unusedVariables false
set_option linter.unusedSectionVars false
namespace Go.Proofs.Ytmpndkhnajogkaa.W
attribute [local irreducible] kJ ev evx vops vstep vgo vgd vget vcall vcallFn vcallA vcallB vts vres vcond vbin
theorem s_l3List (c : List Int) (a : Int) (d n : Nat) (leaf : Bool) (hc : codeOk c) (h0 : 0 ≤ a) (h1 : a ≤ 1072000000) (hd0 : 0 < d) (hd : d ≤ 100) (hn : n ≤ 100) : SatG Try.prog 248 false [.ptr 1 0, iT d, iT n, .c (.bool leaf)] [(1, bSrc c a)] (.ref 2) [(1, bSrc c (a + lw d leaf * n)), (2, .arr true 85 4 ((listV c a d leaf n).map oEntry))] := by
  cases leaf with
  | true => exact s_l3ListT c a d n hc h0 h1 hd0 hd hn
  | false => exact s_l3ListF c a d n hc h0 h1 hd0 hd hn
theorem lw_in (d n : Nat) (leaf : Bool) (hd : d ≤ 100) (hn : n ≤ 100) : 0 ≤ lw d leaf * n ∧ lw d leaf * n ≤ 60200 := by
  have h1 : 0 ≤ lw d leaf ∧ lw d leaf ≤ 602 := by unfold lw; split <;> omega
  have h2 : lw d leaf * n ≤ 602 * 100 := Int.mul_le_mul h1.2 (by omega) (by omega) (by omega)
  exact ⟨Int.mul_nonneg h1.1 (by omega), by omega⟩
def dnL (c : List Int) (a : Int) : Int := pk c a [0, 0, 1, 2]
def dnC (c : List Int) (a : Int) : Nat := (pk c (a + 3) [0, 1, 2, 3, 4, 5]).toNat
theorem dnC_in (c : List Int) (a : Int) : pk c (a + 3) [0, 1, 2, 3, 4, 5] = (dnC c a : Int) ∧ dnC c a ≤ 5 := by
  have h := pk_mem (c := c) (a := a + 3) (xs := [0, 1, 2, 3, 4, 5]) (by simp)
  simp only [List.mem_cons, List.not_mem_nil, or_false] at h
  unfold dnC; omega
def dnE (c : List Int) (a : Int) (d : Nat) : List Entry := listV c (a + 4) d (dnL c a == 0) (dnC c a)
def dnA (c : List Int) (a : Int) (d : Nat) : Int := a + 4 + lw d (dnL c a == 0) * dnC c a
theorem dnA_in (c : List Int) (a : Int) (d : Nat) (hd : d ≤ 100) : a ≤ dnA c a d ∧ dnA c a d ≤ a + 60300 := by
  have h1 := (dnC_in c a).2
  have := lw_in d (dnC c a) (dnL c a == 0) hd (by omega)
  unfold dnA; omega
theorem dnE_len (c : List Int) (a : Int) (d : Nat) : (dnE c a d).length ≤ 5 := Nat.le_trans (listV_len _ _ _ _ _) (dnC_in c a).2
theorem s_l3Draw (c : List Int) (a : Int) (d : Nat) (hc : codeOk c) (h0 : 0 ≤ a) (h1 : a ≤ 1071000000) (hd0 : 0 < d) (hd : d ≤ 100) : SatG Try.prog 252 false [.ptr 1 0, iT d] [(1, bSrc c a)] (.agg [iT (dnL c a), iT (nx c (a + 1) 9), iT (pk c (a + 2) [-1, -1, 3]), .ref 2]) [(1, bSrc c (dnA c a d)), (2, .arr true 85 4 ((dnE c a d).map oEntry))] := by
  refine satG_walk (fn := Try.f252) rfl rfl rfl (Nat.le_of_ble_eq_true rfl) (by simp) fun fr hP hN hdp hb1 hb2 => ?_
  have hE : (envOf fr Try.prog).Ok := envOf_ok hP
  have hM := follows_of hP
  have hS : ∀ {draw ops}, statB Try.f252.ntmps draw ops = true → statB (envOf fr Try.prog).fr.N draw ops = true := fun h => by rw [envOf_fr, hN]; exact h
  obtain ⟨n1, n2⟩ := dnC_in c a
  have k1 := s_l1Pick c (a + 3) [0, 1, 2, 3, 4, 5] hc (by omega) (by omega) (by simp) (by simp)
  rw [n1, show a + 3 + 1 = a + 4 by omega] at k1
  have k2 := s_l3List c (a + 4) d (dnC c a) (dnL c a == 0) hc (by omega) (by omega) hd0 hd (by omega)
  have k3 := s_l1Pick c a [0, 0, 1, 2] hc (by omega) (by omega) (by simp) (by simp)
  have k4 := s_l1Pick c (a + 2) [-1, -1, 3] hc (by omega) (by omega) (by simp) (by simp)
  rw [show a + 2 + 1 = a + 3 by omega] at k4
  have k5 := s_l1Next c (a + 1) 9 hc (by omega) (by omega) (by omega) (by omega)
  rw [show a + 1 + 1 = a + 2 by omega] at k5
  rw [show pk c a [0, 0, 1, 2] = dnL c a from rfl] at k3
  repeat' (first
    | exact True.intro
    | refine ev_seq ?_
    | ((first | refine endG_ret [(2, some 2105408)] hE rfl ?_ | refine vgd_go ?_ | refine ev_region hE hM (hS (by decide +kernel)) ?_ | refine ev_if ?_ | refine end_ret hE rfl rfl ?_ | refine end_norm hE rfl rfl ?_ | refine endG_ret [] hE rfl ?_ | refine endG_norm [] hE rfl ?_ | refine vcallG_at (args := [.ptr 1 0, .ref 4104]) 1 [4104] rfl hP (k3) ?_ | refine vcallG_at (args := [.ptr 1 0, iT 9]) 1 [] rfl hP (k5) ?_ | refine vcallG_at (args := [.ptr 1 0, .ref 4144]) 1 [4144] rfl hP (k4) ?_ | refine vcallG_at (args := [.ptr 1 0, .ref 8216]) 1 [8216] rfl hP (k1) ?_ | refine vcallG_at (args := [.ptr 1 0, iT d, iT (dnC c a), .c (.bool (dnL c a == 0))]) 1 [] rfl hP (k2) ?_ | refine vcall_A ?_); simp (maxSteps := 2000000) only [go_sem, hP, ↓reduceIte, Nat.reduceAdd, Nat.reduceMul, Nat.reduceEqDiff, Nat.reduceSub, Nat.reduceLeDiff, reduceCtorEq])
    | refine ev_skip ?_ | refine ev_block ?_ | refine ev_blk ?_ | refine ev_ret ?_ | refine ev_exit ?_ | refine evx_code_ret ?_ | refine evx_blk_ret ?_ | refine evx_lp_ret ?_
    | refine evx_code_exit ?_ | refine evx_lp_exit ?_ | refine evx_blk_hit ?_ | refine evx_blk_pass (by decide) ?_
    | refine And.intro ?_ ?_ | intro _ | decide +kernel | omega)
  all_goals first
    | rfl
    | (exfalso; omega)
    | (simp_all; done)
    | trace_state
/-- A node that may be wrong, the number of its dimensions, and where the code is read on. -/
structure BN where
  n : Node
  d : Int
  p : Int
def b3d (c : List Int) (a : Int) : Nat := (pk c a [2, 2, 3]).toNat
theorem b3d_in (c : List Int) (a : Int) : pk c a [2, 2, 3] = (b3d c a : Int) ∧ (b3d c a = 2 ∨ b3d c a = 3) := by
  have := dims_in c a
  unfold b3d; omega
def b3n (c : List Int) (a : Int) : Node := ⟨dnL c (a + 1), nx c (a + 2) 9, pk c (a + 3) [-1, -1, 3], dnE c (a + 1) (b3d c a)⟩
def b3q (c : List Int) (a : Int) : Int := dnA c (a + 1) (b3d c a) + 1
def b3v (c : List Int) (a : Int) : Int := nx c (dnA c (a + 1) (b3d c a)) 20
theorem b3q_in (c : List Int) (a : Int) : a ≤ b3q c a ∧ b3q c a ≤ a + 60400 := by
  have h1 := (b3d_in c a).2
  have := dnA_in c (a + 1) (b3d c a) (by omega)
  unfold b3q; omega
def bn (c : List Int) (a : Int) : BN :=
  if b3v c a = 0 then ⟨{ b3n c a with level := pk c (b3q c a) [-1, 6, 7] }, b3d c a, b3q c a + 1⟩
  else if b3v c a = 1 then ⟨{ b3n c a with nsn := pk c (b3q c a) [-1, 100000, 100001] }, b3d c a, b3q c a + 1⟩
  else if b3v c a = 2 then ⟨{ b3n c a with right := pk c (b3q c a) [-2, 39, 40] }, b3d c a, b3q c a + 1⟩
  else if b3v c a = 3 then ⟨{ b3n c a with entries := listV c (b3q c a) (b3d c a) true 9 }, b3d c a, b3q c a + lw (b3d c a) true * 9⟩
  else if b3v c a = 4 then ⟨{ b3n c a with entries := (b3n c a).entries ++ [(⟨bentV c (b3q c a) (b3d c a), pk c (bentA c (b3q c a) (b3d c a)) [50, -1, 1000], pk c (bentA c (b3q c a) (b3d c a) + 1) [0, 1]⟩ : Entry)] }, b3d c a, bentA c (b3q c a) (b3d c a) + 2⟩
  else if b3v c a = 5 then ⟨{ b3n c a with entries := if (b3n c a).entries.length = 0 then [] else (b3n c a).entries ++ [(b3n c a).entries.getD 0 default] }, b3d c a, b3q c a⟩
  else if b3v c a = 6 then ⟨b3n c a, pk c (b3q c a) [1, 2, 3, 4], b3q c a + 1⟩
  else ⟨b3n c a, b3d c a, b3q c a⟩
theorem s_l3Bent0 (c : List Int) (a : Int) (hc : codeOk c) (h0 : 0 ≤ a) (h1 : a ≤ 1070000000) (hv : b3v c a = 0) : SatG Try.prog 183 false [.ptr 1 0] [(1, bSrc c a)] (.tup [.agg [iT (bn c a).n.level, iT (bn c a).n.nsn, iT (bn c a).n.right, .c (sEntryS (bn c a).n.entries)], iT (bn c a).d]) [(1, bSrc c (bn c a).p)] := by
  have ev : bn c a = ⟨⟨pk c (b3q c a) [-1, 6, 7], nx c (a + 2) 9, pk c (a + 3) [-1, -1, 3], dnE c (a + 1) (b3d c a)⟩, (b3d c a : Int), b3q c a + 1⟩ := by unfold bn; simp [hv, b3n]
  rw [ev]
  have h : SatG Try.prog 183 false [.ptr 1 0] [(1, bSrc c a)] (.tup [.agg [iT (pk c (b3q c a) [-1, 6, 7]), iT (nx c (a + 2) 9), iT (pk c (a + 3) [-1, -1, 3]), .ref 2], iT ((b3d c a : Int))]) ((1, bSrc c (b3q c a + 1)) :: [(2, .fro 4 ((dnE c (a + 1) (b3d c a)).map eEntry))]) := by
    refine satG_walk (fn := Try.f183) rfl rfl rfl (Nat.le_of_ble_eq_true rfl) (by simp) fun fr hP hN hdp hb1 hb2 => ?_
    have hE : (envOf fr Try.prog).Ok := envOf_ok hP
    have hM := follows_of hP
    have hS : ∀ {draw ops}, statB Try.f183.ntmps draw ops = true → statB (envOf fr Try.prog).fr.N draw ops = true := fun h => by rw [envOf_fr, hN]; exact h
    obtain ⟨d1, d2⟩ := b3d_in c a
    have q := b3q_in c a
    have le := dnE_len c (a + 1) (b3d c a)
    have k1 := s_l1Dims c a hc (by omega) (by omega)
    rw [d1] at k1
    have k2 := s_l3Draw c (a + 1) (b3d c a) hc (by omega) (by omega) (by omega) (by omega)
    rw [show a + 1 + 1 = a + 2 by omega, show a + 1 + 2 = a + 3 by omega] at k2
    have dq := dnA_in c (a + 1) (b3d c a) (by omega)
    have t0 : Int.toNat 0 = 0 := rfl
    have k3 := s_l1Next c (dnA c (a + 1) (b3d c a)) 20 hc (by omega) (by omega) (by omega) (by omega)
    rw [show nx c (dnA c (a + 1) (b3d c a)) 20 = b3v c a from rfl, show dnA c (a + 1) (b3d c a) + 1 = b3q c a from rfl] at k3
    have k4 := s_l1Pick c (b3q c a) [-1, 6, 7] hc (by omega) (by omega) (by simp) (by simp)
    repeat' (first
      | exact True.intro
      | refine ev_seq ?_
      | ((first | refine endG_ret [(2, some 2105360)] hE rfl ?_ | refine vgd_go ?_ | refine ev_region hE hM (hS (by decide +kernel)) ?_ | refine ev_if ?_ | refine end_ret hE rfl rfl ?_ | refine end_norm hE rfl rfl ?_ | refine endG_ret [] hE rfl ?_ | refine endG_norm [] hE rfl ?_ | refine vcallG_at (args := [.ptr 1 0]) 1 [] rfl hP (k1) ?_ | refine vcallG_at (args := [.ptr 1 0, iT (b3d c a)]) 1 [] rfl hP (k2) ?_ | refine vcallG_at (args := [.ptr 1 0, iT 20]) 1 [] rfl hP (k3) ?_ | refine vcallG_at (args := [.ptr 1 0, .ref 20488]) 1 [20488] rfl hP (k4) ?_ | refine vcall_A ?_); simp (maxSteps := 2000000) only [go_sem, hP, ↓reduceIte, Nat.reduceAdd, Nat.reduceMul, Nat.reduceEqDiff, Nat.reduceSub, Nat.reduceLeDiff, reduceCtorEq, List.length_map, Bool.and_self, Int.reduceBEq, hv])
      | refine ev_skip ?_ | refine ev_block ?_ | refine ev_blk ?_ | refine ev_ret ?_ | refine ev_exit ?_ | refine evx_code_ret ?_ | refine evx_blk_ret ?_ | refine evx_lp_ret ?_
      | refine evx_code_exit ?_ | refine evx_lp_exit ?_ | refine evx_blk_hit ?_ | refine evx_blk_pass (by decide) ?_
      | refine And.intro ?_ ?_ | intro _ | decide +kernel | omega)
    all_goals first
      | rfl
      | (exfalso; omega)
      | omega
      | (rename_i h; exact h.symm)
      | (simp [strip_oEntry]; done)
      | (simp [eEntry_eq]; done)
      | (simp_all; done)
      | trace_state
  exact satG_data (fz := [(2, .fro 4 ((dnE c (a + 1) (b3d c a)).map eEntry))]) (fun κ h => by simp only [lk] at h; split at h <;> simp_all) trivial rfl h
theorem s_l3Bent1 (c : List Int) (a : Int) (hc : codeOk c) (h0 : 0 ≤ a) (h1 : a ≤ 1070000000) (hv : b3v c a = 1) : SatG Try.prog 183 false [.ptr 1 0] [(1, bSrc c a)] (.tup [.agg [iT (bn c a).n.level, iT (bn c a).n.nsn, iT (bn c a).n.right, .c (sEntryS (bn c a).n.entries)], iT (bn c a).d]) [(1, bSrc c (bn c a).p)] := by
  have ev : bn c a = ⟨⟨dnL c (a + 1), pk c (b3q c a) [-1, 100000, 100001], pk c (a + 3) [-1, -1, 3], dnE c (a + 1) (b3d c a)⟩, (b3d c a : Int), b3q c a + 1⟩ := by unfold bn; simp [hv, b3n]
  rw [ev]
  have h : SatG Try.prog 183 false [.ptr 1 0] [(1, bSrc c a)] (.tup [.agg [iT (dnL c (a + 1)), iT (pk c (b3q c a) [-1, 100000, 100001]), iT (pk c (a + 3) [-1, -1, 3]), .ref 2], iT ((b3d c a : Int))]) ((1, bSrc c (b3q c a + 1)) :: [(2, .fro 4 ((dnE c (a + 1) (b3d c a)).map eEntry))]) := by
    refine satG_walk (fn := Try.f183) rfl rfl rfl (Nat.le_of_ble_eq_true rfl) (by simp) fun fr hP hN hdp hb1 hb2 => ?_
    have hE : (envOf fr Try.prog).Ok := envOf_ok hP
    have hM := follows_of hP
    have hS : ∀ {draw ops}, statB Try.f183.ntmps draw ops = true → statB (envOf fr Try.prog).fr.N draw ops = true := fun h => by rw [envOf_fr, hN]; exact h
    obtain ⟨d1, d2⟩ := b3d_in c a
    have q := b3q_in c a
    have le := dnE_len c (a + 1) (b3d c a)
    have k1 := s_l1Dims c a hc (by omega) (by omega)
    rw [d1] at k1
    have k2 := s_l3Draw c (a + 1) (b3d c a) hc (by omega) (by omega) (by omega) (by omega)
    rw [show a + 1 + 1 = a + 2 by omega, show a + 1 + 2 = a + 3 by omega] at k2
    have dq := dnA_in c (a + 1) (b3d c a) (by omega)
    have t0 : Int.toNat 0 = 0 := rfl
    have k3 := s_l1Next c (dnA c (a + 1) (b3d c a)) 20 hc (by omega) (by omega) (by omega) (by omega)
    rw [show nx c (dnA c (a + 1) (b3d c a)) 20 = b3v c a from rfl, show dnA c (a + 1) (b3d c a) + 1 = b3q c a from rfl] at k3
    have k4 := s_l1Pick c (b3q c a) [-1, 100000, 100001] hc (by omega) (by omega) (by simp) (by simp)
    repeat' (first
      | exact True.intro
      | refine ev_seq ?_
      | ((first | refine endG_ret [(2, some 2105360)] hE rfl ?_ | refine vgd_go ?_ | refine ev_region hE hM (hS (by decide +kernel)) ?_ | refine ev_if ?_ | refine end_ret hE rfl rfl ?_ | refine end_norm hE rfl rfl ?_ | refine endG_ret [] hE rfl ?_ | refine endG_norm [] hE rfl ?_ | refine vcallG_at (args := [.ptr 1 0]) 1 [] rfl hP (k1) ?_ | refine vcallG_at (args := [.ptr 1 0, iT (b3d c a)]) 1 [] rfl hP (k2) ?_ | refine vcallG_at (args := [.ptr 1 0, iT 20]) 1 [] rfl hP (k3) ?_ | refine vcallG_at (args := [.ptr 1 0, .ref 28680]) 1 [28680] rfl hP (k4) ?_ | refine vcall_A ?_); simp (maxSteps := 2000000) only [go_sem, hP, ↓reduceIte, Nat.reduceAdd, Nat.reduceMul, Nat.reduceEqDiff, Nat.reduceSub, Nat.reduceLeDiff, reduceCtorEq, List.length_map, Bool.and_self, Int.reduceBEq, hv])
      | refine ev_skip ?_ | refine ev_block ?_ | refine ev_blk ?_ | refine ev_ret ?_ | refine ev_exit ?_ | refine evx_code_ret ?_ | refine evx_blk_ret ?_ | refine evx_lp_ret ?_
      | refine evx_code_exit ?_ | refine evx_lp_exit ?_ | refine evx_blk_hit ?_ | refine evx_blk_pass (by decide) ?_
      | refine And.intro ?_ ?_ | intro _ | decide +kernel | omega)
    all_goals first
      | rfl
      | (exfalso; omega)
      | omega
      | (rename_i h; exact h.symm)
      | (simp [strip_oEntry]; done)
      | (simp [eEntry_eq]; done)
      | (simp_all; done)
      | trace_state
  exact satG_data (fz := [(2, .fro 4 ((dnE c (a + 1) (b3d c a)).map eEntry))]) (fun κ h => by simp only [lk] at h; split at h <;> simp_all) trivial rfl h
theorem s_l3Bent2 (c : List Int) (a : Int) (hc : codeOk c) (h0 : 0 ≤ a) (h1 : a ≤ 1070000000) (hv : b3v c a = 2) : SatG Try.prog 183 false [.ptr 1 0] [(1, bSrc c a)] (.tup [.agg [iT (bn c a).n.level, iT (bn c a).n.nsn, iT (bn c a).n.right, .c (sEntryS (bn c a).n.entries)], iT (bn c a).d]) [(1, bSrc c (bn c a).p)] := by
  have ev : bn c a = ⟨⟨dnL c (a + 1), nx c (a + 2) 9, pk c (b3q c a) [-2, 39, 40], dnE c (a + 1) (b3d c a)⟩, (b3d c a : Int), b3q c a + 1⟩ := by unfold bn; simp [hv, b3n]
  rw [ev]
  have h : SatG Try.prog 183 false [.ptr 1 0] [(1, bSrc c a)] (.tup [.agg [iT (dnL c (a + 1)), iT (nx c (a + 2) 9), iT (pk c (b3q c a) [-2, 39, 40]), .ref 2], iT ((b3d c a : Int))]) ((1, bSrc c (b3q c a + 1)) :: [(2, .fro 4 ((dnE c (a + 1) (b3d c a)).map eEntry))]) := by
    refine satG_walk (fn := Try.f183) rfl rfl rfl (Nat.le_of_ble_eq_true rfl) (by simp) fun fr hP hN hdp hb1 hb2 => ?_
    have hE : (envOf fr Try.prog).Ok := envOf_ok hP
    have hM := follows_of hP
    have hS : ∀ {draw ops}, statB Try.f183.ntmps draw ops = true → statB (envOf fr Try.prog).fr.N draw ops = true := fun h => by rw [envOf_fr, hN]; exact h
    obtain ⟨d1, d2⟩ := b3d_in c a
    have q := b3q_in c a
    have le := dnE_len c (a + 1) (b3d c a)
    have k1 := s_l1Dims c a hc (by omega) (by omega)
    rw [d1] at k1
    have k2 := s_l3Draw c (a + 1) (b3d c a) hc (by omega) (by omega) (by omega) (by omega)
    rw [show a + 1 + 1 = a + 2 by omega, show a + 1 + 2 = a + 3 by omega] at k2
    have dq := dnA_in c (a + 1) (b3d c a) (by omega)
    have t0 : Int.toNat 0 = 0 := rfl
    have k3 := s_l1Next c (dnA c (a + 1) (b3d c a)) 20 hc (by omega) (by omega) (by omega) (by omega)
    rw [show nx c (dnA c (a + 1) (b3d c a)) 20 = b3v c a from rfl, show dnA c (a + 1) (b3d c a) + 1 = b3q c a from rfl] at k3
    have k4 := s_l1Pick c (b3q c a) [-2, 39, 40] hc (by omega) (by omega) (by simp) (by simp)
    repeat' (first
      | exact True.intro
      | refine ev_seq ?_
      | ((first | refine endG_ret [(2, some 2105360)] hE rfl ?_ | refine vgd_go ?_ | refine ev_region hE hM (hS (by decide +kernel)) ?_ | refine ev_if ?_ | refine end_ret hE rfl rfl ?_ | refine end_norm hE rfl rfl ?_ | refine endG_ret [] hE rfl ?_ | refine endG_norm [] hE rfl ?_ | refine vcallG_at (args := [.ptr 1 0]) 1 [] rfl hP (k1) ?_ | refine vcallG_at (args := [.ptr 1 0, iT (b3d c a)]) 1 [] rfl hP (k2) ?_ | refine vcallG_at (args := [.ptr 1 0, iT 20]) 1 [] rfl hP (k3) ?_ | refine vcallG_at (args := [.ptr 1 0, .ref 36872]) 1 [36872] rfl hP (k4) ?_ | refine vcall_A ?_); simp (maxSteps := 2000000) only [go_sem, hP, ↓reduceIte, Nat.reduceAdd, Nat.reduceMul, Nat.reduceEqDiff, Nat.reduceSub, Nat.reduceLeDiff, reduceCtorEq, List.length_map, Bool.and_self, Int.reduceBEq, hv])
      | refine ev_skip ?_ | refine ev_block ?_ | refine ev_blk ?_ | refine ev_ret ?_ | refine ev_exit ?_ | refine evx_code_ret ?_ | refine evx_blk_ret ?_ | refine evx_lp_ret ?_
      | refine evx_code_exit ?_ | refine evx_lp_exit ?_ | refine evx_blk_hit ?_ | refine evx_blk_pass (by decide) ?_
      | refine And.intro ?_ ?_ | intro _ | decide +kernel | omega)
    all_goals first
      | rfl
      | (exfalso; omega)
      | omega
      | (rename_i h; exact h.symm)
      | (simp [strip_oEntry]; done)
      | (simp [eEntry_eq]; done)
      | (simp_all; done)
      | trace_state
  exact satG_data (fz := [(2, .fro 4 ((dnE c (a + 1) (b3d c a)).map eEntry))]) (fun κ h => by simp only [lk] at h; split at h <;> simp_all) trivial rfl h
theorem s_l3Bent3 (c : List Int) (a : Int) (hc : codeOk c) (h0 : 0 ≤ a) (h1 : a ≤ 1070000000) (hv : b3v c a = 3) : SatG Try.prog 183 false [.ptr 1 0] [(1, bSrc c a)] (.tup [.agg [iT (bn c a).n.level, iT (bn c a).n.nsn, iT (bn c a).n.right, .c (sEntryS (bn c a).n.entries)], iT (bn c a).d]) [(1, bSrc c (bn c a).p)] := by
  have ev : bn c a = ⟨⟨dnL c (a + 1), nx c (a + 2) 9, pk c (a + 3) [-1, -1, 3], listV c (b3q c a) (b3d c a) true 9⟩, (b3d c a : Int), b3q c a + lw (b3d c a) true * 9⟩ := by unfold bn; simp [hv, b3n]
  rw [ev]
  have h : SatG Try.prog 183 false [.ptr 1 0] [(1, bSrc c a)] (.tup [.agg [iT (dnL c (a + 1)), iT (nx c (a + 2) 9), iT (pk c (a + 3) [-1, -1, 3]), .ref 2], iT ((b3d c a : Int))]) ((1, bSrc c (b3q c a + lw (b3d c a) true * 9)) :: [(2, .fro 4 ((listV c (b3q c a) (b3d c a) true 9).map eEntry))]) := by
    refine satG_walk (fn := Try.f183) rfl rfl rfl (Nat.le_of_ble_eq_true rfl) (by simp) fun fr hP hN hdp hb1 hb2 => ?_
    have hE : (envOf fr Try.prog).Ok := envOf_ok hP
    have hM := follows_of hP
    have hS : ∀ {draw ops}, statB Try.f183.ntmps draw ops = true → statB (envOf fr Try.prog).fr.N draw ops = true := fun h => by rw [envOf_fr, hN]; exact h
    obtain ⟨d1, d2⟩ := b3d_in c a
    have q := b3q_in c a
    have le := dnE_len c (a + 1) (b3d c a)
    have k1 := s_l1Dims c a hc (by omega) (by omega)
    rw [d1] at k1
    have k2 := s_l3Draw c (a + 1) (b3d c a) hc (by omega) (by omega) (by omega) (by omega)
    rw [show a + 1 + 1 = a + 2 by omega, show a + 1 + 2 = a + 3 by omega] at k2
    have dq := dnA_in c (a + 1) (b3d c a) (by omega)
    have t0 : Int.toNat 0 = 0 := rfl
    have k3 := s_l1Next c (dnA c (a + 1) (b3d c a)) 20 hc (by omega) (by omega) (by omega) (by omega)
    rw [show nx c (dnA c (a + 1) (b3d c a)) 20 = b3v c a from rfl, show dnA c (a + 1) (b3d c a) + 1 = b3q c a from rfl] at k3
    have k4 := s_l3List c (b3q c a) (b3d c a) 9 true hc (by omega) (by omega) (by omega) (by omega) (by omega)
    repeat' (first
      | exact True.intro
      | refine ev_seq ?_
      | ((first | refine endG_ret [(2, some 2142224)] hE rfl ?_ | refine vgd_go ?_ | refine ev_region hE hM (hS (by decide +kernel)) ?_ | refine ev_if ?_ | refine end_ret hE rfl rfl ?_ | refine end_norm hE rfl rfl ?_ | refine endG_ret [] hE rfl ?_ | refine endG_norm [] hE rfl ?_ | refine vcallG_at (args := [.ptr 1 0]) 1 [] rfl hP (k1) ?_ | refine vcallG_at (args := [.ptr 1 0, iT (b3d c a)]) 1 [] rfl hP (k2) ?_ | refine vcallG_at (args := [.ptr 1 0, iT 20]) 1 [] rfl hP (k3) ?_ | refine vcallG_at (args := [.ptr 1 0, iT (b3d c a), iT 9, .c (.bool true)]) 1 [] rfl hP (k4) ?_ | refine vcall_A ?_); simp (maxSteps := 2000000) only [go_sem, hP, ↓reduceIte, Nat.reduceAdd, Nat.reduceMul, Nat.reduceEqDiff, Nat.reduceSub, Nat.reduceLeDiff, reduceCtorEq, List.length_map, Bool.and_self, Int.reduceBEq, hv])
      | refine ev_skip ?_ | refine ev_block ?_ | refine ev_blk ?_ | refine ev_ret ?_ | refine ev_exit ?_ | refine evx_code_ret ?_ | refine evx_blk_ret ?_ | refine evx_lp_ret ?_
      | refine evx_code_exit ?_ | refine evx_lp_exit ?_ | refine evx_blk_hit ?_ | refine evx_blk_pass (by decide) ?_
      | refine And.intro ?_ ?_ | intro _ | decide +kernel | omega)
    all_goals first
      | rfl
      | (exfalso; omega)
      | omega
      | (rename_i h; exact h.symm)
      | (simp [strip_oEntry]; done)
      | (simp [eEntry_eq]; done)
      | (simp_all; done)
      | trace_state
  exact satG_data (fz := [(2, .fro 4 ((listV c (b3q c a) (b3d c a) true 9).map eEntry))]) (fun κ h => by simp only [lk] at h; split at h <;> simp_all) trivial rfl h
theorem s_l3Bent4 (c : List Int) (a : Int) (hc : codeOk c) (h0 : 0 ≤ a) (h1 : a ≤ 1070000000) (hv : b3v c a = 4) : SatG Try.prog 183 false [.ptr 1 0] [(1, bSrc c a)] (.tup [.agg [iT (bn c a).n.level, iT (bn c a).n.nsn, iT (bn c a).n.right, .c (sEntryS (bn c a).n.entries)], iT (bn c a).d]) [(1, bSrc c (bn c a).p)] := by
  have ev : bn c a = ⟨⟨dnL c (a + 1), nx c (a + 2) 9, pk c (a + 3) [-1, -1, 3], dnE c (a + 1) (b3d c a) ++ [(⟨bentV c (b3q c a) (b3d c a), pk c (bentA c (b3q c a) (b3d c a)) [50, -1, 1000], pk c (bentA c (b3q c a) (b3d c a) + 1) [0, 1]⟩ : Entry)]⟩, (b3d c a : Int), bentA c (b3q c a) (b3d c a) + 2⟩ := by unfold bn; simp [hv, b3n]
  rw [ev]
  have h : SatG Try.prog 183 false [.ptr 1 0] [(1, bSrc c a)] (.tup [.agg [iT (dnL c (a + 1)), iT (nx c (a + 2) 9), iT (pk c (a + 3) [-1, -1, 3]), .ref 2], iT ((b3d c a : Int))]) ((1, bSrc c (bentA c (b3q c a) (b3d c a) + 2)) :: [(2, .fro 4 ((dnE c (a + 1) (b3d c a) ++ [(⟨bentV c (b3q c a) (b3d c a), pk c (bentA c (b3q c a) (b3d c a)) [50, -1, 1000], pk c (bentA c (b3q c a) (b3d c a) + 1) [0, 1]⟩ : Entry)]).map eEntry))]) := by
    refine satG_walk (fn := Try.f183) rfl rfl rfl (Nat.le_of_ble_eq_true rfl) (by simp) fun fr hP hN hdp hb1 hb2 => ?_
    have hE : (envOf fr Try.prog).Ok := envOf_ok hP
    have hM := follows_of hP
    have hS : ∀ {draw ops}, statB Try.f183.ntmps draw ops = true → statB (envOf fr Try.prog).fr.N draw ops = true := fun h => by rw [envOf_fr, hN]; exact h
    obtain ⟨d1, d2⟩ := b3d_in c a
    have q := b3q_in c a
    have le := dnE_len c (a + 1) (b3d c a)
    have k1 := s_l1Dims c a hc (by omega) (by omega)
    rw [d1] at k1
    have k2 := s_l3Draw c (a + 1) (b3d c a) hc (by omega) (by omega) (by omega) (by omega)
    rw [show a + 1 + 1 = a + 2 by omega, show a + 1 + 2 = a + 3 by omega] at k2
    have dq := dnA_in c (a + 1) (b3d c a) (by omega)
    have t0 : Int.toNat 0 = 0 := rfl
    have k3 := s_l1Next c (dnA c (a + 1) (b3d c a)) 20 hc (by omega) (by omega) (by omega) (by omega)
    rw [show nx c (dnA c (a + 1) (b3d c a)) 20 = b3v c a from rfl, show dnA c (a + 1) (b3d c a) + 1 = b3q c a from rfl] at k3
    have qb := bentA_in c (b3q c a) (b3d c a)
    have k4 := s_l1Bent c (b3q c a) (b3d c a) hc (by omega) (by omega) (by omega) (by omega)
    have k5 := s_l1Pick c (bentA c (b3q c a) (b3d c a)) [50, -1, 1000] hc (by omega) (by omega) (by simp) (by simp)
    have k6 := s_l1Pick c (bentA c (b3q c a) (b3d c a) + 1) [0, 1] hc (by omega) (by omega) (by simp) (by simp)
    rw [show bentA c (b3q c a) (b3d c a) + 1 + 1 = bentA c (b3q c a) (b3d c a) + 2 by omega] at k6
    repeat' (first
      | exact True.intro
      | refine ev_seq ?_
      | ((first | refine endG_ret [(2, some 53352)] hE rfl ?_ | refine vgd_go ?_ | refine ev_region hE hM (hS (by decide +kernel)) ?_ | refine ev_if ?_ | refine end_ret hE rfl rfl ?_ | refine end_norm hE rfl rfl ?_ | refine endG_ret [] hE rfl ?_ | refine endG_norm [] hE rfl ?_ | refine vcallG_at (args := [.ptr 1 0]) 1 [] rfl hP (k1) ?_ | refine vcallG_at (args := [.ptr 1 0, iT (b3d c a)]) 1 [] rfl hP (k2) ?_ | refine vcallG_at (args := [.ptr 1 0, iT 20]) 1 [] rfl hP (k3) ?_ | refine vcallG_at (f := 150) (args := [.ptr 1 0, iT (b3d c a)]) 1 [] rfl hP (k4) ?_ | refine vcallG_at (args := [.ptr 1 0, .ref 53296]) 1 [53296] rfl hP (k5) ?_ | refine vcallG_at (args := [.ptr 1 0, .ref 53320]) 1 [53320] rfl hP (k6) ?_ | refine vcall_A ?_); simp (maxSteps := 2000000) only [go_sem, hP, ↓reduceIte, Nat.reduceAdd, Nat.reduceMul, Nat.reduceEqDiff, Nat.reduceSub, Nat.reduceLeDiff, reduceCtorEq, List.length_map, Bool.and_self, Int.reduceBEq, hv, strip_oEntry, eEntry_eq, t0, Cs.strip, C.strip])
      | refine ev_skip ?_ | refine ev_block ?_ | refine ev_blk ?_ | refine ev_ret ?_ | refine ev_exit ?_ | refine evx_code_ret ?_ | refine evx_blk_ret ?_ | refine evx_lp_ret ?_
      | refine evx_code_exit ?_ | refine evx_lp_exit ?_ | refine evx_blk_hit ?_ | refine evx_blk_pass (by decide) ?_
      | refine And.intro ?_ ?_ | intro _ | decide +kernel | omega)
    all_goals first
      | rfl
      | (exfalso; omega)
      | omega
      | (rename_i h; exact h.symm)
      | (simp [strip_oEntry]; done)
      | (simp [eEntry_eq]; done)
      | (simp_all; done)
      | trace_state
  exact satG_data (fz := [(2, .fro 4 ((dnE c (a + 1) (b3d c a) ++ [(⟨bentV c (b3q c a) (b3d c a), pk c (bentA c (b3q c a) (b3d c a)) [50, -1, 1000], pk c (bentA c (b3q c a) (b3d c a) + 1) [0, 1]⟩ : Entry)]).map eEntry))]) (fun κ h => by simp only [lk] at h; split at h <;> simp_all) trivial rfl h
theorem s_l3Bent5 (c : List Int) (a : Int) (hc : codeOk c) (h0 : 0 ≤ a) (h1 : a ≤ 1070000000) (hv : b3v c a = 5) (he : (dnE c (a + 1) (b3d c a)).length ≠ 0) : SatG Try.prog 183 false [.ptr 1 0] [(1, bSrc c a)] (.tup [.agg [iT (bn c a).n.level, iT (bn c a).n.nsn, iT (bn c a).n.right, .c (sEntryS (bn c a).n.entries)], iT (bn c a).d]) [(1, bSrc c (bn c a).p)] := by
  have ev : bn c a = ⟨⟨dnL c (a + 1), nx c (a + 2) 9, pk c (a + 3) [-1, -1, 3], dnE c (a + 1) (b3d c a) ++ [(dnE c (a + 1) (b3d c a)).getD 0 default]⟩, (b3d c a : Int), b3q c a⟩ := by unfold bn; simp [hv, he, b3n]
  rw [ev]
  have h : SatG Try.prog 183 false [.ptr 1 0] [(1, bSrc c a)] (.tup [.agg [iT (dnL c (a + 1)), iT (nx c (a + 2) 9), iT (pk c (a + 3) [-1, -1, 3]), .ref 2], iT ((b3d c a : Int))]) ((1, bSrc c (b3q c a)) :: [(2, .fro 4 ((dnE c (a + 1) (b3d c a) ++ [(dnE c (a + 1) (b3d c a)).getD 0 default]).map eEntry))]) := by
    refine satG_walk (fn := Try.f183) rfl rfl rfl (Nat.le_of_ble_eq_true rfl) (by simp) fun fr hP hN hdp hb1 hb2 => ?_
    have hE : (envOf fr Try.prog).Ok := envOf_ok hP
    have hM := follows_of hP
    have hS : ∀ {draw ops}, statB Try.f183.ntmps draw ops = true → statB (envOf fr Try.prog).fr.N draw ops = true := fun h => by rw [envOf_fr, hN]; exact h
    obtain ⟨d1, d2⟩ := b3d_in c a
    have q := b3q_in c a
    have le := dnE_len c (a + 1) (b3d c a)
    have k1 := s_l1Dims c a hc (by omega) (by omega)
    rw [d1] at k1
    have k2 := s_l3Draw c (a + 1) (b3d c a) hc (by omega) (by omega) (by omega) (by omega)
    rw [show a + 1 + 1 = a + 2 by omega, show a + 1 + 2 = a + 3 by omega] at k2
    have dq := dnA_in c (a + 1) (b3d c a) (by omega)
    have t0 : Int.toNat 0 = 0 := rfl
    have k3 := s_l1Next c (dnA c (a + 1) (b3d c a)) 20 hc (by omega) (by omega) (by omega) (by omega)
    rw [show nx c (dnA c (a + 1) (b3d c a)) 20 = b3v c a from rfl, show dnA c (a + 1) (b3d c a) + 1 = b3q c a from rfl] at k3
    have he' : decide ((0 : Int) < ((dnE c (a + 1) (b3d c a)).length : Int)) = true := by simp only [decide_eq_true_eq]; omega
    repeat' (first
      | exact True.intro
      | refine ev_seq ?_
      | ((first | refine endG_ret [(2, some 65592)] hE rfl ?_ | refine vgd_go ?_ | refine ev_region hE hM (hS (by decide +kernel)) ?_ | refine ev_if ?_ | refine end_ret hE rfl rfl ?_ | refine end_norm hE rfl rfl ?_ | refine endG_ret [] hE rfl ?_ | refine endG_norm [] hE rfl ?_ | refine vcallG_at (args := [.ptr 1 0]) 1 [] rfl hP (k1) ?_ | refine vcallG_at (args := [.ptr 1 0, iT (b3d c a)]) 1 [] rfl hP (k2) ?_ | refine vcallG_at (args := [.ptr 1 0, iT 20]) 1 [] rfl hP (k3) ?_ | refine vcall_A ?_); simp (maxSteps := 2000000) only [go_sem, hP, ↓reduceIte, Nat.reduceAdd, Nat.reduceMul, Nat.reduceEqDiff, Nat.reduceSub, Nat.reduceLeDiff, reduceCtorEq, List.length_map, Bool.and_self, Int.reduceBEq, hv, he', strip_oEntry, eEntry_eq, t0, Cs.strip, C.strip])
      | refine ev_skip ?_ | refine ev_block ?_ | refine ev_blk ?_ | refine ev_ret ?_ | refine ev_exit ?_ | refine evx_code_ret ?_ | refine evx_blk_ret ?_ | refine evx_lp_ret ?_
      | refine evx_code_exit ?_ | refine evx_lp_exit ?_ | refine evx_blk_hit ?_ | refine evx_blk_pass (by decide) ?_
      | refine And.intro ?_ ?_ | intro _ | decide +kernel | omega)
    all_goals first
      | rfl
      | (exfalso; omega)
      | omega
      | (rename_i h; exact h.symm)
      | (simp [strip_oEntry]; done)
      | (simp [eEntry_eq]; done)
      | (simp_all; done)
      | trace_state
  exact satG_data (fz := [(2, .fro 4 ((dnE c (a + 1) (b3d c a) ++ [(dnE c (a + 1) (b3d c a)).getD 0 default]).map eEntry))]) (fun κ h => by simp only [lk] at h; split at h <;> simp_all) trivial rfl h
theorem s_l3Bent5n (c : List Int) (a : Int) (hc : codeOk c) (h0 : 0 ≤ a) (h1 : a ≤ 1070000000) (hv : b3v c a = 5) (he : (dnE c (a + 1) (b3d c a)).length = 0) : SatG Try.prog 183 false [.ptr 1 0] [(1, bSrc c a)] (.tup [.agg [iT (bn c a).n.level, iT (bn c a).n.nsn, iT (bn c a).n.right, .c (sEntryS (bn c a).n.entries)], iT (bn c a).d]) [(1, bSrc c (bn c a).p)] := by
  have ev : bn c a = ⟨⟨dnL c (a + 1), nx c (a + 2) 9, pk c (a + 3) [-1, -1, 3], []⟩, (b3d c a : Int), b3q c a⟩ := by unfold bn; simp [hv, he, b3n]
  rw [ev]
  have h : SatG Try.prog 183 false [.ptr 1 0] [(1, bSrc c a)] (.tup [.agg [iT (dnL c (a + 1)), iT (nx c (a + 2) 9), iT (pk c (a + 3) [-1, -1, 3]), .ref 2], iT ((b3d c a : Int))]) ((1, bSrc c (b3q c a)) :: [(2, .fro 4 (([]).map eEntry))]) := by
    refine satG_walk (fn := Try.f183) rfl rfl rfl (Nat.le_of_ble_eq_true rfl) (by simp) fun fr hP hN hdp hb1 hb2 => ?_
    have hE : (envOf fr Try.prog).Ok := envOf_ok hP
    have hM := follows_of hP
    have hS : ∀ {draw ops}, statB Try.f183.ntmps draw ops = true → statB (envOf fr Try.prog).fr.N draw ops = true := fun h => by rw [envOf_fr, hN]; exact h
    obtain ⟨d1, d2⟩ := b3d_in c a
    have q := b3q_in c a
    have le := dnE_len c (a + 1) (b3d c a)
    have k1 := s_l1Dims c a hc (by omega) (by omega)
    rw [d1] at k1
    have k2 := s_l3Draw c (a + 1) (b3d c a) hc (by omega) (by omega) (by omega) (by omega)
    rw [show a + 1 + 1 = a + 2 by omega, show a + 1 + 2 = a + 3 by omega] at k2
    have dq := dnA_in c (a + 1) (b3d c a) (by omega)
    have t0 : Int.toNat 0 = 0 := rfl
    have k3 := s_l1Next c (dnA c (a + 1) (b3d c a)) 20 hc (by omega) (by omega) (by omega) (by omega)
    rw [show nx c (dnA c (a + 1) (b3d c a)) 20 = b3v c a from rfl, show dnA c (a + 1) (b3d c a) + 1 = b3q c a from rfl] at k3
    have he' : decide ((0 : Int) < ((dnE c (a + 1) (b3d c a)).length : Int)) = false := by simp only [decide_eq_false_iff_not]; omega
    have e0 := List.eq_nil_of_length_eq_zero he
    rw [e0] at k2
    rw [e0] at he'
    repeat' (first
      | exact True.intro
      | refine ev_seq ?_
      | ((first | refine endG_ret [(2, some 2105360)] hE rfl ?_ | refine vgd_go ?_ | refine ev_region hE hM (hS (by decide +kernel)) ?_ | refine ev_if ?_ | refine end_ret hE rfl rfl ?_ | refine end_norm hE rfl rfl ?_ | refine endG_ret [] hE rfl ?_ | refine endG_norm [] hE rfl ?_ | refine vcallG_at (args := [.ptr 1 0]) 1 [] rfl hP (k1) ?_ | refine vcallG_at (args := [.ptr 1 0, iT (b3d c a)]) 1 [] rfl hP (k2) ?_ | refine vcallG_at (args := [.ptr 1 0, iT 20]) 1 [] rfl hP (k3) ?_ | refine vcall_A ?_); simp (maxSteps := 2000000) only [go_sem, hP, ↓reduceIte, Nat.reduceAdd, Nat.reduceMul, Nat.reduceEqDiff, Nat.reduceSub, Nat.reduceLeDiff, reduceCtorEq, List.length_map, Bool.and_self, Int.reduceBEq, hv, he'])
      | refine ev_skip ?_ | refine ev_block ?_ | refine ev_blk ?_ | refine ev_ret ?_ | refine ev_exit ?_ | refine evx_code_ret ?_ | refine evx_blk_ret ?_ | refine evx_lp_ret ?_
      | refine evx_code_exit ?_ | refine evx_lp_exit ?_ | refine evx_blk_hit ?_ | refine evx_blk_pass (by decide) ?_
      | refine And.intro ?_ ?_ | intro _ | decide +kernel | omega)
    all_goals first
      | rfl
      | (exfalso; omega)
      | omega
      | (rename_i h; exact h.symm)
      | (simp [strip_oEntry]; done)
      | (simp [eEntry_eq]; done)
      | (simp_all; done)
      | trace_state
  exact satG_data (fz := [(2, .fro 4 (([]).map eEntry))]) (fun κ h => by simp only [lk] at h; split at h <;> simp_all) trivial rfl h
theorem s_l3Bent6 (c : List Int) (a : Int) (hc : codeOk c) (h0 : 0 ≤ a) (h1 : a ≤ 1070000000) (hv : b3v c a = 6) : SatG Try.prog 183 false [.ptr 1 0] [(1, bSrc c a)] (.tup [.agg [iT (bn c a).n.level, iT (bn c a).n.nsn, iT (bn c a).n.right, .c (sEntryS (bn c a).n.entries)], iT (bn c a).d]) [(1, bSrc c (bn c a).p)] := by
  have ev : bn c a = ⟨⟨dnL c (a + 1), nx c (a + 2) 9, pk c (a + 3) [-1, -1, 3], dnE c (a + 1) (b3d c a)⟩, pk c (b3q c a) [1, 2, 3, 4], b3q c a + 1⟩ := by unfold bn; simp [hv, b3n]
  rw [ev]
  have h : SatG Try.prog 183 false [.ptr 1 0] [(1, bSrc c a)] (.tup [.agg [iT (dnL c (a + 1)), iT (nx c (a + 2) 9), iT (pk c (a + 3) [-1, -1, 3]), .ref 2], iT (pk c (b3q c a) [1, 2, 3, 4])]) ((1, bSrc c (b3q c a + 1)) :: [(2, .fro 4 ((dnE c (a + 1) (b3d c a)).map eEntry))]) := by
    refine satG_walk (fn := Try.f183) rfl rfl rfl (Nat.le_of_ble_eq_true rfl) (by simp) fun fr hP hN hdp hb1 hb2 => ?_
    have hE : (envOf fr Try.prog).Ok := envOf_ok hP
    have hM := follows_of hP
    have hS : ∀ {draw ops}, statB Try.f183.ntmps draw ops = true → statB (envOf fr Try.prog).fr.N draw ops = true := fun h => by rw [envOf_fr, hN]; exact h
    obtain ⟨d1, d2⟩ := b3d_in c a
    have q := b3q_in c a
    have le := dnE_len c (a + 1) (b3d c a)
    have k1 := s_l1Dims c a hc (by omega) (by omega)
    rw [d1] at k1
    have k2 := s_l3Draw c (a + 1) (b3d c a) hc (by omega) (by omega) (by omega) (by omega)
    rw [show a + 1 + 1 = a + 2 by omega, show a + 1 + 2 = a + 3 by omega] at k2
    have dq := dnA_in c (a + 1) (b3d c a) (by omega)
    have t0 : Int.toNat 0 = 0 := rfl
    have k3 := s_l1Next c (dnA c (a + 1) (b3d c a)) 20 hc (by omega) (by omega) (by omega) (by omega)
    rw [show nx c (dnA c (a + 1) (b3d c a)) 20 = b3v c a from rfl, show dnA c (a + 1) (b3d c a) + 1 = b3q c a from rfl] at k3
    have k4 := s_l1Pick c (b3q c a) [1, 2, 3, 4] hc (by omega) (by omega) (by simp) (by simp)
    repeat' (first
      | exact True.intro
      | refine ev_seq ?_
      | ((first | refine endG_ret [(2, some 2105360)] hE rfl ?_ | refine vgd_go ?_ | refine ev_region hE hM (hS (by decide +kernel)) ?_ | refine ev_if ?_ | refine end_ret hE rfl rfl ?_ | refine end_norm hE rfl rfl ?_ | refine endG_ret [] hE rfl ?_ | refine endG_norm [] hE rfl ?_ | refine vcallG_at (args := [.ptr 1 0]) 1 [] rfl hP (k1) ?_ | refine vcallG_at (args := [.ptr 1 0, iT (b3d c a)]) 1 [] rfl hP (k2) ?_ | refine vcallG_at (args := [.ptr 1 0, iT 20]) 1 [] rfl hP (k3) ?_ | refine vcallG_at (args := [.ptr 1 0, .ref 73736]) 1 [73736] rfl hP (k4) ?_ | refine vcall_A ?_); simp (maxSteps := 2000000) only [go_sem, hP, ↓reduceIte, Nat.reduceAdd, Nat.reduceMul, Nat.reduceEqDiff, Nat.reduceSub, Nat.reduceLeDiff, reduceCtorEq, List.length_map, Bool.and_self, Int.reduceBEq, hv])
      | refine ev_skip ?_ | refine ev_block ?_ | refine ev_blk ?_ | refine ev_ret ?_ | refine ev_exit ?_ | refine evx_code_ret ?_ | refine evx_blk_ret ?_ | refine evx_lp_ret ?_
      | refine evx_code_exit ?_ | refine evx_lp_exit ?_ | refine evx_blk_hit ?_ | refine evx_blk_pass (by decide) ?_
      | refine And.intro ?_ ?_ | intro _ | decide +kernel | omega)
    all_goals first
      | rfl
      | (exfalso; omega)
      | omega
      | (rename_i h; exact h.symm)
      | (simp [strip_oEntry]; done)
      | (simp [eEntry_eq]; done)
      | (simp_all; done)
      | trace_state
  exact satG_data (fz := [(2, .fro 4 ((dnE c (a + 1) (b3d c a)).map eEntry))]) (fun κ h => by simp only [lk] at h; split at h <;> simp_all) trivial rfl h
theorem s_l3Bent7 (c : List Int) (a : Int) (hc : codeOk c) (h0 : 0 ≤ a) (h1 : a ≤ 1070000000) (g0 : b3v c a ≠ 0) (g1 : b3v c a ≠ 1) (g2 : b3v c a ≠ 2) (g3 : b3v c a ≠ 3) (g4 : b3v c a ≠ 4) (g5 : b3v c a ≠ 5) (g6 : b3v c a ≠ 6) : SatG Try.prog 183 false [.ptr 1 0] [(1, bSrc c a)] (.tup [.agg [iT (bn c a).n.level, iT (bn c a).n.nsn, iT (bn c a).n.right, .c (sEntryS (bn c a).n.entries)], iT (bn c a).d]) [(1, bSrc c (bn c a).p)] := by
  have ev : bn c a = ⟨⟨dnL c (a + 1), nx c (a + 2) 9, pk c (a + 3) [-1, -1, 3], dnE c (a + 1) (b3d c a)⟩, (b3d c a : Int), b3q c a⟩ := by unfold bn; simp [g0, g1, g2, g3, g4, g5, g6, b3n]
  rw [ev]
  have h : SatG Try.prog 183 false [.ptr 1 0] [(1, bSrc c a)] (.tup [.agg [iT (dnL c (a + 1)), iT (nx c (a + 2) 9), iT (pk c (a + 3) [-1, -1, 3]), .ref 2], iT ((b3d c a : Int))]) ((1, bSrc c (b3q c a)) :: [(2, .fro 4 ((dnE c (a + 1) (b3d c a)).map eEntry))]) := by
    refine satG_walk (fn := Try.f183) rfl rfl rfl (Nat.le_of_ble_eq_true rfl) (by simp) fun fr hP hN hdp hb1 hb2 => ?_
    have hE : (envOf fr Try.prog).Ok := envOf_ok hP
    have hM := follows_of hP
    have hS : ∀ {draw ops}, statB Try.f183.ntmps draw ops = true → statB (envOf fr Try.prog).fr.N draw ops = true := fun h => by rw [envOf_fr, hN]; exact h
    obtain ⟨d1, d2⟩ := b3d_in c a
    have q := b3q_in c a
    have le := dnE_len c (a + 1) (b3d c a)
    have k1 := s_l1Dims c a hc (by omega) (by omega)
    rw [d1] at k1
    have k2 := s_l3Draw c (a + 1) (b3d c a) hc (by omega) (by omega) (by omega) (by omega)
    rw [show a + 1 + 1 = a + 2 by omega, show a + 1 + 2 = a + 3 by omega] at k2
    have dq := dnA_in c (a + 1) (b3d c a) (by omega)
    have t0 : Int.toNat 0 = 0 := rfl
    have k3 := s_l1Next c (dnA c (a + 1) (b3d c a)) 20 hc (by omega) (by omega) (by omega) (by omega)
    rw [show nx c (dnA c (a + 1) (b3d c a)) 20 = b3v c a from rfl, show dnA c (a + 1) (b3d c a) + 1 = b3q c a from rfl] at k3
    have b0 : (b3v c a == 0) = false := beq_eq_false_iff_ne.2 g0
    have b1 : (b3v c a == 1) = false := beq_eq_false_iff_ne.2 g1
    have b2 : (b3v c a == 2) = false := beq_eq_false_iff_ne.2 g2
    have b3 : (b3v c a == 3) = false := beq_eq_false_iff_ne.2 g3
    have b4 : (b3v c a == 4) = false := beq_eq_false_iff_ne.2 g4
    have b5 : (b3v c a == 5) = false := beq_eq_false_iff_ne.2 g5
    have b6 : (b3v c a == 6) = false := beq_eq_false_iff_ne.2 g6
    repeat' (first
      | exact True.intro
      | refine ev_seq ?_
      | ((first | refine endG_ret [(2, some 2105360)] hE rfl ?_ | refine vgd_go ?_ | refine ev_region hE hM (hS (by decide +kernel)) ?_ | refine ev_if ?_ | refine end_ret hE rfl rfl ?_ | refine end_norm hE rfl rfl ?_ | refine endG_ret [] hE rfl ?_ | refine endG_norm [] hE rfl ?_ | refine vcallG_at (args := [.ptr 1 0]) 1 [] rfl hP (k1) ?_ | refine vcallG_at (args := [.ptr 1 0, iT (b3d c a)]) 1 [] rfl hP (k2) ?_ | refine vcallG_at (args := [.ptr 1 0, iT 20]) 1 [] rfl hP (k3) ?_ | refine vcall_A ?_); simp (maxSteps := 2000000) only [go_sem, hP, ↓reduceIte, Nat.reduceAdd, Nat.reduceMul, Nat.reduceEqDiff, Nat.reduceSub, Nat.reduceLeDiff, reduceCtorEq, List.length_map, Bool.and_self, Int.reduceBEq, b0, b1, b2, b3, b4, b5, b6])
      | refine ev_skip ?_ | refine ev_block ?_ | refine ev_blk ?_ | refine ev_ret ?_ | refine ev_exit ?_ | refine evx_code_ret ?_ | refine evx_blk_ret ?_ | refine evx_lp_ret ?_
      | refine evx_code_exit ?_ | refine evx_lp_exit ?_ | refine evx_blk_hit ?_ | refine evx_blk_pass (by decide) ?_
      | refine And.intro ?_ ?_ | intro _ | decide +kernel | omega)
    all_goals first
      | rfl
      | (exfalso; omega)
      | omega
      | (rename_i h; exact h.symm)
      | (simp [strip_oEntry]; done)
      | (simp [eEntry_eq]; done)
      | (simp_all; done)
      | trace_state
  exact satG_data (fz := [(2, .fro 4 ((dnE c (a + 1) (b3d c a)).map eEntry))]) (fun κ h => by simp only [lk] at h; split at h <;> simp_all) trivial rfl h
theorem s_l3Bent (c : List Int) (a : Int) (hc : codeOk c) (h0 : 0 ≤ a) (h1 : a ≤ 1070000000) : SatG Try.prog 183 false [.ptr 1 0] [(1, bSrc c a)] (.tup [.agg [iT (bn c a).n.level, iT (bn c a).n.nsn, iT (bn c a).n.right, .c (sEntryS (bn c a).n.entries)], iT (bn c a).d]) [(1, bSrc c (bn c a).p)] := by
  by_cases g0 : b3v c a = 0
  · exact s_l3Bent0 c a hc h0 h1 g0
  by_cases g1 : b3v c a = 1
  · exact s_l3Bent1 c a hc h0 h1 g1
  by_cases g2 : b3v c a = 2
  · exact s_l3Bent2 c a hc h0 h1 g2
  by_cases g3 : b3v c a = 3
  · exact s_l3Bent3 c a hc h0 h1 g3
  by_cases g4 : b3v c a = 4
  · exact s_l3Bent4 c a hc h0 h1 g4
  by_cases g5 : b3v c a = 5
  · by_cases he : (dnE c (a + 1) (b3d c a)).length = 0
    · exact s_l3Bent5n c a hc h0 h1 g5 he
    · exact s_l3Bent5 c a hc h0 h1 g5 he
  by_cases g6 : b3v c a = 6
  · exact s_l3Bent6 c a hc h0 h1 g6
  exact s_l3Bent7 c a hc h0 h1 g0 g1 g2 g3 g4 g5 g6
def refV (c : List Int) (p : Int) (n : Node) : Int :=
  if n.entries.length = 0 then pk c p [31, -1, 5]
  else if nx c p 4 = 0 then pk c (p + 1) [31, -1, 5]
  else (n.entries.getD (nx c (p + 1) n.entries.length).toNat default).ref
def refA (c : List Int) (p : Int) (n : Node) : Int := if n.entries.length = 0 then p + 1 else p + 2
theorem s_l3Ref (c : List Int) (p : Int) (n : Node) (hc : codeOk c) (h0 : 0 ≤ p) (h1 : p ≤ 1071000000) (hl : n.entries.length ≤ 60000) : SatG Try.prog 187 false [.ptr 1 0, .pv [.int .i64 n.level, .int .i64 n.nsn, .int .i64 n.right, sEntryS n.entries]] [(1, bSrc c p)] (iT (refV c p n)) [(1, bSrc c (refA c p n))] := by
  refine satG_walk (fn := Try.f187) rfl rfl rfl (Nat.le_of_ble_eq_true rfl) (by simp) fun fr hP hN hdp hb1 hb2 => ?_
  have hE : (envOf fr Try.prog).Ok := envOf_ok hP
  have hM := follows_of hP
  have hS : ∀ {draw ops}, statB Try.f187.ntmps draw ops = true → statB (envOf fr Try.prog).fr.N draw ops = true := fun h => by rw [envOf_fr, hN]; exact h
  by_cases he : n.entries.length = 0
  · have hg : decide ((0 : Int) < (n.entries.length : Int)) = false := by simp only [decide_eq_false_iff_not]; omega
    rw [show refV c p n = pk c p [31, -1, 5] from if_pos he, show refA c p n = p + 1 from if_pos he]
    repeat' (first
      | exact True.intro
      | refine ev_seq ?_
      | ((first | refine vgd_go ?_ | refine ev_region hE hM (hS (by decide +kernel)) ?_ | refine ev_if ?_ | refine end_ret hE rfl rfl ?_ | refine end_norm hE rfl rfl ?_ | refine endG_ret [] hE rfl ?_ | refine endG_norm [] hE rfl ?_ | refine vcallG_at (args := [.ptr 1 0, .ref 16392]) 1 [16392] rfl hP (s_l1Pick c p [31, -1, 5] hc (by omega) (by omega) (by simp) (by simp)) ?_ | refine vcall_A ?_); simp (maxSteps := 2000000) only [go_sem, hP, ↓reduceIte, Nat.reduceAdd, Nat.reduceMul, Nat.reduceEqDiff, Nat.reduceSub, Nat.reduceLeDiff, reduceCtorEq, hg, List.length_map])
      | refine ev_skip ?_ | refine ev_block ?_ | refine ev_blk ?_ | refine ev_ret ?_ | refine ev_exit ?_ | refine evx_code_ret ?_ | refine evx_blk_ret ?_ | refine evx_lp_ret ?_
      | refine evx_code_exit ?_ | refine evx_lp_exit ?_ | refine evx_blk_hit ?_ | refine evx_blk_pass (by decide) ?_
      | refine And.intro ?_ ?_ | intro _ | decide +kernel | omega)
    all_goals first
      | rfl
      | (exfalso; omega)
      | (simp_all; done)
      | trace_state
  · have hg : decide ((0 : Int) < (n.entries.length : Int)) = true := by simp only [decide_eq_true_eq]; omega
    by_cases hv : nx c p 4 = 0
    · have hb : (nx c p 4 == 0) = true := by simpa using hv
      have e2 : p + 1 + 1 = p + 2 := by omega
      rw [show refV c p n = pk c (p + 1) [31, -1, 5] by unfold refV; rw [if_neg he, if_pos hv], show refA c p n = p + 2 from if_neg he]
      repeat' (first
        | exact True.intro
        | refine ev_seq ?_
        | ((first | refine vgd_go ?_ | refine ev_region hE hM (hS (by decide +kernel)) ?_ | refine ev_if ?_ | refine end_ret hE rfl rfl ?_ | refine end_norm hE rfl rfl ?_ | refine endG_ret [] hE rfl ?_ | refine endG_norm [] hE rfl ?_ | refine vcallG_at (args := [.ptr 1 0, iT 4]) 1 [] rfl hP (s_l1Chance c p 4 hc (by omega) (by omega) (by omega) (by omega)) ?_ | refine vcallG_at (args := [.ptr 1 0, .ref 16392]) 1 [16392] rfl hP (s_l1Pick c (p + 1) [31, -1, 5] hc (by omega) (by omega) (by simp) (by simp)) ?_ | refine vcall_A ?_); simp (maxSteps := 2000000) only [go_sem, hP, ↓reduceIte, Nat.reduceAdd, Nat.reduceMul, Nat.reduceEqDiff, Nat.reduceSub, Nat.reduceLeDiff, reduceCtorEq, hg, hb, e2, List.length_map])
        | refine ev_skip ?_ | refine ev_block ?_ | refine ev_blk ?_ | refine ev_ret ?_ | refine ev_exit ?_ | refine evx_code_ret ?_ | refine evx_blk_ret ?_ | refine evx_lp_ret ?_
        | refine evx_code_exit ?_ | refine evx_lp_exit ?_ | refine evx_blk_hit ?_ | refine evx_blk_pass (by decide) ?_
        | refine And.intro ?_ ?_ | intro _ | decide +kernel | omega)
      all_goals first
        | rfl
        | (exfalso; omega)
        | (simp_all; done)
        | trace_state
    · have hb : (nx c p 4 == 0) = false := by simpa using hv
      have e2 : p + 1 + 1 = p + 2 := by omega
      obtain ⟨p1, p2⟩ := nx_in (c := c) (a := p + 1) (n := n.entries.length) (by omega)
      rw [show refV c p n = (n.entries.getD (nx c (p + 1) n.entries.length).toNat default).ref by unfold refV; rw [if_neg he, if_neg hv], show refA c p n = p + 2 from if_neg he]
      repeat' (first
        | exact True.intro
        | refine ev_seq ?_
        | ((first | refine vgd_go ?_ | refine ev_region hE hM (hS (by decide +kernel)) ?_ | refine ev_if ?_ | refine end_ret hE rfl rfl ?_ | refine end_norm hE rfl rfl ?_ | refine endG_ret [] hE rfl ?_ | refine endG_norm [] hE rfl ?_ | refine vcallG_at (args := [.ptr 1 0, iT 4]) 1 [] rfl hP (s_l1Chance c p 4 hc (by omega) (by omega) (by omega) (by omega)) ?_ | refine vcallG_at (args := [.ptr 1 0, iT n.entries.length]) 1 [] rfl hP (s_l1Next c (p + 1) n.entries.length hc (by omega) (by omega) (by omega) (by omega)) ?_ | refine vcall_A ?_); simp (maxSteps := 2000000) only [go_sem, hP, ↓reduceIte, Nat.reduceAdd, Nat.reduceMul, Nat.reduceEqDiff, Nat.reduceSub, Nat.reduceLeDiff, reduceCtorEq, hg, hb, e2, List.length_map])
        | refine ev_skip ?_ | refine ev_block ?_ | refine ev_blk ?_ | refine ev_ret ?_ | refine ev_exit ?_ | refine evx_code_ret ?_ | refine evx_blk_ret ?_ | refine evx_lp_ret ?_
        | refine evx_code_exit ?_ | refine evx_lp_exit ?_ | refine evx_blk_hit ?_ | refine evx_blk_pass (by decide) ?_
        | refine And.intro ?_ ?_ | intro _ | decide +kernel | omega)
      all_goals first
        | rfl
        | (exfalso; omega)
        | omega
        | (simp_all; done)
        | trace_state
/-- Entries that may be wrong, the number of their dimensions, and where the code is read on. -/
structure BL where
  l : List Entry
  d : Int
  p : Int
def b5c (c : List Int) (a : Int) : Nat := (pk c (a + 1) [5, 5, 6, 8, 4, 3, 0]).toNat
theorem b5c_in (c : List Int) (a : Int) : pk c (a + 1) [5, 5, 6, 8, 4, 3, 0] = (b5c c a : Int) ∧ b5c c a ≤ 8 := by
  have h := pk_mem (c := c) (a := a + 1) (xs := [5, 5, 6, 8, 4, 3, 0]) (by simp)
  simp only [List.mem_cons, List.not_mem_nil, or_false] at h
  unfold b5c; omega
def b5f (c : List Int) (a : Int) : Bool := nx c (a + 2) 2 == 0
def b5e (c : List Int) (a : Int) : List Entry := listV c (a + 3) (b3d c a) (b5f c a) (b5c c a)
theorem b5e_len (c : List Int) (a : Int) : (b5e c a).length ≤ 8 := Nat.le_trans (listV_len _ _ _ _ _) (b5c_in c a).2
def b5p (c : List Int) (a : Int) : Int := a + 3 + lw (b3d c a) (b5f c a) * b5c c a
def b5v (c : List Int) (a : Int) : Int := nx c (b5p c a) 18
theorem b5p_in (c : List Int) (a : Int) : a ≤ b5p c a ∧ b5p c a ≤ a + 60300 := by
  have h1 := (b5c_in c a).2
  have h2 := (b3d_in c a).2
  have := lw_in (b3d c a) (b5c c a) (b5f c a) (by omega) (by omega)
  unfold b5p; omega
def sixV (c : List Int) (q : Int) (d k : Nat) : List Entry := (List.range k).map fun (i : Nat) => ⟨rectV c (q + 6 * d * i) d, 100 + i, 0⟩
def bl (c : List Int) (a : Int) : BL :=
  if b5v c a = 0 then ⟨b5e c a ++ [⟨bentV c (b5p c a + 1) (b3d c a), pk c (bentA c (b5p c a + 1) (b3d c a)) [40, 1000, -1], 0⟩], b3d c a, bentA c (b5p c a + 1) (b3d c a) + 1⟩
  else if b5v c a = 1 then ⟨if (b5e c a).length = 0 then [] else b5e c a ++ [(b5e c a).getD 0 default], b3d c a, b5p c a + 1⟩
  else if b5v c a = 2 then ⟨b5e c a ++ sixV c (b5p c a + 1) (b3d c a) 6, b3d c a, b5p c a + 1 + 6 * b3d c a * 6⟩
  else if b5v c a = 3 then ⟨b5e c a, pk c (b5p c a + 1) [1, 2, 3, 4], b5p c a + 2⟩
  else ⟨b5e c a, b3d c a, b5p c a + 1⟩
theorem bl_p (c : List Int) (a : Int) : a ≤ (bl c a).p ∧ (bl c a).p ≤ a + 61000 := by
  have h1 := b5p_in c a
  have h2 := (b3d_in c a).2
  have h3 := bentA_in c (b5p c a + 1) (b3d c a)
  unfold bl
  (repeat' split) <;> simp only <;> omega
def clD (d : Int) : Nat := (min (max d 2) 3).toNat
theorem clD_in (d : Int) : clD d = 2 ∨ clD d = 3 := by unfold clD; omega
theorem clD_eq (d : Int) : min (max d 2) 3 = (clD d : Int) := by unfold clD; omega
def ceR (c : List Int) : Rect := bentV c (bl c 0).p (clD (bl c 0).d)
def efN (c : List Int) : Node := (bn c 0).n
def efD (c : List Int) : Int := (bn c 0).d
def efP (c : List Int) : Int := (bn c 0).p
def efR (c : List Int) : Int := refV c (efP c) (efN c)
def wiR (c : List Int) : Rect := bentV c 26 (clD (efD c))
theorem bn_in (c : List Int) (a : Int) : a ≤ (bn c a).p ∧ (bn c a).p ≤ a + 130000 ∧ (bn c a).n.entries.length ≤ 20 := by
  have h1 := b3q_in c a
  have h2 := (b3d_in c a).2
  have h3 := bentA_in c (b3q c a) (b3d c a)
  have h4 := lw_in (b3d c a) 9 true (by omega) (by omega)
  have h5 := dnE_len c (a + 1) (b3d c a)
  have h6 := listV_len c (b3q c a) (b3d c a) true 9
  have h7 : lw (b3d c a) true = 6 * b3d c a + 1 := rfl
  have h8 : (b3n c a).entries = dnE c (a + 1) (b3d c a) := rfl
  have e1 : ∀ x : Entry, ((b3n c a).entries ++ [x]).length ≤ 6 := fun x => by rw [List.length_append, h8]; simp; omega
  unfold bn
  (repeat' split) <;> refine ⟨?_, ?_, ?_⟩ <;> first
    | (simp only; omega)
    | (simp only [h8]; omega)
    | (refine Nat.le_trans (e1 _) ?_; omega)
    | (simp; done)
theorem s_DrawEntryFor (c : List Int) (hc : codeOk c) : Sat Try.prog 76 [aY c] false [(true, [.int .i64 (efN c).level, .int .i64 (efN c).nsn, .int .i64 (efN c).right, sEntryS (efN c).entries]), (false, [.int .i64 (efD c)]), (false, [.int .i64 (efR c)])] := by
  refine sat_walk (fn := Try.f76) rfl rfl rfl (Nat.le_of_ble_eq_true rfl) fun fr hP hN hbnd => ?_
  have hE : (envOf fr Try.prog).Ok := envOf_ok hP
  have hM := follows_of hP
  have hS : ∀ {draw ops}, statB Try.f76.ntmps draw ops = true → statB (envOf fr Try.prog).fr.N draw ops = true := fun h => by rw [envOf_fr, hN]; exact h
  obtain ⟨q1, q2, q3⟩ := bn_in c 0
  have k1 := s_l3Bent c 0 hc (by omega) (by omega)
  have k2 := s_l3Ref c (efP c) (efN c) hc q1 (by unfold efP; omega) (by unfold efN; omega)
  rw [show refV c (efP c) (efN c) = efR c from rfl] at k2
  rw [show (bn c 0).n = efN c from rfl, show (bn c 0).d = efD c from rfl, show (bn c 0).p = efP c from rfl] at k1
  repeat' (first
    | exact True.intro
    | refine ev_seq ?_
    | ((first | refine ev_stop 3 ?_ | refine vgd_go ?_ | refine ev_region hE hM (hS (by decide +kernel)) ?_ | refine ev_if ?_ | refine end_ret hE rfl rfl ?_ | refine end_norm hE rfl rfl ?_ | refine endG_ret [] hE rfl ?_ | refine endG_norm [] hE rfl ?_ | refine vcallG_of (args := [.c (sY c)]) [] [] hP (s_l1Source c) ?_ | refine vcallG_at (args := [.ptr 1052680 0]) 1052680 [] rfl hP (k1) ?_ | refine vcall_A ?_); simp (maxSteps := 2000000) only [go_sem, hP, ↓reduceIte, Nat.reduceAdd, Nat.reduceMul, Nat.reduceEqDiff, Nat.reduceSub, Nat.reduceLeDiff, reduceCtorEq])
    | refine ev_skip ?_ | refine ev_block ?_ | refine ev_blk ?_ | refine ev_ret ?_ | refine ev_exit ?_ | refine evx_code_ret ?_ | refine evx_blk_ret ?_ | refine evx_lp_ret ?_
    | refine evx_code_exit ?_ | refine evx_lp_exit ?_ | refine evx_blk_hit ?_ | refine evx_blk_pass (by decide) ?_
    | refine And.intro ?_ ?_ | intro _ | decide +kernel | omega)
  first | refine Stop.mk ?_ | skip
  refine ev_cut [(2, .ptr 0 0), (5, .ptr 1052680 0), (6, .ptr 8232 0), (7, iT (efD c))] [(0, .box [iT 0, iT 0, iT 0, .nilS]), (1052680, bSrc c (efP c)), (8232, .box [iT (efN c).level, iT (efN c).nsn, iT (efN c).right, .c (sEntryS (efN c).entries)])] [] [] (by simp only [go_sem, hP, ↓reduceIte, Nat.reduceAdd, Nat.reduceMul, Nat.reduceEqDiff, Nat.reduceSub, Nat.reduceLeDiff, reduceCtorEq]; simp) ?_
  refine ev_pv 8232 [.int .i64 (efN c).level, .int .i64 (efN c).nsn, .int .i64 (efN c).right, sEntryS (efN c).entries] rfl ?_
  simp only [pvS, pvH, pvT, pvB, pvTs, Nat.reduceEqDiff, ↓reduceIte, List.drop_zero, reduceCtorEq]
  repeat' (first
    | exact True.intro
    | refine ev_seq ?_
    | ((first | refine vgd_go ?_ | refine ev_region hE hM (hS (by decide +kernel)) ?_ | refine ev_if ?_ | refine end_ret hE rfl rfl ?_ | refine end_norm hE rfl rfl ?_ | refine endG_ret [] hE rfl ?_ | refine endG_norm [] hE rfl ?_ | refine vcallG_of (args := [.ptr 1052680 0, .pv [.int .i64 (efN c).level, .int .i64 (efN c).nsn, .int .i64 (efN c).right, sEntryS (efN c).entries]]) [(1, 1052680)] [] hP k2 ?_ | refine vcall_A ?_); simp (maxSteps := 2000000) only [go_sem, hP, ↓reduceIte, Nat.reduceAdd, Nat.reduceMul, Nat.reduceEqDiff, Nat.reduceSub, Nat.reduceLeDiff, reduceCtorEq])
    | refine ev_skip ?_ | refine ev_block ?_ | refine ev_blk ?_ | refine ev_ret ?_ | refine ev_exit ?_ | refine evx_code_ret ?_ | refine evx_blk_ret ?_ | refine evx_lp_ret ?_
    | refine evx_code_exit ?_ | refine evx_lp_exit ?_ | refine evx_blk_hit ?_ | refine evx_blk_pass (by decide) ?_
    | refine And.intro ?_ ?_ | intro _ | decide +kernel | omega)
  all_goals first
    | rfl
    | (simp_all; done)
    | trace_state
theorem s_DrawWidenEntry (c : List Int) (hc : codeOk c) : Sat Try.prog 69 [aY c] false [(true, [.int .i64 (efN c).level, .int .i64 (efN c).nsn, .int .i64 (efN c).right, sEntryS (efN c).entries]), (false, [.int .i64 (efD c)]), (false, [.int .i64 (efR c)]), (true, cR (wiR c))] := by
  refine sat_walk (fn := Try.f69) rfl rfl rfl (Nat.le_of_ble_eq_true rfl) fun fr hP hN hbnd => ?_
  have hE : (envOf fr Try.prog).Ok := envOf_ok hP
  have hM := follows_of hP
  have hS : ∀ {draw ops}, statB Try.f69.ntmps draw ops = true → statB (envOf fr Try.prog).fr.N draw ops = true := fun h => by rw [envOf_fr, hN]; exact h
  have e := clD_in (efD c)
  have k1 := s_l1Later c 3 (by omega) (by omega)
  simp only [show (5 + 7 * 3 : Int) = 26 from rfl] at k1
  have k2 := s_l1Bent c 26 (clD (efD c)) hc (by omega) (by omega) (by omega) (by omega)
  have k3 := s_l1Min (max (efD c) 2) 3
  rw [clD_eq] at k3
  rw [show bentV c 26 (clD (efD c)) = wiR c from rfl] at k2
  repeat' (first
    | exact True.intro
    | refine ev_seq ?_
    | ((first | refine vgd_go ?_ | refine ev_region hE hM (hS (by decide +kernel)) ?_ | refine ev_if ?_ | refine end_ret hE rfl rfl ?_ | refine end_norm hE rfl rfl ?_ | refine endG_ret [] hE rfl ?_ | refine endG_norm [] hE rfl ?_ | refine vcallB_of hP (s_DrawEntryFor c hc) ?_ | refine vcallG_of (args := [.c (sY c), iT 3]) [] [] hP k1 ?_ | refine vcallG_at (args := [.ptr 1056800 0, iT (clD (efD c))]) 1056800 [] rfl hP (k2) ?_ | refine vcallB_of hP (s_l1Max (efD c) 2) ?_ | refine vcallB_of hP k3 ?_ | refine vcall_A ?_); simp (maxSteps := 2000000) only [go_sem, hP, ↓reduceIte, Nat.reduceAdd, Nat.reduceMul, Nat.reduceEqDiff, Nat.reduceSub, Nat.reduceLeDiff, reduceCtorEq])
    | refine ev_skip ?_ | refine ev_block ?_ | refine ev_blk ?_ | refine ev_ret ?_ | refine ev_exit ?_ | refine evx_code_ret ?_ | refine evx_blk_ret ?_ | refine evx_lp_ret ?_
    | refine evx_code_exit ?_ | refine evx_lp_exit ?_ | refine evx_blk_hit ?_ | refine evx_blk_pass (by decide) ?_
    | refine And.intro ?_ ?_ | intro _ | decide +kernel | omega)
  all_goals first
    | rfl
    | (simp_all; done)
    | trace_state
theorem better_no {xs : List Entry} {r : Rect} {i j : Nat} (h : ¬ better xs r i j = true) : growth (xs.getD j default).rect r ≤ growth (xs.getD i default).rect r := by
  unfold better at h
  simp only [Bool.or_eq_true, Bool.and_eq_true, decide_eq_true_eq] at h
  omega
theorem better_yes {xs : List Entry} {r : Rect} {i j : Nat} (h : better xs r i j = true) : growth (xs.getD i default).rect r ≤ growth (xs.getD j default).rect r := by
  unfold better at h
  simp only [Bool.or_eq_true, Bool.and_eq_true, decide_eq_true_eq] at h
  omega
theorem choose_least (xs : List Entry) (r : Rect) : ∀ k j, j < k → growth (xs.getD (chooseTo xs r k) default).rect r ≤ growth (xs.getD j default).rect r
  | 0, j, h => by omega
  | k + 1, j, h => by
    by_cases hb : better xs r k (chooseTo xs r k) = true
    · rw [chooseTo_yes hb]
      rcases Nat.lt_or_ge j k with hlt | hge
      · exact Int.le_trans (better_yes hb) (choose_least xs r k j hlt)
      · obtain rfl : j = k := by omega
        exact Int.le_refl _
    · rw [chooseTo_no hb]
      rcases Nat.lt_or_ge j k with hlt | hge
      · exact choose_least xs r k j hlt
      · obtain rfl : j = k := by omega
        exact better_no hb
theorem chcode_zero {xs : List Entry} {d : Int} {r : Rect} (h : chcode xs d r = 0) : esf xs d = 0 ∧ rf r d = 0 ∧ 0 < xs.length := by
  unfold chcode at h
  (repeat' split at h) <;> omega
theorem two_of {a b : Rect} {d : Int} (h1 : rf a d = 0) (h2 : rf b d = 0) : two a b = 0 := by
  have := rf_len h1
  exact two_iff.2 ⟨by rw [this.1]; exact h1, by rw [this.1]; exact h2⟩
theorem firstF_all {α : Type} {f : α → Int} : ∀ {xs : List α}, (∀ x ∈ xs, f x = 0) → firstF f xs = 0
  | [], _ => rfl
  | x :: xs, h => by
    unfold firstF
    rw [if_pos (h x (by simp))]
    exact firstF_all fun y hy => h y (by simp [hy])
theorem dupAt_iff {xs : List Entry} {b : Nat} (hb : b < xs.length) : dupAt xs b = true ↔ ∃ a, a < b ∧ (xs.getD a default).ref = (xs.getD b default).ref := by
  unfold dupAt
  rw [List.any_eq_true]
  constructor
  · rintro ⟨x, hx, he⟩
    obtain ⟨a, ha, rfl⟩ := List.mem_iff_getElem.1 hx
    rw [List.length_take] at ha
    refine ⟨a, by omega, ?_⟩
    rw [getD_lt (show a < xs.length by omega)]
    simpa using he
  · rintro ⟨a, ha, he⟩
    have hl : a < (xs.take b).length := by rw [List.length_take]; omega
    refine ⟨(xs.take b)[a], List.getElem_mem hl, ?_⟩
    rw [List.getElem_take, ← getD_lt (show a < xs.length by omega)]
    simpa using he
theorem noDup_iff {xs : List Entry} : noDup xs = true ↔ ∀ a b, a < b → b < xs.length → (xs.getD a default).ref ≠ (xs.getD b default).ref := by
  unfold noDup
  rw [allLt_iff]
  constructor
  · intro h a b hab hb he
    have h1 := h b hb
    have h2 := (dupAt_iff hb).2 ⟨a, hab, he⟩
    rw [h2] at h1; cases h1
  · intro h b hb
    cases hq : dupAt xs b with
    | false => rfl
    | true =>
      obtain ⟨a, hab, he⟩ := (dupAt_iff hb).1 hq
      exact absurd he (h a b hab hb)
theorem noDup_nodup {xs : List Entry} : noDup xs = true ↔ (xs.map (·.ref)).Nodup := by
  rw [noDup_iff, List.nodup_iff_pairwise_ne, List.pairwise_iff_getElem]
  constructor
  · intro h i j hi hj hij
    rw [List.length_map] at hi hj
    have := h i j hij hj
    rw [getD_lt hi, getD_lt hj] at this
    simpa using this
  · intro h a b hab hb
    have := h a b (by rw [List.length_map]; omega) (by rw [List.length_map]; omega) hab
    rw [getD_lt (show a < xs.length by omega), getD_lt hb]
    simpa using this
theorem nf_iff {n : Node} {d : Int} : nf n d = 0 ↔ (inB d 2 3 && inB n.level 0 6 && inB n.nsn 0 100000 && inB n.right (-1) 39) = true ∧ n.entries.length ≤ 5 ∧ (∀ x ∈ n.entries, entryF d x = 0) ∧ (∀ x ∈ n.entries, fits n.level x = true) ∧ noDup n.entries = true := by
  constructor
  · intro h
    unfold nf at h
    split at h
    · omega
    rename_i h1
    split at h
    · omega
    rename_i h2
    split at h
    · rename_i h3; exact absurd h h3
    rename_i h3
    split at h
    · omega
    rename_i h4
    split at h
    · rename_i h5
      exact ⟨by rw [Bool.not_eq_false] at h1; exact h1, by omega, firstF_zero (by simpa using h3), by simpa using h4, h5⟩
    · omega
  · rintro ⟨h1, h2, h3, h4, h5⟩
    unfold nf
    rw [if_neg (by rw [h1]; simp), if_neg (by omega), if_neg (by rw [firstF_all h3]; simp), if_neg (by rw [List.all_eq_true.2 h4]; simp), if_pos h5]
theorem findRef_none {xs : List Entry} {r : Int} : findRef xs r < 0 ↔ ∀ x ∈ xs, x.ref ≠ r := by
  unfold findRef
  split
  · rename_i h
    obtain ⟨x, hx, he⟩ := List.any_eq_true.1 h
    constructor
    · intro h; omega
    · intro h; exact absurd (by simpa using he) (h x hx)
  · rename_i h
    constructor
    · intro _ x hx he
      exact h (List.any_eq_true.2 ⟨x, hx, by simpa using he⟩)
    · intro _; omega
theorem findRef_here {xs : List Entry} {i : Nat} {r : Int} (h : noDup xs = true) (hi : i < xs.length) (hr : (xs.getD i default).ref = r) : findRef xs r = i := by
  subst hr
  rw [findRef_self hi]
  cases hq : dupAt xs i with
  | false => rfl
  | true =>
    obtain ⟨a, ha, he⟩ := (dupAt_iff hi).1 hq
    exact absurd he (noDup_iff.1 h a i ha hi)
theorem weC_zero {n : Node} {d : Int} {e : Entry} (h : weC n d e = 0) : nf n d = 0 ∧ entryF d e = 0 ∧ fits n.level e = true ∧ findRef n.entries e.ref < 0 ∧ n.entries.length ≤ 4 := by
  unfold weC at h
  split at h
  · rename_i h1; exact absurd h h1
  rename_i h1
  split at h
  · rename_i h2; exact absurd h h2
  rename_i h2
  (repeat' split at h) <;> first | omega | skip
  rename_i h3 h4 h5
  exact ⟨by simpa using h1, by simpa using h2, by simpa using h3, by omega, by omega⟩
theorem nf_with {n : Node} {d : Int} {e : Entry} (h : weC n d e = 0) : nf ⟨n.level, n.nsn, n.right, n.entries ++ [e]⟩ d = 0 := by
  obtain ⟨h1, h2, h3, h4, h5⟩ := weC_zero h
  obtain ⟨g1, g2, g3, g4, g5⟩ := nf_iff.1 h1
  refine nf_iff.2 ⟨g1, by simp; omega, fun x hx => ?_, fun x hx => ?_, ?_⟩
  · rcases List.mem_append.1 hx with hx | hx
    · exact g3 x hx
    · rw [List.mem_singleton.1 hx]; exact h2
  · rcases List.mem_append.1 hx with hx | hx
    · exact g4 x hx
    · rw [List.mem_singleton.1 hx]; exact h3
  · rw [noDup_nodup] at g5 ⊢
    simp only [List.map_append, List.map_cons, List.map_nil]
    rw [List.nodup_append]
    refine ⟨g5, by simp, fun a ha b hb => ?_⟩
    obtain ⟨x, hx, rfl⟩ := List.mem_map.1 ha
    simp only [List.mem_cons, List.not_mem_nil, or_false] at hb
    subst hb
    exact findRef_none.1 h4 x hx
theorem without_sub (xs : List Entry) (i : Nat) : (xs.take i ++ xs.drop (i + 1)).Sublist xs := by
  conv => rhs; rw [← List.take_append_drop i xs]
  refine List.Sublist.append (List.Sublist.refl _) ?_
  have : xs.drop (i + 1) = (xs.drop i).drop 1 := by rw [List.drop_drop]
  rw [this]; exact List.drop_sublist _ _
theorem nf_without {n : Node} {d : Int} (i : Nat) (h : nf n d = 0) : nf ⟨n.level, n.nsn, n.right, n.entries.take i ++ n.entries.drop (i + 1)⟩ d = 0 := by
  obtain ⟨g1, g2, g3, g4, g5⟩ := nf_iff.1 h
  have hs := without_sub n.entries i
  exact nf_iff.2 ⟨g1, Nat.le_trans hs.length_le g2, fun x hx => g3 x (hs.subset hx), fun x hx => g4 x (hs.subset hx), noDup_nodup.2 ((hs.map _).nodup (noDup_nodup.1 g5))⟩
theorem without_gone {xs : List Entry} {i : Nat} {r : Int} (h : noDup xs = true) (hi : i < xs.length) (hr : (xs.getD i default).ref = r) : findRef (xs.take i ++ xs.drop (i + 1)) r < 0 := by
  rw [← filterE_one h hi hr, findRef_none]
  intro x hx
  simpa using (List.mem_filter.1 hx).2
theorem without_len {xs : List Entry} {i : Nat} (hi : i < xs.length) : (xs.take i ++ xs.drop (i + 1)).length = xs.length - 1 := by
  simp; omega
theorem boxTo_rf {xs : List Entry} {d : Int} (h : ∀ x ∈ xs, rf x.rect d = 0) : ∀ k, k < xs.length → rf (boxTo xs k) d = 0 ∧ (∀ i, i ≤ k → covers (boxTo xs k) (xs.getD i default).rect = true)
  | 0, hk => ⟨h _ (getD_mem hk), fun i hi => by
      obtain rfl : i = 0 := by omega
      exact covers_iff.2 fun j _ => ⟨Int.le_refl _, Int.le_refl _⟩⟩
  | k + 1, hk => by
    obtain ⟨h1, h2⟩ := boxTo_rf h k (by omega)
    have h3 := h _ (getD_mem (d := default) hk)
    have ht := two_of h1 h3
    have hl := rf_len h1
    refine ⟨by rw [boxTo_succ]; have := rf_un ht; rw [hl.1] at this; exact this, fun i hi => covers_iff.2 fun j hj => ?_⟩
    rw [boxTo_succ, un_low_len] at hj
    have e := un_at (a := boxTo xs k) (b := (xs.getD (k + 1) default).rect) hj
    rw [boxTo_succ]
    rcases Nat.lt_or_ge i (k + 1) with hlt | hge
    · have := covers_iff.1 (h2 i (by omega)) j hj
      omega
    · obtain rfl : i = k + 1 := by omega
      omega
theorem boxTo_least {xs : List Entry} {d : Int} {r : Rect} (h : ∀ x ∈ xs, rf x.rect d = 0) (hr : r.low.length = d.toNat) : ∀ k, k < xs.length → (∀ i, i ≤ k → covers r (xs.getD i default).rect = true) → covers r (boxTo xs k) = true
  | 0, hk, hc => hc 0 (Nat.le_refl _)
  | k + 1, hk, hc => by
    have ih := boxTo_least h hr k (by omega) fun i hi => hc i (by omega)
    have hl := rf_len (boxTo_rf h k (by omega)).1
    refine covers_iff.2 fun j hj => ?_
    have e := un_at (a := boxTo xs k) (b := (xs.getD (k + 1) default).rect) (k := j) (by omega)
    have a1 := covers_iff.1 ih j hj
    have a2 := covers_iff.1 (hc (k + 1) (Nat.le_refl _)) j hj
    rw [boxTo_succ]
    omega
theorem bx_rf {xs : List Entry} {d : Int} (h : ∀ x ∈ xs, rf x.rect d = 0) (h0 : 0 < xs.length) : rf (bx xs) d = 0 := (boxTo_rf h _ (by omega)).1
theorem bx_covers {xs : List Entry} {d : Int} (h : ∀ x ∈ xs, rf x.rect d = 0) {i : Nat} (hi : i < xs.length) : covers (bx xs) (xs.getD i default).rect = true := (boxTo_rf h (xs.length - 1) (by omega)).2 i (by omega)
theorem bx_least {xs : List Entry} {d : Int} {r : Rect} (h : ∀ x ∈ xs, rf x.rect d = 0) (hr : r.low.length = d.toNat) (h0 : 0 < xs.length) (hc : ∀ i, i < xs.length → covers r (xs.getD i default).rect = true) : covers r (bx xs) = true :=
  boxTo_least h hr _ (by omega) fun i hi => hc i (by omega)
theorem covers_trans {a b c : Rect} (hl : b.low.length = a.low.length) (h1 : covers a b = true) (h2 : covers b c = true) : covers a c = true := by
  refine covers_iff.2 fun k hk => ?_
  have := covers_iff.1 h1 k hk
  have := covers_iff.1 h2 k (by omega)
  omega
theorem nf_wider {n : Node} {d : Int} {b : Rect} {i : Nat} (h : nf n d = 0) (hb : rf b d = 0) (hi : i < n.entries.length) : nf ⟨n.level, n.nsn, n.right, n.entries.set i (wider (n.entries.getD i default) b)⟩ d = 0 := by
  obtain ⟨g1, g2, g3, g4, g5⟩ := nf_iff.1 h
  have hm := getD_mem (d := default) hi
  have hr := ef_rf (g3 _ hm)
  have hu : rf (un (n.entries.getD i default).rect b) d = 0 := by
    have h1 := rf_un (two_of hr hb)
    have h2 := rf_len hr
    rw [h2.1] at h1; exact h1
  refine nf_iff.2 ⟨g1, by simpa using g2, fun x hx => ?_, fun x hx => ?_, ?_⟩
  · rcases List.mem_or_eq_of_mem_set hx with hx | rfl
    · exact g3 x hx
    · have h1 := g3 _ hm
      unfold entryF at h1 ⊢
      rw [if_neg (by simpa using hr)] at h1
      rw [if_neg (by simpa [wider] using hu)]
      exact h1
  · rcases List.mem_or_eq_of_mem_set hx with hx | rfl
    · exact g4 x hx
    · exact (show fits n.level (n.entries.getD i default) = true from g4 _ hm)
  · rw [noDup_nodup] at g5 ⊢
    have e : (n.entries.set i (wider (n.entries.getD i default) b)).map (·.ref) = n.entries.map (·.ref) := by
      rw [List.map_set]
      refine List.ext_getElem (by simp) fun j h1 h2 => ?_
      rw [List.getElem_set]
      split
      · rename_i e; subst e
        rw [getD_lt hi]; simp [wider]
      · rfl
    rw [e]; exact g5
theorem wdC_zero {n : Node} {d r : Int} {b : Rect} (h : wdC n d r b = 0) : nf n d = 0 ∧ rf b d = 0 ∧ 0 ≤ findRef n.entries r := by
  unfold wdC at h
  (repeat' split at h) <;> omega
theorem getD_set_self {α : Type} {xs : List α} {i : Nat} {x d : α} (h : i < xs.length) : (xs.set i x).getD i d = x := by
  rw [List.getD_eq_getElem?_getD, List.getElem?_set_self h]; rfl
theorem getD_set_ne {α : Type} {xs : List α} {i j : Nat} {x d : α} (h : i ≠ j) : (xs.set i x).getD j d = xs.getD j d := by
  rw [List.getD_eq_getElem?_getD, List.getElem?_set_ne h, List.getD_eq_getElem?_getD]
theorem covers_self (a : Rect) : covers a a = true := covers_iff.2 fun _ _ => ⟨Int.le_refl _, Int.le_refl _⟩
theorem l_FnWidens (c : List Int) (hb : ∀ b ∈ c, 0 ≤ b ∧ b < 256) : Sat Try.prog 12 [aY c] true (rB true) := by
  refine sat_walk (fn := Try.f12) rfl rfl rfl (Nat.le_of_ble_eq_true rfl) fun fr hP hN hbnd => ?_
  have hE : (envOf fr Try.prog).Ok := envOf_ok hP
  have hM := follows_of hP
  have hS : ∀ {draw ops}, statB Try.f12.ntmps draw ops = true → statB (envOf fr Try.prog).fr.N draw ops = true := fun h => by rw [envOf_fr, hN]; exact h
  by_cases hbig : 1048576 < c.length
  · have hz : decide (1048576 < c.length) = true := by simpa using hbig
    have k0 := s_lwBig c
    rw [hz] at k0
    repeat' (first
      | exact True.intro
      | refine ev_seq ?_
      | ((first | refine vgd_go ?_ | refine ev_region hE hM (hS (by decide +kernel)) ?_ | refine ev_if ?_ | refine end_ret hE rfl rfl ?_ | refine end_norm hE rfl rfl ?_ | refine endG_ret [] hE rfl ?_ | refine endG_norm [] hE rfl ?_ | refine vcallB_of hP k0 ?_ | refine vcall_A ?_); simp (maxSteps := 2000000) only [go_sem, hP, ↓reduceIte, Nat.reduceAdd, Nat.reduceMul, Nat.reduceEqDiff, Nat.reduceSub, Nat.reduceLeDiff, reduceCtorEq])
      | refine ev_skip ?_ | refine ev_block ?_ | refine ev_blk ?_ | refine ev_ret ?_ | refine ev_exit ?_ | refine evx_code_ret ?_ | refine evx_blk_ret ?_ | refine evx_lp_ret ?_
      | refine evx_code_exit ?_ | refine evx_lp_exit ?_ | refine evx_blk_hit ?_ | refine evx_blk_pass (by decide) ?_
      | refine And.intro ?_ ?_ | intro _ | decide +kernel | omega)
  have hz : decide (1048576 < c.length) = false := by simpa using hbig
  have k0 := s_lwBig c
  rw [hz] at k0
  have hc : codeOk c := ⟨by omega, hb⟩
  have k1 := s_DrawWidenEntry c hc
  generalize efN c = n at k1
  generalize efD c = d at k1
  generalize efR c = r at k1
  generalize wiR c = b at k1
  have k3 := s_implWidenEntry n d r b
  have k4 := s_specWidenEntry n d r b
  have k5 := s_implBoxOf n d
  have k6 := s_specBoxOf n d
  have m0 : (0 != (0 : Int)) = false := rfl
  have m1 : (0 == (0 : Int)) = true := rfl
  have bn : ∀ x : Int, (x != x) = false := fun x => by simp
  by_cases hW : wdC n d r b = 0
  · obtain ⟨w1, w2, w3⟩ := wdC_zero hW
    obtain ⟨i, i1, i2, i3⟩ := findRef_get w3
    have hv : wdV n d r b = ⟨n.level, n.nsn, n.right, n.entries.set i (wider (n.entries.getD i default) b)⟩ := by unfold wdV; rw [if_pos hW, i1]; rfl
    have hn := nf_wider w1 w2 i2
    have hlen : n.entries.length ≤ 5 := (nf_inB w1).2
    have hdup := nf_dup w1
    rw [hW, hv] at k3 k4
    have hbx : bxC n d = 0 := by unfold bxC; rw [if_neg (by rw [w1]; simp), if_neg (by omega)]
    have hbv : bxV n d = bx n.entries := by unfold bxV; rw [if_pos hbx]
    rw [hbx, hbv] at k5 k6
    generalize hE2 : n.entries.set i (wider (n.entries.getD i default) b) = es at *
    have hel : es.length = n.entries.length := by rw [← hE2]; simp
    have hself : es.getD i default = wider (n.entries.getD i default) b := by rw [← hE2]; exact getD_set_self i2
    have hoth : ∀ j, i ≠ j → es.getD j default = n.entries.getD j default := fun j h => by rw [← hE2]; exact getD_set_ne h
    have hrf := nf_rf w1
    have hrf2 : ∀ x ∈ es, rf x.rect d = 0 := nf_rf hn
    have htwo := two_of (hrf _ (getD_mem (d := default) i2)) w2
    obtain ⟨u1, u2⟩ := two_un_left htwo
    obtain ⟨u3, u4⟩ := two_un_right htwo
    have hbx2 : bxC (⟨n.level, n.nsn, n.right, es⟩ : Node) d = 0 := by unfold bxC; rw [if_neg (by rw [hn]; simp), if_neg (by simp only; omega)]
    have hbv2 : bxV (⟨n.level, n.nsn, n.right, es⟩ : Node) d = bx es := by unfold bxV; rw [if_pos hbx2]
    have kc := s_implBoxOf ⟨n.level, n.nsn, n.right, es⟩ d
    rw [hbx2, hbv2] at kc
    have g1 := bx_rf hrf (by omega)
    have g2 := bx_rf hrf2 (by omega)
    have l1 := rf_len g1
    have l2 := rf_len g2
    have cov : ∀ j, j < n.entries.length → covers (es.getD j default).rect (n.entries.getD j default).rect = true := fun j hj => by
      by_cases hij : i = j
      · subst hij; rw [hself]; exact u2
      · rw [hoth j hij]; exact covers_self _
    have cbx : covers (bx es) (bx n.entries) = true := bx_least hrf (by have := l2.1; omega) (by omega) fun j hj => by
      have e1 := rf_len (hrf2 _ (getD_mem (d := default) (show j < es.length by omega)))
      exact covers_trans (by have := e1.1; have := l2.1; omega) (bx_covers hrf2 (by omega)) (cov j hj)
    have cbr : covers (bx es) b = true := by
      have e1 := rf_len (hrf2 _ (getD_mem (d := default) (show i < es.length by omega)))
      refine covers_trans (by have := e1.1; have := l2.1; omega) (bx_covers hrf2 (show i < es.length by omega)) ?_
      rw [hself]; exact u4
    have kd := s_implCovers (bx es) (bx n.entries)
    rw [two_of g2 g1, cbx] at kd
    have ke := s_implCovers (bx es) b
    rw [two_of g2 w2, cbr] at ke
    simp only [beq_self_eq_true, Bool.and_self] at kd ke
    have hq1 : ∀ j, j < n.entries.length → decide ((n.entries.getD j default).ref = r) = decide (i = j) := fun j hj => by
      by_cases hij : i = j
      · subst hij; rw [decide_eq_true i3, decide_eq_true rfl]
      · have : (n.entries.getD j default).ref ≠ r := by
          rw [← i3]
          rcases Nat.lt_or_gt_of_ne hij with h | h
          · exact (noDup_iff.1 hdup i j h hj).symm
          · exact noDup_iff.1 hdup j i h i2
        rw [decide_eq_false this, decide_eq_false hij]
    have hq2 : ∀ j, j < n.entries.length → (es.getD j default).ref = (n.entries.getD j default).ref := fun j hj => by
      by_cases hij : i = j
      · subst hij; rw [hself]; rfl
      · rw [hoth j hij]
    generalize bx es = b2 at *
    generalize bx n.entries = b1 at *
    repeat' (first
      | exact True.intro
      | refine ev_seq ?_
      | ((first | refine ev_stop 12 ?_ | refine vgd_go ?_ | refine ev_region hE hM (hS (by decide +kernel)) ?_ | refine ev_if ?_ | refine end_ret hE rfl rfl ?_ | refine end_norm hE rfl rfl ?_ | refine endG_ret [] hE rfl ?_ | refine endG_norm [] hE rfl ?_ | refine vcallB_of hP k0 ?_ | refine vcallB_of hP k1 ?_ | refine vcallB_of hP k3 ?_ | refine vcallB_of hP k4 ?_ | refine vcallB_of hP k5 ?_ | refine vcallB_of hP k6 ?_ | refine vcallB_of hP kc ?_ | refine vcallB_of hP kd ?_ | refine vcallB_of hP ke ?_ | refine vcall_A ?_); simp (maxSteps := 2000000) only [go_sem, hP, ↓reduceIte, Nat.reduceAdd, Nat.reduceMul, Nat.reduceEqDiff, Nat.reduceSub, Nat.reduceLeDiff, reduceCtorEq, m0, m1, bn, hel, List.length_map, Es.strip, Cs.strip, C.strip, strip_oEntry])
      | refine ev_skip ?_ | refine ev_block ?_ | refine ev_blk ?_ | refine ev_ret ?_ | refine ev_exit ?_ | refine evx_code_ret ?_ | refine evx_blk_ret ?_ | refine evx_lp_ret ?_
      | refine evx_code_exit ?_ | refine evx_lp_exit ?_ | refine evx_blk_hit ?_ | refine evx_blk_pass (by decide) ?_
      | refine And.intro ?_ ?_ | intro _ | decide +kernel | omega)
    all_goals first | (exfalso; simp_all; done) | skip
    first | refine Stop.mk ?_ | skip
    refine ev_cut [(3, .ptr 12344 0), (4, iT d), (5, iT r), (6, .ptr 12352 0), (7, .ptr 16424 0), (8, .ptr 20504 0)] [(12344, .box [iT n.level, iT n.nsn, iT n.right, .c (sEntryS n.entries)]), (12352, .box [.c (sI b.low), .c (sI b.high)]), (16424, .box [iT 0, iT n.level, iT n.nsn, iT n.right, .ref 4210720]), (4210720, .fro 4 (es.map eEntry)), (20504, .box [iT 0, .ref 1069072, .ref 2117648]), (1069072, .fro 1 (b1.low.map eI)), (2117648, .fro 1 (b1.high.map eI))] [] [] (by simp only [go_sem, hP, ↓reduceIte, Nat.reduceAdd, Nat.reduceMul, Nat.reduceEqDiff, Nat.reduceSub, Nat.reduceLeDiff, reduceCtorEq, List.cons_append, List.nil_append]) ?_
    repeat' (first
      | exact True.intro
      | refine ev_seq ?_
      | ((first | refine vgd_go ?_ | refine ev_region hE hM (hS (by decide +kernel)) ?_ | refine ev_if ?_ | refine end_ret hE rfl rfl ?_ | refine end_norm hE rfl rfl ?_ | refine endG_ret [] hE rfl ?_ | refine endG_norm [] hE rfl ?_ | refine vcall_A ?_); simp (maxSteps := 2000000) only [go_sem, hP, ↓reduceIte, Nat.reduceAdd, Nat.reduceMul, Nat.reduceEqDiff, Nat.reduceSub, Nat.reduceLeDiff, reduceCtorEq])
      | refine ev_skip ?_ | refine ev_block ?_ | refine ev_blk ?_ | refine ev_ret ?_ | refine ev_exit ?_ | refine evx_code_ret ?_ | refine evx_blk_ret ?_ | refine evx_lp_ret ?_
      | refine evx_code_exit ?_ | refine evx_lp_exit ?_ | refine evx_blk_hit ?_ | refine evx_blk_pass (by decide) ?_
      | refine And.intro ?_ ?_ | intro _ | decide +kernel | omega)
    refine ev_loop (ι := Nat) (fun k => [(3, .ptr 12344 0), (4, iT d), (5, iT r), (6, .ptr 12352 0), (7, .ptr 16424 0), (8, .ptr 20504 0), (9, iT k)]) (fun _ => [(12344, .box [iT n.level, iT n.nsn, iT n.right, .c (sEntryS n.entries)]), (12352, .box [.c (sI b.low), .c (sI b.high)]), (16424, .box [iT 0, iT n.level, iT n.nsn, iT n.right, .ref 4210720]), (4210720, .fro 4 (es.map eEntry)), (20504, .box [iT 0, .ref 1069072, .ref 2117648]), (1069072, .fro 1 (b1.low.map eI)), (2117648, .fro 1 (b1.high.map eI))]) (fun _ => []) (fun k => k ≤ n.entries.length) (fun k => n.entries.length - k) 0 [] (by omega) (by simp only [go_sem, hP, ↓reduceIte, Nat.reduceAdd, Nat.reduceMul, Nat.reduceEqDiff, Nat.reduceSub, Nat.reduceLeDiff, reduceCtorEq]; simp) ?_
    intro k hk
    by_cases hlt : k < n.entries.length
    · have hw1 : IntKind.i64.wrap ((k : Int) + 1) = k + 1 := i64_in _ (by omega)
      have d3 : decide ((k : Int) < (n.entries.length : Int)) = true := by simp only [decide_eq_true_eq]; omega
      have d4 := hq1 k hlt
      have d5 := hq2 k hlt
      by_cases hik : i = k
      · subst hik
        have kx := s_implCovers (es.getD i default).rect b
        have ky := s_implCovers (es.getD i default).rect (n.entries.getD i default).rect
        rw [hself] at kx ky
        rw [show (wider (n.entries.getD i default) b).rect = un (n.entries.getD i default).rect b from rfl, u1, u2] at ky
        rw [show (wider (n.entries.getD i default) b).rect = un (n.entries.getD i default).rect b from rfl, u3, u4] at kx
        simp only [beq_self_eq_true, Bool.and_self] at kx ky
        have hlt2 : i < es.length := by omega
        repeat' (first
          | exact True.intro
          | refine ev_seq ?_
          | ((first | refine vgd_go ?_ | refine ev_region hE hM (hS (by decide +kernel)) ?_ | refine ev_if ?_ | refine end_ret hE rfl rfl ?_ | refine end_norm hE rfl rfl ?_ | refine endG_ret [] hE rfl ?_ | refine endG_norm [] hE rfl ?_ | refine vcallB_of hP kx ?_ | refine vcallB_of hP ky ?_ | refine vcall_A ?_); simp (maxSteps := 2000000) only [go_sem, hP, ↓reduceIte, Nat.reduceAdd, Nat.reduceMul, Nat.reduceEqDiff, Nat.reduceSub, Nat.reduceLeDiff, reduceCtorEq, d3, d4, d5, i3, hself, wider, List.length_map])
          | refine ev_skip ?_ | refine ev_block ?_ | refine ev_blk ?_ | refine ev_ret ?_ | refine ev_exit ?_ | refine evx_code_ret ?_ | refine evx_blk_ret ?_ | refine evx_lp_ret ?_
          | refine evx_code_exit ?_ | refine evx_lp_exit ?_ | refine evx_blk_hit ?_ | refine evx_blk_pass (by decide) ?_
          | refine And.intro ?_ ?_ | intro _ | decide +kernel | omega)
        all_goals first
          | exact ev_lp (i + 1) [] (by omega) (by omega) (by simp only [go_sem, hP, ↓reduceIte, Nat.reduceAdd, Nat.reduceMul, Nat.reduceEqDiff, Nat.reduceSub, Nat.reduceLeDiff, reduceCtorEq]; simp [hw1])
          | (exfalso; omega)
          | omega
          | (simp_all; done)
          | trace_state
      · have kx := s_implSameRects (n.entries.getD k default).rect (n.entries.getD k default).rect
        have hne : (n.entries.getD k default).ref ≠ r := by simpa [hik] using d4
        have d6 : ((n.entries.getD k default).ref != r) = true := by simpa using hne
        have d7 : ((n.entries.getD k default).ref == r) = false := by simpa using hne
        have hlt2 : k < es.length := by omega
        have hot := hoth k hik
        repeat' (first
          | exact True.intro
          | refine ev_seq ?_
          | ((first | refine vgd_go ?_ | refine ev_region hE hM (hS (by decide +kernel)) ?_ | refine ev_if ?_ | refine end_ret hE rfl rfl ?_ | refine end_norm hE rfl rfl ?_ | refine endG_ret [] hE rfl ?_ | refine endG_norm [] hE rfl ?_ | refine vcallB_of hP kx ?_ | refine vcall_A ?_); simp (maxSteps := 2000000) only [go_sem, hP, ↓reduceIte, Nat.reduceAdd, Nat.reduceMul, Nat.reduceEqDiff, Nat.reduceSub, Nat.reduceLeDiff, reduceCtorEq, d3, d5, d6, d7, hot, decide_true, List.length_map])
          | refine ev_skip ?_ | refine ev_block ?_ | refine ev_blk ?_ | refine ev_ret ?_ | refine ev_exit ?_ | refine evx_code_ret ?_ | refine evx_blk_ret ?_ | refine evx_lp_ret ?_
          | refine evx_code_exit ?_ | refine evx_lp_exit ?_ | refine evx_blk_hit ?_ | refine evx_blk_pass (by decide) ?_
          | refine And.intro ?_ ?_ | intro _ | decide +kernel | omega)
        all_goals first
          | exact ev_lp (k + 1) [] (by omega) (by omega) (by simp only [go_sem, hP, ↓reduceIte, Nat.reduceAdd, Nat.reduceMul, Nat.reduceEqDiff, Nat.reduceSub, Nat.reduceLeDiff, reduceCtorEq]; simp [hw1])
          | (exfalso; omega)
          | omega
          | (simp_all; done)
          | trace_state
    · have hke : k = n.entries.length := by omega
      subst hke
      have d3 : decide ((n.entries.length : Int) < (n.entries.length : Int)) = false := by simp
      repeat' (first
        | exact True.intro
        | refine ev_seq ?_
        | ((first | refine vgd_go ?_ | refine ev_region hE hM (hS (by decide +kernel)) ?_ | refine ev_if ?_ | refine end_ret hE rfl rfl ?_ | refine end_norm hE rfl rfl ?_ | refine endG_ret [] hE rfl ?_ | refine endG_norm [] hE rfl ?_ | refine vcallB_of hP kc ?_ | refine vcallB_of hP kd ?_ | refine vcallB_of hP ke ?_ | refine vcall_A ?_); simp (maxSteps := 2000000) only [go_sem, hP, ↓reduceIte, Nat.reduceAdd, Nat.reduceMul, Nat.reduceEqDiff, Nat.reduceSub, Nat.reduceLeDiff, reduceCtorEq, d3, List.length_map])
        | refine ev_skip ?_ | refine ev_block ?_ | refine ev_blk ?_ | refine ev_ret ?_ | refine ev_exit ?_ | refine evx_code_ret ?_ | refine evx_blk_ret ?_ | refine evx_lp_ret ?_
        | refine evx_code_exit ?_ | refine evx_lp_exit ?_ | refine evx_blk_hit ?_ | refine evx_blk_pass (by decide) ?_
        | refine And.intro ?_ ?_ | intro _ | decide +kernel | omega)
      all_goals first
        | rfl
        | (exfalso; omega)
        | (simp_all; done)
        | trace_state
  · have hW' : (wdC n d r b != 0) = true := by simpa using hW
    generalize wdV n d r b = w at *
    generalize wdC n d r b = t at *
    generalize bxC n d = u at *
    generalize bxV n d = z at *
    repeat' (first
      | exact True.intro
      | refine ev_seq ?_
      | ((first | refine vgd_go ?_ | refine ev_region hE hM (hS (by decide +kernel)) ?_ | refine ev_if ?_ | refine end_ret hE rfl rfl ?_ | refine end_norm hE rfl rfl ?_ | refine endG_ret [] hE rfl ?_ | refine endG_norm [] hE rfl ?_ | refine vcallB_of hP k0 ?_ | refine vcallB_of hP k1 ?_ | refine vcallB_of hP k3 ?_ | refine vcallB_of hP k4 ?_ | refine vcallB_of hP k5 ?_ | refine vcallB_of hP k6 ?_ | refine vcall_A ?_); simp (maxSteps := 2000000) only [go_sem, hP, ↓reduceIte, Nat.reduceAdd, Nat.reduceMul, Nat.reduceEqDiff, Nat.reduceSub, Nat.reduceLeDiff, reduceCtorEq, m0, m1, bn, hW', List.length_map])
      | refine ev_skip ?_ | refine ev_block ?_ | refine ev_blk ?_ | refine ev_ret ?_ | refine ev_exit ?_ | refine evx_code_ret ?_ | refine evx_blk_ret ?_ | refine evx_lp_ret ?_
      | refine evx_code_exit ?_ | refine evx_lp_exit ?_ | refine evx_blk_hit ?_ | refine evx_blk_pass (by decide) ?_
      | refine And.intro ?_ ?_ | intro _ | decide +kernel | omega)
    all_goals first | (simp_all; done) | trace_state
theorem all_FnWidens (gs : List Arg) (h : shpA Try.prog 12 [65] gs) : Sat Try.prog 12 gs true (rB true) := by
  obtain ⟨x0, gs, rfl, h0, rfl⟩ := h
  obtain ⟨c, rfl, hb⟩ := shp_Y (n := 10) rfl h0
  exact l_FnWidens c hb
end Go.Proofs.Ytmpndkhnajogkaa.W
