/- Contracts of functions that the statements of this seat reach: what each returns; it writes to nothing of old. No condition but those that each theorem states. -/
import Derived.Test.YtcephdpooijciaaGreatPc
open Go Go.Vm Go.Proofs Go.IntWalk Go.RowKit
set_option maxRecDepth 100000
set_option maxHeartbeats 4000000
set_option linter.unusedSimpArgs false
set_option linter.unusedVariables false
set_option linter.unusedSectionVars false
namespace Go.Proofs.YtcephdpooijciaaGreat.W
attribute [local irreducible] kJ ev evx vops vstep vgo vgd vget vcall vcallFn vcallA vcallB vts vres vcond vbin
def weC (n : Node) (d : Int) (e : Entry) : Int := if nf n d ≠ 0 then nf n d else if entryF d e ≠ 0 then entryF d e else if fits n.level e = false then 1 else if 0 ≤ findRef n.entries e.ref then 6 else if (4 : Int) < n.entries.length then 7 else 0
def weV (n : Node) (d : Int) (e : Entry) : Node := if weC n d e = 0 then ⟨n.level, n.nsn, n.right, n.entries ++ [e]⟩ else ⟨0, 0, 0, []⟩
def wdC (n : Node) (d r : Int) (b : Rect) : Int := if nf n d ≠ 0 then nf n d else if rf b d ≠ 0 then rf b d else if findRef n.entries r < 0 then 4 else 0
def wider (e : Entry) (b : Rect) : Entry := ⟨un e.rect b, e.ref, e.nsn⟩
def wdV (n : Node) (d r : Int) (b : Rect) : Node := if wdC n d r b = 0 then ⟨n.level, n.nsn, n.right, n.entries.set (findRef n.entries r).toNat (wider (n.entries.getD (findRef n.entries r).toNat default) b)⟩ else ⟨0, 0, 0, []⟩
theorem nf_inB {n : Node} {d : Int} (h : nf n d = 0) : inB d 2 3 = true ∧ n.entries.length ≤ 5 := by
  unfold nf at h
  (repeat' split at h) <;> simp_all <;> omega
theorem nf_small {n : Node} {d : Int} (h : nf n d = 0) : d.toNat ≤ 1048576 := by
  have := (nf_inB h).1
  simp [inB] at this; omega
theorem esf_small {xs : List Entry} {d : Int} (h : esf xs d = 0) : d.toNat ≤ 1048576 := by
  unfold esf at h
  (repeat' split at h) <;> simp_all [inB] <;> omega
theorem even_w {xs : List Entry} {d : Int} (h : ∀ x ∈ xs, rf x.rect d = 0) : wEntryS xs ≤ 7 * xs.length := by
  unfold wEntryS
  have : ∀ ys : List Entry, (∀ x ∈ ys, rf x.rect d = 0) → sumW wEntry ys ≤ 6 * ys.length := by
    intro ys
    induction ys with
    | nil => intro _; exact Nat.zero_le _
    | cons y ys ih =>
      intro hy
      have e2 : sumW wEntry (y :: ys) = wEntry y + sumW wEntry ys := rfl
      have h1 := hy y (by simp)
      have h2 := rf_len h1
      have h3 := rf_two h1
      have h4 := ih fun x hx => hy x (by simp [hx])
      have e3 : wEntry y = y.rect.low.length + y.rect.high.length := rfl
      rw [e2, List.length_cons, e3]; omega
  have := this xs h
  omega
theorem nf_w {n : Node} {d : Int} (h : nf n d = 0) : wEntryS n.entries ≤ 35 := by
  have h1 := even_w (nf_rf h)
  have h2 := (nf_inB h).2
  omega
theorem findRef_get {xs : List Entry} {r : Int} (h : 0 ≤ findRef xs r) : ∃ i : Nat, findRef xs r = i ∧ i < xs.length ∧ (xs.getD i default).ref = r := by
  unfold findRef at h ⊢
  split at h
  · rename_i ha
    rw [if_pos ha]
    have hi : xs.findIdx (fun e => decide (e.ref = r)) < xs.length := by
      rw [List.findIdx_lt_length]; simpa using ha
    refine ⟨_, rfl, hi, ?_⟩
    rw [getD_lt hi]
    have := List.findIdx_getElem (w := hi)
    simpa using this
  · omega
def pfC (a : Arena) (id : Int) : Int := if isPlace a id = false then 3 else if a.free.any (fun x => decide (x = id)) then 4 else 0
def rdC (a : Arena) (id : Int) : Int := if af a ≠ 0 then af a else pfC a id
def rdV (a : Arena) (id : Int) : Node := if rdC a id = 0 then a.nodes.getD id.toNat default else ⟨0, 0, 0, []⟩
def tnC (a : Arena) (n : Node) : Int := if af a ≠ 0 then af a else if nf n a.dims ≠ 0 then nf n a.dims else if (a.free.length : Int) = 0 then 7 else 0
def tnV (a : Arena) (n : Node) : Arena := if tnC a n = 0 then ⟨a.dims, a.nodes.set (a.free.getD 0 default).toNat n, a.free.drop 1, a.retired⟩ else ⟨0, [], [], []⟩
def tnI (a : Arena) (n : Node) : Int := if tnC a n = 0 then a.free.getD 0 default else 0
def wnC (a : Arena) (id : Int) (n : Node) : Int := if af a ≠ 0 then af a else if nf n a.dims ≠ 0 then nf n a.dims else pfC a id
def wnV (a : Arena) (id : Int) (n : Node) : Arena := if wnC a id n = 0 then ⟨a.dims, a.nodes.set id.toNat n, a.free, a.retired⟩ else ⟨0, [], [], []⟩
theorem pfC_zero {a : Arena} {id : Int} (h : pfC a id = 0) : 0 ≤ id ∧ id < a.nodes.length := by
  unfold pfC at h; split at h
  · omega
  · rename_i h1; simp [isPlace, inB] at h1; omega
theorem af_inv {a : Arena} (h : af a = 0) : a.nodes.length ≤ 40 ∧ freeF a = 0 ∧ (∀ x ∈ a.nodes, nf x a.dims = 0) ∧ firstF (retF a) a.retired = 0 := by
  unfold af at h
  (repeat' split at h) <;> try omega
  rename_i h1 h2 h3 h4 h5 h6
  exact ⟨by omega, by omega, firstF_zero (f := (nf · a.dims)) (by omega), by omega⟩
theorem af_free0 {a : Arena} (h : af a = 0) (h0 : 0 < a.free.length) : 0 ≤ a.free.getD 0 default ∧ a.free.getD 0 default < a.nodes.length := by
  have h1 := (af_inv h).2.1
  unfold freeF at h1
  split at h1
  · omega
  · rename_i h2
    have h3 := allLt_iff.mp (by simpa [places] using h2) 0 h0
    simp [isPlace, inB] at h3; simp; omega
theorem nodes_w {a : Arena} {i : Nat} (hw : wArena a ≤ 1048576) (h : i < a.nodes.length) : wEntryS (a.nodes.getD i default).entries ≤ 1048576 := by
  have := sumW_get (w := wNode) (d := default) h
  have e : wNode (a.nodes.getD i default) = wEntryS (a.nodes.getD i default).entries := rfl
  unfold wArena wNodeS at hw; omega
/-- A node, if there is no code. -/
def valN (c : Int) (n : Node) : Node := if c = 0 then n else ⟨0, 0, 0, []⟩
@[go_sem] abbrev aNR (c : Int) (n : Node) : Arg := .d (true, [.int .i64 c, .int .i64 n.level, .int .i64 n.nsn, .int .i64 n.right, sEntryS n.entries])
@[go_sem] abbrev rNR (c : Int) (n : Node) : List Dat := [(true, [.int .i64 c, .int .i64 n.level, .int .i64 n.nsn, .int .i64 n.right, oEntryS n.entries])]
@[go_sem] abbrev tNR (c : Int) (n : Node) (a : Nat) : T := .agg [iT c, iT n.level, iT n.nsn, iT n.right, .ref a]
@[go_sem] abbrev tN (n : Node) (a : Nat) : T := .agg [iT n.level, iT n.nsn, iT n.right, .ref a]
def markedN (k : Int) (n : Node) : Node := ⟨n.level, n.nsn, n.right, markedEs k n.entries⟩
theorem mwE_le {xs : List Entry} : sumW mwEntry xs ≤ 2 * wEntryS xs := by
  have : ∀ ys : List Entry, sumW mwEntry ys = sumW wEntry ys + 2 * ys.length := by
    intro ys
    induction ys with
    | nil => rfl
    | cons y ys ih =>
      have e1 : sumW mwEntry (y :: ys) = mwEntry y + sumW mwEntry ys := rfl
      have e2 : sumW wEntry (y :: ys) = wEntry y + sumW wEntry ys := rfl
      rw [e1, e2, ih, List.length_cons]; simp only [mwEntry, wEntry]; omega
  rw [this]; unfold wEntryS; omega
theorem mwN_le {xs : List Node} : sumW mwNode xs ≤ 3 * wNodeS xs := by
  have : ∀ ys : List Node, sumW mwNode ys ≤ 2 * sumW wNode ys + 3 * ys.length := by
    intro ys
    induction ys with
    | nil => exact Nat.zero_le _
    | cons y ys ih =>
      have e1 : sumW mwNode (y :: ys) = mwNode y + sumW mwNode ys := rfl
      have e2 : sumW wNode (y :: ys) = wNode y + sumW wNode ys := rfl
      have e3 := mwE_le (xs := y.entries)
      rw [e1, e2, List.length_cons]; simp only [mwNode, wNode]; omega
  have := this xs
  unfold wNodeS; omega
theorem mwRet_le {xs : List Retired} : sumW mwRetired xs ≤ wRetiredS xs := by
  have : ∀ ys : List Retired, sumW mwRetired ys = sumW wRetired ys + ys.length := by
    intro ys
    induction ys with
    | nil => rfl
    | cons y ys ih =>
      have e1 : sumW mwRetired (y :: ys) = mwRetired y + sumW mwRetired ys := rfl
      have e2 : sumW wRetired (y :: ys) = wRetired y + sumW wRetired ys := rfl
      rw [e1, e2, ih, List.length_cons]; simp only [mwRetired, wRetired]; omega
  rw [this]; unfold wRetiredS; omega
theorem mwA_le {a : Arena} : mwA a ≤ 3 * wArena a := by
  have h1 := mwN_le (xs := a.nodes)
  have h2 := mwRet_le (xs := a.retired)
  unfold mwA wArena; omega
theorem s_markNode (n : Node) (k : Int) (h0 : 0 ≤ k) (h1 : k + sumW mwEntry n.entries ≤ mMax) : SatG Tryz.prog 21 true [tN n 1, iT k] [gEs 1 n.entries] (iT (k + sumW mwEntry n.entries)) [gEs 1 (markedEs k n.entries)] := by
  refine satG_walk (fn := Tryz.f21) rfl rfl rfl (Nat.le_of_ble_eq_true rfl) (by simp) fun fr hP hN hdp hb1 hb2 => ?_
  have hE : (envOf fr Tryz.prog).Ok := envOf_ok hP
  have hM := follows_of hP
  have hS : ∀ {draw ops}, statB Tryz.f21.ntmps draw ops = true → statB (envOf fr Tryz.prog).fr.N draw ops = true := fun h => by rw [envOf_fr, hN]; exact h
  have hY : ∀ b, (envOf fr Tryz.prog).fr.Y b → (envOf fr Tryz.prog).fr.X b := fun b hb => hdp rfl b hb
  have c1 := s_markEntryS n.entries k h0 h1
  repeat' (first
    | exact True.intro
    | refine ev_seq ?_
    | ((first | refine ev_stop 1 ?_ | refine vgd_go ?_ | refine ev_region hE hM (hS (by decide +kernel)) ?_ | refine ev_if ?_ | refine end_ret hE rfl rfl ?_ | refine end_norm hE rfl rfl ?_ | refine endG_ret [] hE rfl ?_ | refine endG_norm [] hE rfl ?_ | refine vcall_A ?_); simp (maxSteps := 2000000) only [go_sem, hP, ↓reduceIte, Nat.reduceAdd, Nat.reduceMul, Nat.reduceEqDiff, Nat.reduceSub, Nat.reduceLeDiff, reduceCtorEq])
    | refine ev_skip ?_ | refine ev_block ?_ | refine ev_blk ?_ | refine ev_ret ?_ | refine ev_exit ?_ | refine evx_code_ret ?_ | refine evx_blk_ret ?_ | refine evx_lp_ret ?_
    | refine evx_code_exit ?_ | refine evx_lp_exit ?_ | refine evx_blk_hit ?_ | refine evx_blk_pass (by decide) ?_
    | refine And.intro ?_ ?_ | intro _ | decide +kernel | omega)
  first | refine Stop.mk ?_ | skip
  refine ev_cut [(1, iT k), (2, .ptr 0 0)] [(0, .box [iT n.level, iT n.nsn, iT n.right, .ref 1]), gEs 1 n.entries] [(0, .ref 1)] [] (by simp only [go_sem, hP, ↓reduceIte, Nat.reduceAdd, Nat.reduceMul, Nat.reduceEqDiff, Nat.reduceSub, Nat.reduceLeDiff, reduceCtorEq]) ?_
  repeat' (first
    | exact True.intro
    | refine ev_seq ?_
    | ((first | refine ev_regionC (id := 1) (pre := [_, _, _]) hE rfl (hS (by decide +kernel)) ?_ | refine vgd_go ?_ | refine ev_region hE hM (hS (by decide +kernel)) ?_ | refine ev_if ?_ | refine end_ret hE rfl rfl ?_ | refine end_norm hE rfl rfl ?_ | refine endG_ret [] hE rfl ?_ | refine endG_norm [] hE rfl ?_ | refine vcall_A ?_); simp (maxSteps := 2000000) only [go_sem, hP, ↓reduceIte, Nat.reduceAdd, Nat.reduceMul, Nat.reduceEqDiff, Nat.reduceSub, Nat.reduceLeDiff, reduceCtorEq])
    | refine ev_skip ?_ | refine ev_block ?_ | refine ev_blk ?_ | refine ev_ret ?_ | refine ev_exit ?_ | refine evx_code_ret ?_ | refine evx_blk_ret ?_ | refine evx_lp_ret ?_
    | refine evx_code_exit ?_ | refine evx_lp_exit ?_ | refine evx_blk_hit ?_ | refine evx_blk_pass (by decide) ?_
    | refine And.intro ?_ ?_ | intro _ | decide +kernel | omega)
  refine callM_of [(1, 1)] [] [(2, .ptr 0 0), (6, .ref 1), (7, iT k)] [(0, .box [iT n.level, iT n.nsn, iT n.right, .ref 1]), gEs 1 n.entries] [(0, .ref 1)] hP c1 hY rfl rfl (by rw [envOf_fr, hN]; decide) (by simp only [go_sem, hP, ↓reduceIte, Nat.reduceAdd, Nat.reduceMul, Nat.reduceEqDiff, Nat.reduceSub, Nat.reduceLeDiff, reduceCtorEq]) rfl rfl (by simp only [go_sem, hP, ↓reduceIte, Nat.reduceAdd, Nat.reduceMul, Nat.reduceEqDiff, Nat.reduceSub, Nat.reduceLeDiff, reduceCtorEq] <;> simp) (by simp only [go_sem, hP, ↓reduceIte, Nat.reduceAdd, Nat.reduceMul, Nat.reduceEqDiff, Nat.reduceSub, Nat.reduceLeDiff, reduceCtorEq] <;> simp) ?_
  simp only [go_sem, hP, ↓reduceIte, Nat.reduceAdd, Nat.reduceMul, Nat.reduceEqDiff, Nat.reduceSub, Nat.reduceLeDiff, reduceCtorEq]
  repeat' (first
    | exact True.intro
    | refine ev_seq ?_
    | ((first | refine vgd_go ?_ | refine ev_region hE hM (hS (by decide +kernel)) ?_ | refine ev_if ?_ | refine end_ret hE rfl rfl ?_ | refine end_norm hE rfl rfl ?_ | refine endG_ret [] hE rfl ?_ | refine endG_norm [] hE rfl ?_ | refine vcall_A ?_); simp (maxSteps := 2000000) only [go_sem, hP, ↓reduceIte, Nat.reduceAdd, Nat.reduceMul, Nat.reduceEqDiff, Nat.reduceSub, Nat.reduceLeDiff, reduceCtorEq])
    | refine ev_skip ?_ | refine ev_block ?_ | refine ev_blk ?_ | refine ev_ret ?_ | refine ev_exit ?_ | refine evx_code_ret ?_ | refine evx_blk_ret ?_ | refine evx_lp_ret ?_
    | refine evx_code_exit ?_ | refine evx_lp_exit ?_ | refine evx_blk_hit ?_ | refine evx_blk_pass (by decide) ?_
    | refine And.intro ?_ ?_ | intro _ | decide +kernel | omega)
theorem rf_wE {e : Entry} {d : Int} (h : rf e.rect d = 0) : wEntry e ≤ 6 := by
  have h1 := rf_len h
  have h2 := rf_two h
  have e3 : wEntry e = e.rect.low.length + e.rect.high.length := rfl
  omega
theorem weV_w (n : Node) (d : Int) (e : Entry) : wEntryS (weV n d e).entries ≤ 50 := by
  unfold weV; split
  · rename_i h
    have hn : nf n d = 0 := by unfold weC at h; split at h <;> simp_all
    have he : entryF d e = 0 := by unfold weC at h; (repeat' split at h) <;> simp_all
    have h1 := nf_w hn
    have h2 := rf_wE (ef_rf he)
    have e1 : wEntryS (n.entries ++ [e]) = wEntryS n.entries + 1 + wEntry e := by
      unfold wEntryS sumW; simp; omega
    rw [e1]; omega
  · exact Nat.zero_le _
theorem sumW_set {α : Type} {w : α → Nat} {x : α} : ∀ {xs : List α} {i : Nat}, sumW w (xs.set i x) ≤ sumW w xs + w x
  | [], i => by simp
  | y :: ys, 0 => by simp only [List.set_cons_zero, sumW, List.map_cons, List.sum_cons]; omega
  | y :: ys, i + 1 => by
    have := sumW_set (w := w) (x := x) (xs := ys) (i := i)
    simp only [sumW, List.set_cons_succ, List.map_cons, List.sum_cons] at this ⊢; omega
theorem wdV_w (n : Node) (d r : Int) (b : Rect) : wEntryS (wdV n d r b).entries ≤ 50 := by
  unfold wdV; split
  · rename_i h
    have hn : nf n d = 0 := by unfold wdC at h; split at h <;> simp_all
    have hb : rf b d = 0 := by unfold wdC at h; (repeat' split at h) <;> simp_all
    have hi : 0 ≤ findRef n.entries r := by unfold wdC at h; (repeat' split at h) <;> omega
    obtain ⟨i, h1, h2, h3⟩ := findRef_get hi
    have h4 := nf_w hn
    have h5 := nf_rf hn _ (getD_mem (d := default) h2)
    have h6 := rf_three h5
    have h7 : wEntry (wider (n.entries.getD i default) b) ≤ 6 := by
      have e3 : wEntry (wider (n.entries.getD i default) b) = (un (n.entries.getD i default).rect b).low.length + (un (n.entries.getD i default).rect b).high.length := rfl
      rw [e3, un_size.1, un_size.2]; omega
    have h8 := sumW_set (w := wEntry) (x := wider (n.entries.getD i default) b) (xs := n.entries) (i := i)
    rw [h1, Int.toNat_natCast]
    show (n.entries.set i (wider (n.entries.getD i default) b)).length + sumW wEntry (n.entries.set i (wider (n.entries.getD i default) b)) ≤ 50
    unfold wEntryS at h4
    rw [List.length_set]; omega
  · exact Nat.zero_le _
theorem s_l3Copies (xs : List Node) (hw : wNodeS xs ≤ 1048576) : Sat Tryz.prog 78 [aNodeS xs] true (rNodeS xs) := by
  refine sat_walk (fn := Tryz.f78) rfl rfl rfl (Nat.le_of_ble_eq_true rfl) fun fr hP hN hbnd => ?_
  have hE : (envOf fr Tryz.prog).Ok := envOf_ok hP
  have hM := follows_of hP
  have hS : ∀ {draw ops}, statB Tryz.f78.ntmps draw ops = true → statB (envOf fr Tryz.prog).fr.N draw ops = true := fun h => by rw [envOf_fr, hN]; exact h
  have hlen : xs.length ≤ 1048576 := by unfold wNodeS at hw; omega
  repeat' (first
    | exact True.intro
    | refine ev_seq ?_
    | ((first | refine vgd_go ?_ | refine ev_region hE hM (hS (by decide +kernel)) ?_ | refine ev_if ?_ | refine end_ret hE rfl rfl ?_ | refine end_norm hE rfl rfl ?_ | refine endG_ret [] hE rfl ?_ | refine endG_norm [] hE rfl ?_ | refine vcall_A ?_); simp (maxSteps := 2000000) only [go_sem, hP, ↓reduceIte, Nat.reduceAdd, Nat.reduceMul, Nat.reduceEqDiff, Nat.reduceSub, Nat.reduceLeDiff, reduceCtorEq])
    | refine ev_skip ?_ | refine ev_block ?_ | refine ev_blk ?_ | refine ev_ret ?_ | refine ev_exit ?_ | refine evx_code_ret ?_ | refine evx_blk_ret ?_ | refine evx_lp_ret ?_
    | refine evx_code_exit ?_ | refine evx_lp_exit ?_ | refine evx_blk_hit ?_ | refine evx_blk_pass (by decide) ?_
    | refine And.intro ?_ ?_ | intro _ | decide +kernel | omega)
  refine ev_loop (ι := Nat) (fun k => [(0, .c (sNodeS xs)), (3, .ref 100000), (4, iT k)]) (fun k => [(100000, .arr true 30 4 ((xs.take k).map oNode))]) (fun _ => []) (fun k => k ≤ xs.length) (fun k => xs.length - k) 0 [(100000, some 4096)] (by omega) (by simp only [go_sem, hP, ↓reduceIte, Nat.reduceAdd, Nat.reduceMul, Nat.reduceEqDiff, Nat.reduceSub, Nat.reduceLeDiff, reduceCtorEq]; simp) ?_
  intro k hk
  have hw1 : k < xs.length → IntKind.i64.wrap ((k : Int) + 1) = k + 1 := fun h => i64_in _ (by omega)
  have htl : ((xs.take k).map oNode).length = k := by simp; omega
  by_cases hlt : k < xs.length
  · have hg : wEntryS (xs.getD k default).entries ≤ 1048576 := by
      have := sumW_get (w := wNode) (d := default) hlt
      have e : wNode (xs.getD k default) = wEntryS (xs.getD k default).entries := rfl
      unfold wNodeS at hw; omega
    repeat' (first
      | exact True.intro
      | refine ev_seq ?_
      | ((first | refine vgd_go ?_ | refine ev_region hE hM (hS (by decide +kernel)) ?_ | refine ev_if ?_ | refine end_ret hE rfl rfl ?_ | refine end_norm hE rfl rfl ?_ | refine endG_ret [] hE rfl ?_ | refine endG_norm [] hE rfl ?_ | refine vcallB_of hP (s_l3Copy (xs.getD k default) hg) ?_ | refine vcall_A ?_); simp (maxSteps := 2000000) only [go_sem, hP, ↓reduceIte, Nat.reduceAdd, Nat.reduceMul, Nat.reduceEqDiff, Nat.reduceSub, Nat.reduceLeDiff, reduceCtorEq, htl, Bool.and_self])
      | refine ev_skip ?_ | refine ev_block ?_ | refine ev_blk ?_ | refine ev_ret ?_ | refine ev_exit ?_ | refine evx_code_ret ?_ | refine evx_blk_ret ?_ | refine evx_lp_ret ?_
      | refine evx_code_exit ?_ | refine evx_lp_exit ?_ | refine evx_blk_hit ?_ | refine evx_blk_pass (by decide) ?_
      | refine And.intro ?_ ?_ | intro _ | decide +kernel | omega)
    all_goals first
      | exact ev_lp (k + 1) [(100000, some 20528)] (by omega) (by omega) (by simp only [go_sem, hP, ↓reduceIte, Nat.reduceAdd, Nat.reduceMul, Nat.reduceEqDiff, Nat.reduceSub, Nat.reduceLeDiff, reduceCtorEq]; rw [take_step (d := default) hlt]; simp [hw1 hlt, oNode_eq])
      | (exfalso; omega)
      | (simp_all; done)
  · obtain rfl : k = xs.length := by omega
    repeat' (first
      | exact True.intro
      | refine ev_seq ?_
      | ((first | refine vgd_go ?_ | refine ev_region hE hM (hS (by decide +kernel)) ?_ | refine ev_if ?_ | refine end_ret hE rfl rfl ?_ | refine end_norm hE rfl rfl ?_ | refine endG_ret [] hE rfl ?_ | refine endG_norm [] hE rfl ?_ | refine vcall_A ?_); simp (maxSteps := 2000000) only [go_sem, hP, ↓reduceIte, Nat.reduceAdd, Nat.reduceMul, Nat.reduceEqDiff, Nat.reduceSub, Nat.reduceLeDiff, reduceCtorEq, htl, List.take_length])
      | refine ev_skip ?_ | refine ev_block ?_ | refine ev_blk ?_ | refine ev_ret ?_ | refine ev_exit ?_ | refine evx_code_ret ?_ | refine evx_blk_ret ?_ | refine evx_lp_ret ?_
      | refine evx_code_exit ?_ | refine evx_lp_exit ?_ | refine evx_blk_hit ?_ | refine evx_blk_pass (by decide) ?_
      | refine And.intro ?_ ?_ | intro _ | decide +kernel | omega)
    all_goals first
      | (exfalso; omega)
      | (simp_all; done)
theorem ret_w {a : Arena} (hw : wArena a ≤ 1048576) {k : Nat} (h : k < a.retired.length) : (a.retired.getD k default).watch.length ≤ 1048576 := by
  have := sumW_get (w := wRetired) (d := default) h
  have e : wRetired (a.retired.getD k default) = (a.retired.getD k default).watch.length := rfl
  unfold wArena wRetiredS at hw; omega
theorem s_l4Copy (a : Arena) (hw : wArena a ≤ 1048576) : Sat Tryz.prog 47 [pArena a] true (rArena a) := by
  refine sat_walk (fn := Tryz.f47) rfl rfl rfl (Nat.le_of_ble_eq_true rfl) fun fr hP hN hbnd => ?_
  have hE : (envOf fr Tryz.prog).Ok := envOf_ok hP
  have hM := follows_of hP
  have hS : ∀ {draw ops}, statB Tryz.f47.ntmps draw ops = true → statB (envOf fr Tryz.prog).fr.N draw ops = true := fun h => by rw [envOf_fr, hN]; exact h
  have hlen : a.retired.length ≤ 1048576 := by unfold wArena wRetiredS at hw; omega
  repeat' (first
    | exact True.intro
    | refine ev_seq ?_
    | ((first | refine vgd_go ?_ | refine ev_region hE hM (hS (by decide +kernel)) ?_ | refine ev_if ?_ | refine end_ret hE rfl rfl ?_ | refine end_norm hE rfl rfl ?_ | refine endG_ret [] hE rfl ?_ | refine endG_norm [] hE rfl ?_ | refine vcallB_of hP (s_l3Copies a.nodes (by unfold wArena at hw; omega)) ?_ | refine vcallB_of hP (s_l1Ints a.free (by unfold wArena at hw; omega)) ?_ | refine vcall_A ?_); simp (maxSteps := 2000000) only [go_sem, hP, ↓reduceIte, Nat.reduceAdd, Nat.reduceMul, Nat.reduceEqDiff, Nat.reduceSub, Nat.reduceLeDiff, reduceCtorEq])
    | refine ev_skip ?_ | refine ev_block ?_ | refine ev_blk ?_ | refine ev_ret ?_ | refine ev_exit ?_ | refine evx_code_ret ?_ | refine evx_blk_ret ?_ | refine evx_lp_ret ?_
    | refine evx_code_exit ?_ | refine evx_lp_exit ?_ | refine evx_blk_hit ?_ | refine evx_blk_pass (by decide) ?_
    | refine And.intro ?_ ?_ | intro _ | decide +kernel | omega)
  all_goals first | (exfalso; omega) | (simp_all; done) | skip
  refine ev_loop (ι := Nat) (fun k => [(0, .pv (eArena a)), (2, .ptr 0 0), (3, .ptr 4216 0), (4, iT k)]) (fun k => [(0, .box [iT 0, .nilS, .nilS, .nilS]), (4216, .box [iT a.dims, .ref 4160, .ref 4200, .ref 100002]), (4160, .arr true 30 4 (a.nodes.map oNode)), (4200, .arr true 2 1 (a.free.map eI)), (100002, .arr true 93 2 ((a.retired.take k).map oRetired))]) (fun _ => []) (fun k => k ≤ a.retired.length) (fun k => a.retired.length - k) 0 [(100002, none)] (by omega) (by simp only [go_sem, hP, ↓reduceIte, Nat.reduceAdd, Nat.reduceMul, Nat.reduceEqDiff, Nat.reduceSub, Nat.reduceLeDiff, reduceCtorEq]; simp) ?_
  intro k hk
  have hw1 : k < a.retired.length → IntKind.i64.wrap ((k : Int) + 1) = k + 1 := fun h => i64_in _ (by omega)
  have htl : ((a.retired.take k).map oRetired).length = k := by simp; omega
  by_cases hlt : k < a.retired.length
  · repeat' (first
      | exact True.intro
      | refine ev_seq ?_
      | ((first | refine vgd_go ?_ | refine ev_region hE hM (hS (by decide +kernel)) ?_ | refine ev_if ?_ | refine end_ret hE rfl rfl ?_ | refine end_norm hE rfl rfl ?_ | refine endG_ret [] hE rfl ?_ | refine endG_norm [] hE rfl ?_ | refine vcallB_of hP (s_l1Ints (a.retired.getD k default).watch (ret_w hw hlt)) ?_ | refine vcall_A ?_); simp (maxSteps := 2000000) only [go_sem, hP, ↓reduceIte, Nat.reduceAdd, Nat.reduceMul, Nat.reduceEqDiff, Nat.reduceSub, Nat.reduceLeDiff, reduceCtorEq, htl, Bool.and_self])
      | refine ev_skip ?_ | refine ev_block ?_ | refine ev_blk ?_ | refine ev_ret ?_ | refine ev_exit ?_ | refine evx_code_ret ?_ | refine evx_blk_ret ?_ | refine evx_lp_ret ?_
      | refine evx_code_exit ?_ | refine evx_lp_exit ?_ | refine evx_blk_hit ?_ | refine evx_blk_pass (by decide) ?_
      | refine And.intro ?_ ?_ | intro _ | decide +kernel | omega)
    all_goals first
      | exact ev_lp (k + 1) [(100002, some 20648)] (by omega) (by omega) (by simp only [go_sem, hP, ↓reduceIte, Nat.reduceAdd, Nat.reduceMul, Nat.reduceEqDiff, Nat.reduceSub, Nat.reduceLeDiff, reduceCtorEq]; rw [take_step (d := default) hlt]; simp [hw1 hlt, oRetired_eq])
      | (exfalso; omega)
      | (simp_all; done)
  · obtain rfl : k = a.retired.length := by omega
    repeat' (first
      | exact True.intro
      | refine ev_seq ?_
      | ((first | refine vgd_go ?_ | refine ev_region hE hM (hS (by decide +kernel)) ?_ | refine ev_if ?_ | refine end_ret hE rfl rfl ?_ | refine end_norm hE rfl rfl ?_ | refine endG_ret [] hE rfl ?_ | refine endG_norm [] hE rfl ?_ | refine vcall_A ?_); simp (maxSteps := 2000000) only [go_sem, hP, ↓reduceIte, Nat.reduceAdd, Nat.reduceMul, Nat.reduceEqDiff, Nat.reduceSub, Nat.reduceLeDiff, reduceCtorEq, htl, List.take_length])
      | refine ev_skip ?_ | refine ev_block ?_ | refine ev_blk ?_ | refine ev_ret ?_ | refine ev_exit ?_ | refine evx_code_ret ?_ | refine evx_blk_ret ?_ | refine evx_lp_ret ?_
      | refine evx_code_exit ?_ | refine evx_lp_exit ?_ | refine evx_blk_hit ?_ | refine evx_blk_pass (by decide) ?_
      | refine And.intro ?_ ?_ | intro _ | decide +kernel | omega)
    all_goals first
      | (exfalso; omega)
      | (simp_all; done)
theorem s_Acloned (a : Arena) (hw : wArena a ≤ 1048576) : Sat Tryz.prog 51 [aArena a] true (rArena a) := by
  refine sat_walk (fn := Tryz.f51) rfl rfl rfl (Nat.le_of_ble_eq_true rfl) fun fr hP hN hbnd => ?_
  have hE : (envOf fr Tryz.prog).Ok := envOf_ok hP
  have hM := follows_of hP
  have hS : ∀ {draw ops}, statB Tryz.f51.ntmps draw ops = true → statB (envOf fr Tryz.prog).fr.N draw ops = true := fun h => by rw [envOf_fr, hN]; exact h
  have hlen : a.retired.length ≤ 1048576 := by unfold wArena wRetiredS at hw; omega
  have hlen2 : a.nodes.length ≤ 1048576 := by unfold wArena wNodeS at hw; omega
  repeat' (first
    | exact True.intro
    | refine ev_seq ?_
    | ((first | refine vgd_go ?_ | refine ev_region hE hM (hS (by decide +kernel)) ?_ | refine ev_if ?_ | refine end_ret hE rfl rfl ?_ | refine end_norm hE rfl rfl ?_ | refine endG_ret [] hE rfl ?_ | refine endG_norm [] hE rfl ?_ | refine vcallB_of hP (s_CloneI a.free (by unfold wArena at hw; omega)) ?_ | refine vcall_A ?_); simp (maxSteps := 2000000) only [go_sem, hP, ↓reduceIte, Nat.reduceAdd, Nat.reduceMul, Nat.reduceEqDiff, Nat.reduceSub, Nat.reduceLeDiff, reduceCtorEq])
    | refine ev_skip ?_ | refine ev_block ?_ | refine ev_blk ?_ | refine ev_ret ?_ | refine ev_exit ?_ | refine evx_code_ret ?_ | refine evx_blk_ret ?_ | refine evx_lp_ret ?_
    | refine evx_code_exit ?_ | refine evx_lp_exit ?_ | refine evx_blk_hit ?_ | refine evx_blk_pass (by decide) ?_
    | refine And.intro ?_ ?_ | intro _ | decide +kernel | omega)
  all_goals first | (exfalso; omega) | (simp_all; done) | skip
  refine ev_loop (ι := Nat) (fun k => [(1, .ptr 0 0), (2, .ptr 8 0), (3, .ptr 4144 0), (15, .c (sNodeS a.nodes)), (16, iT a.nodes.length), (17, iT k)]) (fun k => [(0, .box ((eArena a).map .c)), (8, .box [iT 0, .nilS, .nilS, .nilS]), (4144, .box [iT a.dims, .ref 100001, .ref 4128, .nilS]), (4128, .arr true 2 1 (a.free.map eI)), (100001, .arr true 30 4 ((a.nodes.take k).map oNode))]) (fun _ => []) (fun k => k ≤ a.nodes.length) (fun k => a.nodes.length - k) 0 [(100001, none)] (by omega) (by simp only [go_sem, hP, ↓reduceIte, Nat.reduceAdd, Nat.reduceMul, Nat.reduceEqDiff, Nat.reduceSub, Nat.reduceLeDiff, reduceCtorEq]; simp) ?_
  intro k hk
  have hw1 : k < a.nodes.length → IntKind.i64.wrap ((k : Int) + 1) = k + 1 := fun h => i64_in _ (by omega)
  have htl : ((a.nodes.take k).map oNode).length = k := by simp; omega
  by_cases hlt : k < a.nodes.length
  · repeat' (first
      | exact True.intro
      | refine ev_seq ?_
      | ((first | refine vgd_go ?_ | refine ev_region hE hM (hS (by decide +kernel)) ?_ | refine ev_if ?_ | refine end_ret hE rfl rfl ?_ | refine end_norm hE rfl rfl ?_ | refine endG_ret [] hE rfl ?_ | refine endG_norm [] hE rfl ?_ | refine vcallB_of hP (s_clonedNode (a.nodes.getD k default) (nodes_w hw hlt)) ?_ | refine vcall_A ?_); simp (maxSteps := 2000000) only [go_sem, hP, ↓reduceIte, Nat.reduceAdd, Nat.reduceMul, Nat.reduceEqDiff, Nat.reduceSub, Nat.reduceLeDiff, reduceCtorEq, htl, Bool.and_self])
      | refine ev_skip ?_ | refine ev_block ?_ | refine ev_blk ?_ | refine ev_ret ?_ | refine ev_exit ?_ | refine evx_code_ret ?_ | refine evx_blk_ret ?_ | refine evx_lp_ret ?_
      | refine evx_code_exit ?_ | refine evx_lp_exit ?_ | refine evx_blk_hit ?_ | refine evx_blk_pass (by decide) ?_
      | refine And.intro ?_ ?_ | intro _ | decide +kernel | omega)
    all_goals first
      | exact ev_lp (k + 1) [(100001, some 20520)] (by omega) (by omega) (by simp only [go_sem, hP, ↓reduceIte, Nat.reduceAdd, Nat.reduceMul, Nat.reduceEqDiff, Nat.reduceSub, Nat.reduceLeDiff, reduceCtorEq]; rw [take_step (d := default) hlt]; simp [hw1 hlt, oNode_eq])
      | (exfalso; omega)
      | (simp_all; done)
  · have hke : k = a.nodes.length := by omega
    clear hw1 htl hlt hk
    subst hke
    repeat' (first
      | exact True.intro
      | refine ev_seq ?_
      | ((first | refine vgd_go ?_ | refine ev_region hE hM (hS (by decide +kernel)) ?_ | refine ev_if ?_ | refine end_ret hE rfl rfl ?_ | refine end_norm hE rfl rfl ?_ | refine endG_ret [] hE rfl ?_ | refine endG_norm [] hE rfl ?_ | refine vcall_A ?_); simp (maxSteps := 2000000) only [go_sem, hP, ↓reduceIte, Nat.reduceAdd, Nat.reduceMul, Nat.reduceEqDiff, Nat.reduceSub, Nat.reduceLeDiff, reduceCtorEq, List.take_length])
      | refine ev_skip ?_ | refine ev_block ?_ | refine ev_blk ?_ | refine ev_ret ?_ | refine ev_exit ?_ | refine evx_code_ret ?_ | refine evx_blk_ret ?_ | refine evx_lp_ret ?_
      | refine evx_code_exit ?_ | refine evx_lp_exit ?_ | refine evx_blk_hit ?_ | refine evx_blk_pass (by decide) ?_
      | refine And.intro ?_ ?_ | intro _ | decide +kernel | omega)
    all_goals first | (exfalso; omega) | (simp_all; done) | skip
    refine ev_loop (ι := Nat) (fun k => [(1, .ptr 0 0), (2, .ptr 8 0), (3, .ptr 4144 0), (30, .c (sRetiredS a.retired)), (31, iT a.retired.length), (32, iT k)]) (fun k => [(0, .box ((eArena a).map .c)), (8, .box [iT 0, .nilS, .nilS, .nilS]), (4144, .box [iT a.dims, .ref 100001, .ref 4128, .ref 100002]), (4128, .arr true 2 1 (a.free.map eI)), (100001, .arr true 30 4 (a.nodes.map oNode)), (100002, .arr true 93 2 ((a.retired.take k).map oRetired))]) (fun _ => []) (fun k => k ≤ a.retired.length) (fun k => a.retired.length - k) 0 [(100002, none)] (by omega) (by simp only [go_sem, hP, ↓reduceIte, Nat.reduceAdd, Nat.reduceMul, Nat.reduceEqDiff, Nat.reduceSub, Nat.reduceLeDiff, reduceCtorEq]; simp) ?_
    intro k hk
    have hw1 : k < a.retired.length → IntKind.i64.wrap ((k : Int) + 1) = k + 1 := fun h => i64_in _ (by omega)
    have htl : ((a.retired.take k).map oRetired).length = k := by simp; omega
    by_cases hlt : k < a.retired.length
    · repeat' (first
        | exact True.intro
        | refine ev_seq ?_
        | ((first | refine vgd_go ?_ | refine ev_region hE hM (hS (by decide +kernel)) ?_ | refine ev_if ?_ | refine end_ret hE rfl rfl ?_ | refine end_norm hE rfl rfl ?_ | refine endG_ret [] hE rfl ?_ | refine endG_norm [] hE rfl ?_ | refine vcallB_of hP (s_CloneI (a.retired.getD k default).watch (ret_w hw hlt)) ?_ | refine vcall_A ?_); simp (maxSteps := 2000000) only [go_sem, hP, ↓reduceIte, Nat.reduceAdd, Nat.reduceMul, Nat.reduceEqDiff, Nat.reduceSub, Nat.reduceLeDiff, reduceCtorEq, htl, Bool.and_self])
        | refine ev_skip ?_ | refine ev_block ?_ | refine ev_blk ?_ | refine ev_ret ?_ | refine ev_exit ?_ | refine evx_code_ret ?_ | refine evx_blk_ret ?_ | refine evx_lp_ret ?_
        | refine evx_code_exit ?_ | refine evx_lp_exit ?_ | refine evx_blk_hit ?_ | refine evx_blk_pass (by decide) ?_
        | refine And.intro ?_ ?_ | intro _ | decide +kernel | omega)
      all_goals first
        | exact ev_lp (k + 1) [(100002, some 41032)] (by omega) (by omega) (by simp only [go_sem, hP, ↓reduceIte, Nat.reduceAdd, Nat.reduceMul, Nat.reduceEqDiff, Nat.reduceSub, Nat.reduceLeDiff, reduceCtorEq]; rw [take_step (d := default) hlt]; simp [hw1 hlt, oRetired_eq])
        | (exfalso; omega)
        | (simp_all; done)
    · obtain rfl : k = a.retired.length := by omega
      repeat' (first
        | exact True.intro
        | refine ev_seq ?_
        | ((first | refine vgd_go ?_ | refine ev_region hE hM (hS (by decide +kernel)) ?_ | refine ev_if ?_ | refine end_ret hE rfl rfl ?_ | refine end_norm hE rfl rfl ?_ | refine endG_ret [] hE rfl ?_ | refine endG_norm [] hE rfl ?_ | refine vcall_A ?_); simp (maxSteps := 2000000) only [go_sem, hP, ↓reduceIte, Nat.reduceAdd, Nat.reduceMul, Nat.reduceEqDiff, Nat.reduceSub, Nat.reduceLeDiff, reduceCtorEq, htl, List.take_length])
        | refine ev_skip ?_ | refine ev_block ?_ | refine ev_blk ?_ | refine ev_ret ?_ | refine ev_exit ?_ | refine evx_code_ret ?_ | refine evx_blk_ret ?_ | refine evx_lp_ret ?_
        | refine evx_code_exit ?_ | refine evx_lp_exit ?_ | refine evx_blk_hit ?_ | refine evx_blk_pass (by decide) ?_
        | refine And.intro ?_ ?_ | intro _ | decide +kernel | omega)
      all_goals first
        | (exfalso; omega)
        | (simp_all; done)
theorem s_placeFault (a : Arena) (id : Int) : Sat Tryz.prog 36 [aArena a, aI id] true (rI (pfC a id)) := by
  refine sat_walk (fn := Tryz.f36) rfl rfl rfl (Nat.le_of_ble_eq_true rfl) fun fr hP hN hbnd => ?_
  have hE : (envOf fr Tryz.prog).Ok := envOf_ok hP
  have hM := follows_of hP
  have hS : ∀ {draw ops}, statB Tryz.f36.ntmps draw ops = true → statB (envOf fr Tryz.prog).fr.N draw ops = true := fun h => by rw [envOf_fr, hN]; exact h
  repeat' (first
    | exact True.intro
    | refine ev_seq ?_
    | ((first | refine vgd_go ?_ | refine ev_region hE hM (hS (by decide +kernel)) ?_ | refine ev_if ?_ | refine end_ret hE rfl rfl ?_ | refine end_norm hE rfl rfl ?_ | refine endG_ret [] hE rfl ?_ | refine endG_norm [] hE rfl ?_ | refine vcallB_of hP (s_isPlace a id) ?_ | refine vcallB_of hP (s_isFree a id) ?_ | refine vcall_A ?_); simp (maxSteps := 2000000) only [go_sem, hP, ↓reduceIte, Nat.reduceAdd, Nat.reduceMul, Nat.reduceEqDiff, Nat.reduceSub, Nat.reduceLeDiff, reduceCtorEq])
    | refine ev_skip ?_ | refine ev_block ?_ | refine ev_blk ?_ | refine ev_ret ?_ | refine ev_exit ?_ | refine evx_code_ret ?_ | refine evx_blk_ret ?_ | refine evx_lp_ret ?_
    | refine evx_code_exit ?_ | refine evx_lp_exit ?_ | refine evx_blk_hit ?_ | refine evx_blk_pass (by decide) ?_
    | refine And.intro ?_ ?_ | intro _ | decide +kernel | omega)
  all_goals first
    | (simp_all [pfC]; done)
    | (simp_all [pfC]; intro h; exact absurd rfl (‹∀ x, x ∈ a.free → ¬x = id› id h))
theorem s_l4Read (a : Arena) (id : Int) : Sat Tryz.prog 30 [pArena a, aI id] true (rI (pfC a id)) := by
  refine sat_walk (fn := Tryz.f30) rfl rfl rfl (Nat.le_of_ble_eq_true rfl) fun fr hP hN hbnd => ?_
  have hE : (envOf fr Tryz.prog).Ok := envOf_ok hP
  have hM := follows_of hP
  have hS : ∀ {draw ops}, statB Tryz.f30.ntmps draw ops = true → statB (envOf fr Tryz.prog).fr.N draw ops = true := fun h => by rw [envOf_fr, hN]; exact h
  repeat' (first
    | exact True.intro
    | refine ev_seq ?_
    | ((first | refine vgd_go ?_ | refine ev_region hE hM (hS (by decide +kernel)) ?_ | refine ev_if ?_ | refine end_ret hE rfl rfl ?_ | refine end_norm hE rfl rfl ?_ | refine endG_ret [] hE rfl ?_ | refine endG_norm [] hE rfl ?_ | refine vcallB_of hP (s_l4Place a id) ?_ | refine vcallB_of hP (s_l1Has a.free id) ?_ | refine vcall_A ?_); simp (maxSteps := 2000000) only [go_sem, hP, ↓reduceIte, Nat.reduceAdd, Nat.reduceMul, Nat.reduceEqDiff, Nat.reduceSub, Nat.reduceLeDiff, reduceCtorEq])
    | refine ev_skip ?_ | refine ev_block ?_ | refine ev_blk ?_ | refine ev_ret ?_ | refine ev_exit ?_ | refine evx_code_ret ?_ | refine evx_blk_ret ?_ | refine evx_lp_ret ?_
    | refine evx_code_exit ?_ | refine evx_lp_exit ?_ | refine evx_blk_hit ?_ | refine evx_blk_pass (by decide) ?_
    | refine And.intro ?_ ?_ | intro _ | decide +kernel | omega)
  all_goals first
    | (simp_all [pfC]; done)
    | (simp_all [pfC]; intro h; exact absurd rfl (‹∀ x, x ∈ a.free → ¬x = id› id h))
theorem mwNode_le' {n : Node} {d : Int} (h : nf n d = 0) : mwNode n ≤ 100 := by
  have h1 := nf_w h
  have h2 := mwE_le (xs := n.entries)
  unfold mwNode; omega
end Go.Proofs.YtcephdpooijciaaGreat.W
