/- What functions of Go's library do to rows of structs, walked by the kit's own walk. No condition but those that each theorem states. -/
import Derived.Test.YtegohioalgikjaaRows
import Derived.Test.YtegohioalgikjaaVg
import Derived.WalkKit
import Derived.Deep.RegionLaw
import Derived.Lib.SliceRun
import Derived.Test.YtegohioalgikjaaVh
open Go Go.Vm Go.Proofs Go.IntWalk Go.RowKit Go.Lib
set_option maxRecDepth 100000
set_option linter.unusedVariables false
set_option linter.unusedSimpArgs false
namespace Go.Proofs.Ytegohioalgikjaa.W
theorem ofFn_list (n : Nat) : (Array.ofFn (fun i : Fin n => i)).toList.map (fun i => i.val) = List.range n := by
  refine List.ext_getElem (by simp) fun i h1 h2 => ?_
  simp
def renInsEntry : Go.Shelf.Ren := ⟨fun n => if n = 20 then 130 else 0, fun n => if n = 0 then 0 else if n = 3 then 3 else if n = 4 then 4 else if n = 22 then 24 else if n = 24 then 41 else if n = 25 then 101 else 0, fun n => n⟩
theorem laysInsEntry : SlLaysF0.n20 Try.prog renInsEntry where
  mixed := by kernel_rfl
  f20 := ⟨Try.f130.name, by kernel_rfl, by kernel_rfl⟩
  t0 := Try.underlying0
  a0 := Try.isAgg0
  z0 := Try.sizeOf0
  v0 := Try.zeroValue0
  t3 := Try.underlying3
  a3 := Try.isAgg3
  z3 := Try.sizeOf3
  v3 := Try.zeroValue3
  t4 := Try.underlying4
  a4 := Try.isAgg4
  z4 := Try.sizeOf4
  v4 := Try.zeroValue4
  t22 := Try.underlying24
  a22 := Try.isAgg24
  z22 := Try.sizeOf24
  v22 := Try.zeroValue24
  t25 := Try.underlying101
  a25 := Try.isAgg101
  z25 := Try.sizeOf101
  v25 := Try.zeroValue101
theorem k_insertionEntry {ty n : Nat} (hb : n ≤ 1048576) {es : List (List C)} {sem : List Dat → List Dat → Prop} (hln : es.length = n) [Inhabited (Fin n)] (cf : Fin n → Fin n → Int) (hO : Go.Sort.SWO (ltOf cf))
    (hsem : ∀ i j : Fin n, sem [(true, Cs.strip (es.getD i [])), (true, Cs.strip (es.getD j []))] [(false, [.int .i64 (cf i j)])]) :
    SatG Try.prog 130 false [.ref 1, .c (.int .i64 0), .c (.int .i64 n), .fn sem] [(1, .arr true ty 4 es)] (.tup []) [(1, .arr true ty 4 (((sortL (fun a b => !ltOf cf b a) (Array.ofFn (fun i : Fin n => i)).toList).map (fun i => i.val)).map fun i => es.getD i []))] := by
  refine satG_sortK (ks := [0, (n : Int)]) ⟨_, rfl, rfl, rfl⟩ (by decide) hln cf ?_ hsem ?_
  · have h := (sortL_perm (le := fun a b => !ltOf cf b a) (Array.ofFn (fun i : Fin n => i)).toList).map (fun i => i.val)
    rwa [ofFn_list] at h
  · intro enc g cb blk cap W eg hk h1 hC hH hblk hmx
    have hs : (Array.ofFn (fun i : Fin n => i)).size = n := by simp
    have h := AnyQ.insertionSortCmpFunc laysInsEntry 4 Try.isAgg41 Try.sizeOf41 enc hk h1 cf g cb blk 0 cap 0 n (Array.ofFn (fun i : Fin n => i)) W eg (by rw [hs]; exact hC) hH hblk (Nat.zero_le _) (by rw [hs]; exact Nat.le_refl _) (by rw [hs]; omega)
    rw [hs] at h
    refine h.mono ?_
    rintro e w' ⟨he, m, os, hw⟩
    refine ⟨he, _, m, os, ?_, hw⟩
    have := insertionSort_list hO (Array.ofFn (fun i : Fin n => i))
    rw [hs] at this
    rw [this]
end Go.Proofs.Ytegohioalgikjaa.W
