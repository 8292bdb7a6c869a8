/- What functions of Go's library do to rows of structs, walked by the kit's own walk. No condition but those that each theorem states. -/
import Derived.Test.YtegohioalgikjaaRows
import Derived.Test.YtegohioalgikjaaVg
import Derived.WalkKit
import Derived.Deep.RegionLaw
import Derived.Lib.SliceRun
import Derived.Test.YtegohioalgikjaaVh
import Derived.Shelf.SlSortCmp.NoneTotal
open Go Go.Vm Go.Proofs Go.IntWalk Go.RowKit Go.Lib
set_option maxRecDepth 100000
set_option linter.unusedVariables false
set_option linter.unusedSimpArgs false
namespace Go.Proofs.Ytegohioalgikjaa.W
theorem ofFn_list (n : Nat) : (Array.ofFn (fun i : Fin n => i)).toList.map (fun i => i.val) = List.range n := by
  refine List.ext_getElem (by simp) fun i h1 h2 => ?_
  simp
def renSortPair : Go.Shelf.Ren := ⟨fun n => if n = 6 then 96 else if n = 14 then 120 else if n = 15 then 121 else if n = 20 then 132 else if n = 21 then 133 else if n = 22 then 134 else if n = 23 then 135 else if n = 24 then 136 else if n = 25 then 137 else if n = 26 then 138 else if n = 27 then 139 else if n = 28 then 140 else if n = 29 then 141 else if n = 46 then 143 else if n = 47 then 144 else if n = 48 then 145 else if n = 49 then 146 else if n = 50 then 147 else if n = 57 then 149 else 0, fun n => if n = 0 then 0 else if n = 3 then 3 else if n = 4 then 4 else if n = 5 then 5 else if n = 9 then 9 else if n = 22 then 44 else if n = 24 then 55 else if n = 25 then 116 else if n = 39 then 135 else if n = 45 then 144 else if n = 46 then 145 else if n = 50 then 149 else if n = 53 then 152 else if n = 55 then 154 else if n = 66 then 155 else if n = 70 then 159 else if n = 76 then 161 else if n = 77 then 67 else 0, fun n => n⟩
theorem laysSortPair : SlLaysF0.n6 Try.prog renSortPair where
  mixed := by kernel_rfl
  f6 := ⟨Try.f96.name, by kernel_rfl, by kernel_rfl⟩
  f14 := ⟨Try.f120.name, by kernel_rfl, by kernel_rfl⟩
  f15 := by kernel_rfl
  f20 := ⟨Try.f132.name, by kernel_rfl, by kernel_rfl⟩
  f21 := ⟨Try.f133.name, by kernel_rfl, by kernel_rfl⟩
  f22 := ⟨Try.f134.name, by kernel_rfl, by kernel_rfl⟩
  f23 := ⟨Try.f135.name, by kernel_rfl, by kernel_rfl⟩
  f24 := ⟨Try.f136.name, by kernel_rfl, by kernel_rfl⟩
  f25 := ⟨Try.f137.name, by kernel_rfl, by kernel_rfl⟩
  f26 := ⟨Try.f138.name, by kernel_rfl, by kernel_rfl⟩
  f27 := ⟨Try.f139.name, by kernel_rfl, by kernel_rfl⟩
  f28 := by kernel_rfl
  f29 := by kernel_rfl
  f46 := ⟨Try.f143.name, by kernel_rfl, by kernel_rfl⟩
  f47 := by kernel_rfl
  f48 := by kernel_rfl
  f49 := ⟨Try.f146.name, by kernel_rfl, by kernel_rfl⟩
  f50 := ⟨Try.f147.name, by kernel_rfl, by kernel_rfl⟩
  f57 := ⟨Try.f149.name, by kernel_rfl, by kernel_rfl⟩
  t0 := Try.underlying0
  a0 := Try.isAgg0
  z0 := Try.sizeOf0
  v0 := Try.zeroValue0
  t3 := Try.underlying3
  a3 := Try.isAgg3
  z3 := Try.sizeOf3
  v3 := Try.zeroValue3
  t4 := Try.underlying4
  a4 := Try.isAgg4
  z4 := Try.sizeOf4
  v4 := Try.zeroValue4
  t5 := Try.underlying5
  a5 := Try.isAgg5
  z5 := Try.sizeOf5
  v5 := Try.zeroValue5
  t9 := Try.underlying9
  a9 := Try.isAgg9
  z9 := Try.sizeOf9
  v9 := Try.zeroValue9
  t22 := Try.underlying44
  a22 := Try.isAgg44
  z22 := Try.sizeOf44
  v22 := Try.zeroValue44
  t25 := Try.underlying116
  a25 := Try.isAgg116
  z25 := Try.sizeOf116
  v25 := Try.zeroValue116
  t39 := Try.underlying135
  a39 := Try.isAgg135
  z39 := Try.sizeOf135
  v39 := Try.zeroValue135
  t45 := Try.underlying144
  a45 := Try.isAgg144
  z45 := Try.sizeOf144
  v45 := Try.zeroValue144
  t46 := Try.underlying145
  a46 := Try.isAgg145
  z46 := Try.sizeOf145
  v46 := Try.zeroValue145
  t50 := Try.underlying149
  a50 := Try.isAgg149
  z50 := Try.sizeOf149
  v50 := Try.zeroValue149
  t53 := Try.underlying152
  a53 := Try.isAgg152
  z53 := Try.sizeOf152
  v53 := Try.zeroValue152
  t55 := Try.underlying154
  a55 := Try.isAgg154
  z55 := Try.sizeOf154
  v55 := Try.zeroValue154
  t66 := Try.underlying155
  a66 := Try.isAgg155
  z66 := Try.sizeOf155
  v66 := Try.zeroValue155
  t70 := Try.underlying159
  a70 := Try.isAgg159
  z70 := Try.sizeOf159
  v70 := Try.zeroValue159
  t76 := Try.underlying161
  a76 := Try.isAgg161
  z76 := Try.sizeOf161
  v76 := Try.zeroValue161
  t77 := Try.underlying67
  a77 := Try.isAgg67
  z77 := Try.sizeOf67
  v77 := Try.zeroValue67
theorem mergeSort_sortL {α : Type} {le : α → α → Bool} (htr : ∀ x y z, le x y = true → le y z = true → le x z = true) (htot : ∀ x y, le x y = false → le y x = true) (hanti : ∀ x y, le x y = true → le y x = true → x = y) (xs : List α) : xs.mergeSort le = sortL le xs := by
  refine List.Perm.eq_of_pairwise (le := fun x y => le x y = true) (fun a b _ _ h1 h2 => hanti a b h1 h2) ?_ (sortL_sorted htr htot xs) ((List.mergeSort_perm xs le).trans (sortL_perm xs).symm)
  refine List.pairwise_mergeSort (fun a b c h1 h2 => htr a b c h1 h2) (fun a b => ?_) xs
  cases h : le a b with
  | true => rfl
  | false => simp [htot a b h]
theorem k_sortPair {ty n : Nat} (hb : n ≤ 1048576) {es : List (List C)} {sem : List Dat → List Dat → Prop} (hln : es.length = n) [Inhabited (Fin n)] (cf : Fin n → Fin n → Int) (hO : Go.Sort.SWO (ltOf cf)) (hT : ∀ x y, ltOf cf x y = false → ltOf cf y x = false → x = y)
    (hsem : ∀ i j : Fin n, sem [(true, Cs.strip (es.getD i [])), (true, Cs.strip (es.getD j []))] [(false, [.int .i64 (cf i j)])]) :
    SatG Try.prog 96 false [.ref 1, .fn sem] [(1, .arr true ty 3 es)] (.tup []) [(1, .arr true ty 3 (((sortL (fun a b => !ltOf cf b a) (Array.ofFn (fun i : Fin n => i)).toList).map (fun i => i.val)).map fun i => es.getD i []))] := by
  refine satG_sortK (ks := []) ⟨_, rfl, rfl, rfl⟩ (by decide) hln cf ?_ hsem ?_
  · have h := (sortL_perm (le := fun a b => !ltOf cf b a) (Array.ofFn (fun i : Fin n => i)).toList).map (fun i => i.val)
    rwa [ofFn_list] at h
  · intro enc g cb blk cap W eg hk h1 hC hH hblk hmx
    have hs : (Array.ofFn (fun i : Fin n => i)).size = n := by simp
    have h := AnyQ.slices_SortFunc_total laysSortPair 3 Try.isAgg55 Try.sizeOf55 enc hk h1 cf hO g cb blk 0 cap (Array.ofFn (fun i : Fin n => i)) W eg (by rw [hs]; exact hC) hH hblk (by rw [hs]; omega) hT
    rw [hs] at h
    refine h.mono ?_
    rintro e w' ⟨he, m, os, hw⟩
    refine ⟨he, _, m, os, ?_, hw⟩
    rw [mergeSort_sortL (le := fun x y => !ltOf cf y x) ?_ ?_ ?_]
    · intro x y z h1 h2
      simp only [Bool.not_eq_true'] at *
      exact hO.ntrans z y x h2 h1
    · intro x y h
      simp only [Bool.not_eq_true', Bool.not_eq_false'] at *
      cases h2 : ltOf cf x y with
      | false => rfl
      | true => have := hO.trans x y x h2 h; rw [hO.irrefl] at this; cases this
    · intro x y h1 h2
      simp only [Bool.not_eq_true'] at *
      exact hT x y h2 h1
theorem k_sortPairF {ty n : Nat} (hb : n ≤ 1048576) {es : List (List C)} {sem : List Dat → List Dat → Prop} (hln : es.length = n) [Inhabited (Fin n)] (cf : Fin n → Fin n → Int) (hO : Go.Sort.SWO (ltOf cf)) (hT : ∀ x y, ltOf cf x y = false → ltOf cf y x = false → x = y)
    (hsem : ∀ i j : Fin n, sem [(true, Cs.strip (es.getD i [])), (true, Cs.strip (es.getD j []))] [(false, [.int .i64 (cf i j)])]) :
    SatG Try.prog 96 false [.ref 1, .fn sem] [(1, .arr false ty 3 es)] (.tup []) [(1, .arr false ty 3 (((sortL (fun a b => !ltOf cf b a) (Array.ofFn (fun i : Fin n => i)).toList).map (fun i => i.val)).map fun i => es.getD i []))] := by
  refine satG_sortKF (ks := []) ⟨_, rfl, rfl, rfl⟩ (by decide) hln cf ?_ hsem ?_
  · have h := (sortL_perm (le := fun a b => !ltOf cf b a) (Array.ofFn (fun i : Fin n => i)).toList).map (fun i => i.val)
    rwa [ofFn_list] at h
  · intro enc g cb blk cap W eg hk h1 hC hH hblk hmx
    have hs : (Array.ofFn (fun i : Fin n => i)).size = n := by simp
    have h := AnyQ.slices_SortFunc_total laysSortPair 3 Try.isAgg55 Try.sizeOf55 enc hk h1 cf hO g cb blk 0 cap (Array.ofFn (fun i : Fin n => i)) W eg (by rw [hs]; exact hC) hH hblk (by rw [hs]; omega) hT
    rw [hs] at h
    refine h.mono ?_
    rintro e w' ⟨he, m, os, hw⟩
    refine ⟨he, _, m, os, ?_, hw⟩
    rw [mergeSort_sortL (le := fun x y => !ltOf cf y x) ?_ ?_ ?_]
    · intro x y z h1 h2
      simp only [Bool.not_eq_true'] at *
      exact hO.ntrans z y x h2 h1
    · intro x y h
      simp only [Bool.not_eq_true', Bool.not_eq_false'] at *
      cases h2 : ltOf cf x y with
      | false => rfl
      | true => have := hO.trans x y x h2 h; rw [hO.irrefl] at this; cases this
    · intro x y h1 h2
      simp only [Bool.not_eq_true'] at *
      exact hT x y h2 h1
end Go.Proofs.Ytegohioalgikjaa.W
