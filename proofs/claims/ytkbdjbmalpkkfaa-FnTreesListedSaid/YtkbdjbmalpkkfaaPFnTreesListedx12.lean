-- Written by a program of this session for this claim (its own turn of the print).
import Derived.Test.YtkbdjbmalpkkfaaPFnTreesListedx0
import Derived.Test.YtkbdjbmalpkkfaaPFnTreesListedx1
import Derived.Test.YtkbdjbmalpkkfaaPFnTreesListedx4
import Derived.Test.YtkbdjbmalpkkfaaPFnTreesListedx5
import Derived.Test.YtkbdjbmalpkkfaaPFnTreesListedx6
import Derived.Test.YtkbdjbmalpkkfaaPFnTreesListedx8
import Derived.Test.YtkbdjbmalpkkfaaPFnTreesListedx9
import Derived.Test.YtkbdjbmalpkkfaaPFnTreesListedx10
import Derived.Test.YtkbdjbmalpkkfaaPFnTreesListedx11
namespace Go.Proofs.Ytkbdjbmalpkkfaa.PFnTreesListed
open Go.RowKit Go.Proofs.YtkbdjbmalpkkfaaW.PrintWords Go.Proofs.YtkbdjbmalpkkfaaW.PrintLast Go.Proofs.YtkbdjbmalpkkfaaW.PrintMore
attribute [local go_sem] max2_int min2_int max_two min_two max_three min_three max_four min_four   -- for this text's walks alone
set_option linter.unusedVariables false
set_option linter.unusedSimpArgs false

/-! ### laws_FnTreesListed: function 6 -/
mutual
def laws_FnTreesListed.j0 : Nat → List Int → Int → List (List Int) → Bool → Bool → Option (Bool)
 | 0, _, _, _, _, _ => none
 | k + 1, x1, x5, x6, x9, x83 => if x83 = true then (some false) else ((spec_DrawCountByInversions.f x1).bind fun t414 => ((impl_CountByInversions.f k t414).bind fun bt415 => ((spec_CountByInversions.f k t414).bind fun bt419 => ((impl_CountByDistance.f k t414).bind fun bt423 => (if (bt415.2 != bt419.2) = true then (laws_FnTreesListed.j1 k x5 x6 x9 t414 bt415.1 bt415.2 true) else ((laws_wSame.f k bt415.1 bt419.1).bind fun t427 => (if t427 = true then (if (bt415.2 != bt423.2) = true then (laws_FnTreesListed.j1 k x5 x6 x9 t414 bt415.1 bt415.2 true) else ((laws_wSame.f k bt415.1 bt423.1).bind fun t428 => (laws_FnTreesListed.j1 k x5 x6 x9 t414 bt415.1 bt415.2 (!t428)))) else (laws_FnTreesListed.j1 k x5 x6 x9 t414 bt415.1 bt415.2 true))))))))
def laws_FnTreesListed.j1 : Nat → Int → List (List Int) → Bool → Int → List Int → Bool → Bool → Option (Bool)
 | 0, _, _, _, _, _, _, _ => none
 | k + 1, x5, x6, x9, x14, x15, x16, x120 => if x120 = true then (some false) else (if x16 = true then ((impl_CountParking.f k x14).bind fun bt429 => ((impl_CountTrees.f k x14).bind fun bt431 => (if bt429.2 = true then (if bt431.2 = true then ((laws_wSum.f k x15).bind fun t433 => (if t433 = bt429.1 then (if bt431.1 = bt429.1 then (laws_FnTreesListed.j2 k x5 x6 x9) else (some false)) else (some false))) else (some false)) else (some false)))) else (laws_FnTreesListed.j2 k x5 x6 x9))
def laws_FnTreesListed.j2 : Nat → Int → List (List Int) → Bool → Option (Bool)
 | 0, _, _, _ => none
 | k + 1, x5, x6, x9 => if x9 = true then (laws_FnTreesListed.j3 k x6 (decide (x5 > 4))) else (laws_FnTreesListed.j3 k x6 true)
def laws_FnTreesListed.j3 : Nat → List (List Int) → Bool → Option (Bool)
 | 0, _, _ => none
 | k + 1, x6, x154 => if x154 = true then (some true) else (laws_FnTreesListed.l0 k x6 x6 (x6.length : Int) 0)
def laws_FnTreesListed.l0 : Nat → List (List Int) → List (List Int) → Int → Int → Option (Bool)
 | 0, _, _, _, _ => none
 | k + 1, x6, x155, x156, x157 => if x157 < x156 then (if 0 ≤ x157 then (if x157 < (x155.length : Int) then ((impl_PruferOf.f k (rd_L2 x155 x157)).bind fun bt435 => (if bt435.2 = true then ((impl_IsTree.f k (rd_L2 x155 x157)).bind fun t439 => (laws_FnTreesListed.j5 k x6 x157 bt435.1 x155 x156 x157 (!t439))) else (laws_FnTreesListed.j5 k x6 x157 bt435.1 x155 x156 x157 true))) else (none)) else (none)) else (some true)
def laws_FnTreesListed.j5 : Nat → List (List Int) → Int → List Int → List (List Int) → Int → Int → Bool → Option (Bool)
 | 0, _, _, _, _, _, _, _ => none
 | k + 1, x6, x25, x27, x155, x156, x157, x173 => if x173 = true then (some false) else (if x25 > 0 then (if 0 ≤ (wrap64 (x25 - 1)) then (if (wrap64 (x25 - 1)) < (x6.length : Int) then ((impl_PruferOf.f k (rd_L2 x6 (wrap64 (x25 - 1)))).bind fun bt441 => (if bt441.2 = true then ((laws_wLess.f k bt441.1 x27).bind fun t445 => (if t445 = true then (laws_FnTreesListed.l0 k x6 x155 x156 (wrap64 (x157 + 1))) else (some false))) else (some false))) else (none)) else (none)) else (laws_FnTreesListed.l0 k x6 x155 x156 (wrap64 (x157 + 1))))
end
def laws_FnTreesListed.f (k : Nat) (l0 : List Int) (l1 : List Int) : Option (Bool) := (laws_big.f l0 l1).bind fun t399 => (if t399 = true then (some true) else ((spec_DrawAllTrees.f l0).bind fun t400 => ((impl_AllTrees.f k t400).bind fun bt401 => ((spec_AllTrees.f k t400).bind fun bt405 => ((impl_CountTrees.f k t400).bind fun bt409 => ((spec_CountTrees.f k t400).bind fun bt411 => (if (bt401.2 != bt405.2) = true then (laws_FnTreesListed.j0 k l1 t400 bt401.1 bt405.2 true) else ((laws_wSameLists.f k bt401.1 bt405.1).bind fun t413 => (if t413 = true then (if (bt409.2 != bt411.2) = true then (laws_FnTreesListed.j0 k l1 t400 bt401.1 bt405.2 true) else (if bt409.1 = bt411.1 then (if bt401.2 = true then (laws_FnTreesListed.j0 k l1 t400 bt401.1 bt405.2 ((bt401.1.length : Int) != bt409.1)) else (laws_FnTreesListed.j0 k l1 t400 bt401.1 bt405.2 false)) else (laws_FnTreesListed.j0 k l1 t400 bt401.1 bt405.2 true))) else (laws_FnTreesListed.j0 k l1 t400 bt401.1 bt405.2 true))))))))))
theorem laws_FnTreesListed.mono_l : ∀ k, (∀ y0 y1 y2 y3 y4, LeO (laws_FnTreesListed.j0 k y0 y1 y2 y3 y4) (laws_FnTreesListed.j0 (k + 1) y0 y1 y2 y3 y4)) ∧ (∀ y0 y1 y2 y3 y4 y5 y6, LeO (laws_FnTreesListed.j1 k y0 y1 y2 y3 y4 y5 y6) (laws_FnTreesListed.j1 (k + 1) y0 y1 y2 y3 y4 y5 y6)) ∧ (∀ y0 y1 y2, LeO (laws_FnTreesListed.j2 k y0 y1 y2) (laws_FnTreesListed.j2 (k + 1) y0 y1 y2)) ∧ (∀ y0 y1, LeO (laws_FnTreesListed.j3 k y0 y1) (laws_FnTreesListed.j3 (k + 1) y0 y1)) ∧ (∀ y0 y1 y2 y3, LeO (laws_FnTreesListed.l0 k y0 y1 y2 y3) (laws_FnTreesListed.l0 (k + 1) y0 y1 y2 y3)) ∧ (∀ y0 y1 y2 y3 y4 y5 y6, LeO (laws_FnTreesListed.j5 k y0 y1 y2 y3 y4 y5 y6) (laws_FnTreesListed.j5 (k + 1) y0 y1 y2 y3 y4 y5 y6))
 | 0 => ⟨fun _ _ _ _ _ r h => by simp [laws_FnTreesListed.j0] at h, fun _ _ _ _ _ _ _ r h => by simp [laws_FnTreesListed.j1] at h, fun _ _ _ r h => by simp [laws_FnTreesListed.j2] at h, fun _ _ r h => by simp [laws_FnTreesListed.j3] at h, fun _ _ _ _ r h => by simp [laws_FnTreesListed.l0] at h, fun _ _ _ _ _ _ _ r h => by simp [laws_FnTreesListed.j5] at h⟩
 | k + 1 => by
  obtain ⟨ih0, ih1, ih2, ih3, ih4, ih5⟩ := laws_FnTreesListed.mono_l k
  refine ⟨?_, ?_, ?_, ?_, ?_, ?_⟩
  ·intro y0 y1 y2 y3 y4
   unfold laws_FnTreesListed.j0
   repeat' first
   | (with_reducible exact ih0 _ _ _ _ _)
   | (with_reducible exact ih1 _ _ _ _ _ _ _)
   | (with_reducible exact ih2 _ _ _)
   | (with_reducible exact ih3 _ _)
   | (with_reducible exact ih4 _ _ _ _)
   | (with_reducible exact ih5 _ _ _ _ _ _ _)
   | (with_reducible exact impl_AllTrees.mono _ _)
   | (with_reducible exact impl_CountByDistance.mono _ _)
   | (with_reducible exact impl_CountByInversions.mono _ _)
   | (with_reducible exact impl_CountParking.mono _ _)
   | (with_reducible exact impl_CountTrees.mono _ _)
   | (with_reducible exact impl_IsTree.mono _ _)
   | (with_reducible exact impl_PruferOf.mono _ _)
   | (with_reducible exact laws_wLess.mono _ _ _)
   | (with_reducible exact laws_wSame.mono _ _ _)
   | (with_reducible exact laws_wSameLists.mono _ _ _)
   | (with_reducible exact laws_wSum.mono _ _)
   | (with_reducible exact spec_AllTrees.mono _ _)
   | (with_reducible exact spec_CountByInversions.mono _ _)
   | (with_reducible exact spec_CountTrees.mono _ _)
   | (with_reducible exact LeO.refl _)
   | (with_reducible exact LeO.none _)
   | (with_reducible refine LeO.ite ?_ ?_)
   | (with_reducible refine LeO.bind ?_ (fun _ => ?_))
   | exact LeO.none _
   | refine LeO.ite ?_ ?_
   | refine LeO.bind ?_ (fun _ => ?_)
  ·intro y0 y1 y2 y3 y4 y5 y6
   unfold laws_FnTreesListed.j1
   repeat' first
   | (with_reducible exact ih0 _ _ _ _ _)
   | (with_reducible exact ih1 _ _ _ _ _ _ _)
   | (with_reducible exact ih2 _ _ _)
   | (with_reducible exact ih3 _ _)
   | (with_reducible exact ih4 _ _ _ _)
   | (with_reducible exact ih5 _ _ _ _ _ _ _)
   | (with_reducible exact impl_AllTrees.mono _ _)
   | (with_reducible exact impl_CountByDistance.mono _ _)
   | (with_reducible exact impl_CountByInversions.mono _ _)
   | (with_reducible exact impl_CountParking.mono _ _)
   | (with_reducible exact impl_CountTrees.mono _ _)
   | (with_reducible exact impl_IsTree.mono _ _)
   | (with_reducible exact impl_PruferOf.mono _ _)
   | (with_reducible exact laws_wLess.mono _ _ _)
   | (with_reducible exact laws_wSame.mono _ _ _)
   | (with_reducible exact laws_wSameLists.mono _ _ _)
   | (with_reducible exact laws_wSum.mono _ _)
   | (with_reducible exact spec_AllTrees.mono _ _)
   | (with_reducible exact spec_CountByInversions.mono _ _)
   | (with_reducible exact spec_CountTrees.mono _ _)
   | (with_reducible exact LeO.refl _)
   | (with_reducible exact LeO.none _)
   | (with_reducible refine LeO.ite ?_ ?_)
   | (with_reducible refine LeO.bind ?_ (fun _ => ?_))
   | exact LeO.none _
   | refine LeO.ite ?_ ?_
   | refine LeO.bind ?_ (fun _ => ?_)
  ·intro y0 y1 y2
   unfold laws_FnTreesListed.j2
   repeat' first
   | (with_reducible exact ih0 _ _ _ _ _)
   | (with_reducible exact ih1 _ _ _ _ _ _ _)
   | (with_reducible exact ih2 _ _ _)
   | (with_reducible exact ih3 _ _)
   | (with_reducible exact ih4 _ _ _ _)
   | (with_reducible exact ih5 _ _ _ _ _ _ _)
   | (with_reducible exact impl_AllTrees.mono _ _)
   | (with_reducible exact impl_CountByDistance.mono _ _)
   | (with_reducible exact impl_CountByInversions.mono _ _)
   | (with_reducible exact impl_CountParking.mono _ _)
   | (with_reducible exact impl_CountTrees.mono _ _)
   | (with_reducible exact impl_IsTree.mono _ _)
   | (with_reducible exact impl_PruferOf.mono _ _)
   | (with_reducible exact laws_wLess.mono _ _ _)
   | (with_reducible exact laws_wSame.mono _ _ _)
   | (with_reducible exact laws_wSameLists.mono _ _ _)
   | (with_reducible exact laws_wSum.mono _ _)
   | (with_reducible exact spec_AllTrees.mono _ _)
   | (with_reducible exact spec_CountByInversions.mono _ _)
   | (with_reducible exact spec_CountTrees.mono _ _)
   | (with_reducible exact LeO.refl _)
   | (with_reducible exact LeO.none _)
   | (with_reducible refine LeO.ite ?_ ?_)
   | (with_reducible refine LeO.bind ?_ (fun _ => ?_))
   | exact LeO.none _
   | refine LeO.ite ?_ ?_
   | refine LeO.bind ?_ (fun _ => ?_)
  ·intro y0 y1
   unfold laws_FnTreesListed.j3
   repeat' first
   | (with_reducible exact ih0 _ _ _ _ _)
   | (with_reducible exact ih1 _ _ _ _ _ _ _)
   | (with_reducible exact ih2 _ _ _)
   | (with_reducible exact ih3 _ _)
   | (with_reducible exact ih4 _ _ _ _)
   | (with_reducible exact ih5 _ _ _ _ _ _ _)
   | (with_reducible exact impl_AllTrees.mono _ _)
   | (with_reducible exact impl_CountByDistance.mono _ _)
   | (with_reducible exact impl_CountByInversions.mono _ _)
   | (with_reducible exact impl_CountParking.mono _ _)
   | (with_reducible exact impl_CountTrees.mono _ _)
   | (with_reducible exact impl_IsTree.mono _ _)
   | (with_reducible exact impl_PruferOf.mono _ _)
   | (with_reducible exact laws_wLess.mono _ _ _)
   | (with_reducible exact laws_wSame.mono _ _ _)
   | (with_reducible exact laws_wSameLists.mono _ _ _)
   | (with_reducible exact laws_wSum.mono _ _)
   | (with_reducible exact spec_AllTrees.mono _ _)
   | (with_reducible exact spec_CountByInversions.mono _ _)
   | (with_reducible exact spec_CountTrees.mono _ _)
   | (with_reducible exact LeO.refl _)
   | (with_reducible exact LeO.none _)
   | (with_reducible refine LeO.ite ?_ ?_)
   | (with_reducible refine LeO.bind ?_ (fun _ => ?_))
   | exact LeO.none _
   | refine LeO.ite ?_ ?_
   | refine LeO.bind ?_ (fun _ => ?_)
  ·intro y0 y1 y2 y3
   unfold laws_FnTreesListed.l0
   repeat' first
   | (with_reducible exact ih0 _ _ _ _ _)
   | (with_reducible exact ih1 _ _ _ _ _ _ _)
   | (with_reducible exact ih2 _ _ _)
   | (with_reducible exact ih3 _ _)
   | (with_reducible exact ih4 _ _ _ _)
   | (with_reducible exact ih5 _ _ _ _ _ _ _)
   | (with_reducible exact impl_AllTrees.mono _ _)
   | (with_reducible exact impl_CountByDistance.mono _ _)
   | (with_reducible exact impl_CountByInversions.mono _ _)
   | (with_reducible exact impl_CountParking.mono _ _)
   | (with_reducible exact impl_CountTrees.mono _ _)
   | (with_reducible exact impl_IsTree.mono _ _)
   | (with_reducible exact impl_PruferOf.mono _ _)
   | (with_reducible exact laws_wLess.mono _ _ _)
   | (with_reducible exact laws_wSame.mono _ _ _)
   | (with_reducible exact laws_wSameLists.mono _ _ _)
   | (with_reducible exact laws_wSum.mono _ _)
   | (with_reducible exact spec_AllTrees.mono _ _)
   | (with_reducible exact spec_CountByInversions.mono _ _)
   | (with_reducible exact spec_CountTrees.mono _ _)
   | (with_reducible exact LeO.refl _)
   | (with_reducible exact LeO.none _)
   | (with_reducible refine LeO.ite ?_ ?_)
   | (with_reducible refine LeO.bind ?_ (fun _ => ?_))
   | exact LeO.none _
   | refine LeO.ite ?_ ?_
   | refine LeO.bind ?_ (fun _ => ?_)
  ·intro y0 y1 y2 y3 y4 y5 y6
   unfold laws_FnTreesListed.j5
   repeat' first
   | (with_reducible exact ih0 _ _ _ _ _)
   | (with_reducible exact ih1 _ _ _ _ _ _ _)
   | (with_reducible exact ih2 _ _ _)
   | (with_reducible exact ih3 _ _)
   | (with_reducible exact ih4 _ _ _ _)
   | (with_reducible exact ih5 _ _ _ _ _ _ _)
   | (with_reducible exact impl_AllTrees.mono _ _)
   | (with_reducible exact impl_CountByDistance.mono _ _)
   | (with_reducible exact impl_CountByInversions.mono _ _)
   | (with_reducible exact impl_CountParking.mono _ _)
   | (with_reducible exact impl_CountTrees.mono _ _)
   | (with_reducible exact impl_IsTree.mono _ _)
   | (with_reducible exact impl_PruferOf.mono _ _)
   | (with_reducible exact laws_wLess.mono _ _ _)
   | (with_reducible exact laws_wSame.mono _ _ _)
   | (with_reducible exact laws_wSameLists.mono _ _ _)
   | (with_reducible exact laws_wSum.mono _ _)
   | (with_reducible exact spec_AllTrees.mono _ _)
   | (with_reducible exact spec_CountByInversions.mono _ _)
   | (with_reducible exact spec_CountTrees.mono _ _)
   | (with_reducible exact LeO.refl _)
   | (with_reducible exact LeO.none _)
   | (with_reducible refine LeO.ite ?_ ?_)
   | (with_reducible refine LeO.bind ?_ (fun _ => ?_))
   | exact LeO.none _
   | refine LeO.ite ?_ ?_
   | refine LeO.bind ?_ (fun _ => ?_)
theorem laws_FnTreesListed.mono : ∀ a0 a1 k, LeO (laws_FnTreesListed.f k a0 a1) (laws_FnTreesListed.f (k + 1) a0 a1) := by
 intro a0 a1 k
 obtain ⟨ih0, ih1, ih2, ih3, ih4, ih5⟩ := laws_FnTreesListed.mono_l k
 unfold laws_FnTreesListed.f
 repeat' first
   | (with_reducible exact ih0 _ _ _ _ _)
   | (with_reducible exact ih1 _ _ _ _ _ _ _)
   | (with_reducible exact ih2 _ _ _)
   | (with_reducible exact ih3 _ _)
   | (with_reducible exact ih4 _ _ _ _)
   | (with_reducible exact ih5 _ _ _ _ _ _ _)
   | (with_reducible exact impl_AllTrees.mono _ _)
   | (with_reducible exact impl_CountByDistance.mono _ _)
   | (with_reducible exact impl_CountByInversions.mono _ _)
   | (with_reducible exact impl_CountParking.mono _ _)
   | (with_reducible exact impl_CountTrees.mono _ _)
   | (with_reducible exact impl_IsTree.mono _ _)
   | (with_reducible exact impl_PruferOf.mono _ _)
   | (with_reducible exact laws_wLess.mono _ _ _)
   | (with_reducible exact laws_wSame.mono _ _ _)
   | (with_reducible exact laws_wSameLists.mono _ _ _)
   | (with_reducible exact laws_wSum.mono _ _)
   | (with_reducible exact spec_AllTrees.mono _ _)
   | (with_reducible exact spec_CountByInversions.mono _ _)
   | (with_reducible exact spec_CountTrees.mono _ _)
   | (with_reducible exact LeO.refl _)
   | (with_reducible exact LeO.none _)
   | (with_reducible refine LeO.ite ?_ ?_)
   | (with_reducible refine LeO.bind ?_ (fun _ => ?_))
   | exact LeO.none _
   | refine LeO.ite ?_ ?_
   | refine LeO.bind ?_ (fun _ => ?_)
set_option maxHeartbeats 8000000 in
set_option maxRecDepth 100000 in
theorem laws_FnTreesListed.calls (k : Nat) (A0 : Option Addr) (c0 : Nat) (l0 : List Int) (A1 : Option Addr) (c1 : Nat) (l1 : List Int) (r : Bool) (w : World) (hr0 : Kd.C (Kd.int .u8) w A0 l0.length l0) (hc0 : l0.length ≤ c0) (hr1 : Kd.C (Kd.int .u8) w A1 l1.length l1) (hc1 : l1.length ≤ c1) (h : laws_FnTreesListed.f k l0 l1 = some r) :
  Calls Try.prog 6 #[.slice A0 l0.length c0, .slice A1 l1.length c1] w fun e w' => e = .returned (.bool r) ∧ Below w.heap.size w w' := by
 have HR0 := Aside0.mk hr0
 have HC0 := Aside0.mk hc0
 clear hr0 hc0
 have HR1 := Aside0.mk hr1
 have HC1 := Aside0.mk hc1
 clear hr1 hc1
 have HB := Aside0.mk (Below.refl w.heap.size w)
 have H : ((laws_big.f l0 l1).bind fun t399 => (if t399 = true then (some true) else ((spec_DrawAllTrees.f l0).bind fun t400 => ((impl_AllTrees.f k t400).bind fun bt401 => ((spec_AllTrees.f k t400).bind fun bt405 => ((impl_CountTrees.f k t400).bind fun bt409 => ((spec_CountTrees.f k t400).bind fun bt411 => (if (bt401.2 != bt405.2) = true then (laws_FnTreesListed.j0 k l1 t400 bt401.1 bt405.2 true) else ((laws_wSameLists.f k bt401.1 bt405.1).bind fun t413 => (if t413 = true then (if (bt409.2 != bt411.2) = true then (laws_FnTreesListed.j0 k l1 t400 bt401.1 bt405.2 true) else (if bt409.1 = bt411.1 then (if bt401.2 = true then (laws_FnTreesListed.j0 k l1 t400 bt401.1 bt405.2 ((bt401.1.length : Int) != bt409.1)) else (laws_FnTreesListed.j0 k l1 t400 bt401.1 bt405.2 false)) else (laws_FnTreesListed.j0 k l1 t400 bt401.1 bt405.2 true))) else (laws_FnTreesListed.j0 k l1 t400 bt401.1 bt405.2 true))))))))))) = some r := h
 clear h
 replace H := Option.bind_eq_some_iff.mp H
 obtain ⟨t399, A30, H⟩ := H
 replace H : (if t399 = true then (some true) else ((spec_DrawAllTrees.f l0).bind fun t400 => ((impl_AllTrees.f k t400).bind fun bt401 => ((spec_AllTrees.f k t400).bind fun bt405 => ((impl_CountTrees.f k t400).bind fun bt409 => ((spec_CountTrees.f k t400).bind fun bt411 => (if (bt401.2 != bt405.2) = true then (laws_FnTreesListed.j0 k l1 t400 bt401.1 bt405.2 true) else ((laws_wSameLists.f k bt401.1 bt405.1).bind fun t413 => (if t413 = true then (if (bt409.2 != bt411.2) = true then (laws_FnTreesListed.j0 k l1 t400 bt401.1 bt405.2 true) else (if bt409.1 = bt411.1 then (if bt401.2 = true then (laws_FnTreesListed.j0 k l1 t400 bt401.1 bt405.2 ((bt401.1.length : Int) != bt409.1)) else (laws_FnTreesListed.j0 k l1 t400 bt401.1 bt405.2 false)) else (laws_FnTreesListed.j0 k l1 t400 bt401.1 bt405.2 true))) else (laws_FnTreesListed.j0 k l1 t400 bt401.1 bt405.2 true)))))))))) = some r := H
 have A3 := Aside0.mk A30
 clear A30
 by_cases c4 : t399 = true
 ·subst c4
  have H1 : (some true) = some r := by rw [if_pos rfl] at H; exact H
  clear H
  have H := H1
  clear H1
  obtain rfl := Option.some.inj H
  go_enter Try.func6, Try.ntmps6
  go_wp2_with (first | ((with_reducible refine gate_callee (f := 7) rfl ?_); refine goesL_ (some 33) rfl rfl Try.func7 (by kernel_rfl) rfl #[.slice A0 l0.length c0, .slice A1 l1.length c1] rfl (by (try simp only [List.map_toArray, List.map_cons, List.map_nil]); first | done | rfl | (simp only [List.length_drop, List.length_take]; rfl)) ?_; (with_reducible refine (laws_big.calls _ _ l0 _ _ l1 true _ ?side1 ?side2 ?side3 ?side4 A3.out).mono ?_); (case side1 => repeat (first | exact HR0.out | (with_reducible refine Kd.C_alloc ?_ _) | (with_reducible refine Kd.C_drewN ?_ _) | (with_reducible refine Kd.C_drew ?_))); (case side2 => exact HC0.out); (case side3 => repeat (first | exact HR1.out | (with_reducible refine Kd.C_alloc ?_ _) | (with_reducible refine Kd.C_drewN ?_ _) | (with_reducible refine Kd.C_drew ?_))); (case side4 => exact HC1.out); rintro e w' ⟨rfl, ⟨nd, rfl⟩⟩; refine ⟨_, rfl, ?_⟩))
  go_ret
  exact ⟨by first | rfl | (simp [errW_none, errW_some] <;> rfl) | (simp [*, errW_none, errW_some] <;> rfl), by repeat (first | (with_reducible first | exact HB.out | apply below_alloc | apply pw_below_drewN | apply below_drew1) | exact HB.out)⟩
 ·as_aux_lemma =>
   replace c4 := Bool.eq_false_iff.mpr c4
   subst c4
   have H1 : ((spec_DrawAllTrees.f l0).bind fun t400 => ((impl_AllTrees.f k t400).bind fun bt401 => ((spec_AllTrees.f k t400).bind fun bt405 => ((impl_CountTrees.f k t400).bind fun bt409 => ((spec_CountTrees.f k t400).bind fun bt411 => (if (bt401.2 != bt405.2) = true then (laws_FnTreesListed.j0 k l1 t400 bt401.1 bt405.2 true) else ((laws_wSameLists.f k bt401.1 bt405.1).bind fun t413 => (if t413 = true then (if (bt409.2 != bt411.2) = true then (laws_FnTreesListed.j0 k l1 t400 bt401.1 bt405.2 true) else (if bt409.1 = bt411.1 then (if bt401.2 = true then (laws_FnTreesListed.j0 k l1 t400 bt401.1 bt405.2 ((bt401.1.length : Int) != bt409.1)) else (laws_FnTreesListed.j0 k l1 t400 bt401.1 bt405.2 false)) else (laws_FnTreesListed.j0 k l1 t400 bt401.1 bt405.2 true))) else (laws_FnTreesListed.j0 k l1 t400 bt401.1 bt405.2 true))))))))) = some r := by rw [if_neg (show ¬ (false = true) by decide)] at H; exact H
   clear H
   have H := H1
   clear H1
   replace H := Option.bind_eq_some_iff.mp H
   obtain ⟨t400, A50, H⟩ := H
   replace H : ((impl_AllTrees.f k t400).bind fun bt401 => ((spec_AllTrees.f k t400).bind fun bt405 => ((impl_CountTrees.f k t400).bind fun bt409 => ((spec_CountTrees.f k t400).bind fun bt411 => (if (bt401.2 != bt405.2) = true then (laws_FnTreesListed.j0 k l1 t400 bt401.1 bt405.2 true) else ((laws_wSameLists.f k bt401.1 bt405.1).bind fun t413 => (if t413 = true then (if (bt409.2 != bt411.2) = true then (laws_FnTreesListed.j0 k l1 t400 bt401.1 bt405.2 true) else (if bt409.1 = bt411.1 then (if bt401.2 = true then (laws_FnTreesListed.j0 k l1 t400 bt401.1 bt405.2 ((bt401.1.length : Int) != bt409.1)) else (laws_FnTreesListed.j0 k l1 t400 bt401.1 bt405.2 false)) else (laws_FnTreesListed.j0 k l1 t400 bt401.1 bt405.2 true))) else (laws_FnTreesListed.j0 k l1 t400 bt401.1 bt405.2 true)))))))) = some r := H
   have A5 := Aside0.mk A50
   clear A50
   replace H := Option.bind_eq_some_iff.mp H
   obtain ⟨⟨t401, t402⟩, A60, H⟩ := H
   replace H : ((spec_AllTrees.f k t400).bind fun bt405 => ((impl_CountTrees.f k t400).bind fun bt409 => ((spec_CountTrees.f k t400).bind fun bt411 => (if (t402 != bt405.2) = true then (laws_FnTreesListed.j0 k l1 t400 t401 bt405.2 true) else ((laws_wSameLists.f k t401 bt405.1).bind fun t413 => (if t413 = true then (if (bt409.2 != bt411.2) = true then (laws_FnTreesListed.j0 k l1 t400 t401 bt405.2 true) else (if bt409.1 = bt411.1 then (if t402 = true then (laws_FnTreesListed.j0 k l1 t400 t401 bt405.2 ((t401.length : Int) != bt409.1)) else (laws_FnTreesListed.j0 k l1 t400 t401 bt405.2 false)) else (laws_FnTreesListed.j0 k l1 t400 t401 bt405.2 true))) else (laws_FnTreesListed.j0 k l1 t400 t401 bt405.2 true))))))) = some r := H
   have A6 := Aside0.mk A60
   clear A60
   replace H := Option.bind_eq_some_iff.mp H
   obtain ⟨⟨t405, t406⟩, A70, H⟩ := H
   replace H : ((impl_CountTrees.f k t400).bind fun bt409 => ((spec_CountTrees.f k t400).bind fun bt411 => (if (t402 != t406) = true then (laws_FnTreesListed.j0 k l1 t400 t401 t406 true) else ((laws_wSameLists.f k t401 t405).bind fun t413 => (if t413 = true then (if (bt409.2 != bt411.2) = true then (laws_FnTreesListed.j0 k l1 t400 t401 t406 true) else (if bt409.1 = bt411.1 then (if t402 = true then (laws_FnTreesListed.j0 k l1 t400 t401 t406 ((t401.length : Int) != bt409.1)) else (laws_FnTreesListed.j0 k l1 t400 t401 t406 false)) else (laws_FnTreesListed.j0 k l1 t400 t401 t406 true))) else (laws_FnTreesListed.j0 k l1 t400 t401 t406 true)))))) = some r := H
   have A7 := Aside0.mk A70
   clear A70
   replace H := Option.bind_eq_some_iff.mp H
   obtain ⟨⟨t409, t410⟩, A80, H⟩ := H
   replace H : ((spec_CountTrees.f k t400).bind fun bt411 => (if (t402 != t406) = true then (laws_FnTreesListed.j0 k l1 t400 t401 t406 true) else ((laws_wSameLists.f k t401 t405).bind fun t413 => (if t413 = true then (if (t410 != bt411.2) = true then (laws_FnTreesListed.j0 k l1 t400 t401 t406 true) else (if t409 = bt411.1 then (if t402 = true then (laws_FnTreesListed.j0 k l1 t400 t401 t406 ((t401.length : Int) != t409)) else (laws_FnTreesListed.j0 k l1 t400 t401 t406 false)) else (laws_FnTreesListed.j0 k l1 t400 t401 t406 true))) else (laws_FnTreesListed.j0 k l1 t400 t401 t406 true))))) = some r := H
   have A8 := Aside0.mk A80
   clear A80
   replace H := Option.bind_eq_some_iff.mp H
   obtain ⟨⟨t411, t412⟩, A90, H⟩ := H
   replace H : (if (t402 != t406) = true then (laws_FnTreesListed.j0 k l1 t400 t401 t406 true) else ((laws_wSameLists.f k t401 t405).bind fun t413 => (if t413 = true then (if (t410 != t412) = true then (laws_FnTreesListed.j0 k l1 t400 t401 t406 true) else (if t409 = t411 then (if t402 = true then (laws_FnTreesListed.j0 k l1 t400 t401 t406 ((t401.length : Int) != t409)) else (laws_FnTreesListed.j0 k l1 t400 t401 t406 false)) else (laws_FnTreesListed.j0 k l1 t400 t401 t406 true))) else (laws_FnTreesListed.j0 k l1 t400 t401 t406 true)))) = some r := H
   have A9 := Aside0.mk A90
   clear A90
   have HC10 := Aside0.mk H
   clear H
   go_enter Try.func6, Try.ntmps6
   go_upto_region 8 with (first | ((with_reducible refine gate_callee (f := 7) rfl ?_); refine goesL_ (some 33) rfl rfl Try.func7 (by kernel_rfl) rfl #[.slice A0 l0.length c0, .slice A1 l1.length c1] rfl (by (try simp only [List.map_toArray, List.map_cons, List.map_nil]); first | done | rfl | (simp only [List.length_drop, List.length_take]; rfl)) ?_; (with_reducible refine (laws_big.calls _ _ l0 _ _ l1 false _ ?side1 ?side2 ?side3 ?side4 A3.out).mono ?_); (case side1 => repeat (first | exact HR0.out | (with_reducible refine Kd.C_alloc ?_ _) | (with_reducible refine Kd.C_drewN ?_ _) | (with_reducible refine Kd.C_drew ?_))); (case side2 => exact HC0.out); (case side3 => repeat (first | exact HR1.out | (with_reducible refine Kd.C_alloc ?_ _) | (with_reducible refine Kd.C_drewN ?_ _) | (with_reducible refine Kd.C_drew ?_))); (case side4 => exact HC1.out); rintro e w' ⟨rfl, ⟨nd, rfl⟩⟩; refine ⟨_, rfl, ?_⟩) | ((with_reducible refine gate_callee (f := 45) rfl ?_); refine goesL_ (some 35) rfl rfl Try.func45 (by kernel_rfl) rfl #[.slice A0 l0.length c0] rfl (by (try simp only [List.map_toArray, List.map_cons, List.map_nil]); first | done | rfl | (simp only [List.length_drop, List.length_take]; rfl)) ?_; (with_reducible refine (spec_DrawAllTrees.calls _ _ l0 t400 _ ?side1 ?side2 A5.out).mono ?_); (case side1 => repeat (first | exact HR0.out | (with_reducible refine Kd.C_alloc ?_ _) | (with_reducible refine Kd.C_drewN ?_ _) | (with_reducible refine Kd.C_drew ?_))); (case side2 => exact HC0.out); rintro e w11 ⟨rfl, hb⟩; refine ⟨_, rfl, ?_⟩; have n0_ := Aside0.mk (below_step (by repeat (first | (with_reducible first | exact HB.out | apply below_alloc | apply pw_below_drewN | apply below_drew1) | exact HB.out)) hb); clear HB; have HB := n0_; clear n0_; (try clear hb); (try clear hb2); (try clear hk); (try clear hi)) | ((with_reducible refine gate_callee (f := 46) rfl ?_); refine goesL_ (some 38) rfl rfl Try.func46 (by kernel_rfl) rfl #[.int .i64 t400] rfl (by (try simp only [List.map_toArray, List.map_cons, List.map_nil]); first | done | rfl | (simp only [List.length_drop, List.length_take]; rfl)) ?_; (with_reducible refine (impl_AllTrees.calls k t400 t401 t402 _ A6.out).mono ?_); rintro e w12 ⟨v403, rfl, ho0, hb⟩; refine ⟨_, rfl, ?_⟩; have n0_ := Aside0.mk (Kd.S_lower ho0 (below_size (by repeat (first | (with_reducible first | exact HB.out | apply below_alloc | apply pw_below_drewN | apply below_drew1) | exact HB.out)))); have n1_ := Aside0.mk (below_step (by repeat (first | (with_reducible first | exact HB.out | apply below_alloc | apply pw_below_drewN | apply below_drew1) | exact HB.out)) hb); clear HB; have HO404 := n0_; have HB := n1_; clear n0_ n1_; (try clear hb); (try clear hb2); (try clear hk); (try clear hi); (try clear ho0)) | ((with_reducible refine gate_callee (f := 47) rfl ?_); refine goesL_ (some 43) rfl rfl Try.func47 (by kernel_rfl) rfl #[.int .i64 t400] rfl (by (try simp only [List.map_toArray, List.map_cons, List.map_nil]); first | done | rfl | (simp only [List.length_drop, List.length_take]; rfl)) ?_; (with_reducible refine (spec_AllTrees.calls k t400 t405 t406 _ A7.out).mono ?_); rintro e w13 ⟨v407, rfl, ho0, hb⟩; refine ⟨_, rfl, ?_⟩; have n0_ := Aside0.mk (Kd.S_elder' (by (with_reducible repeat (first | apply Kd.S_alloc | apply Kd.S_drewN | apply Kd.S_drew)); exact HO404.out) (Kd.S_base ho0) hb); have n1_ := Aside0.mk (Kd.S_lower (Kd.S_new' ho0 (Kd.S_lt (by (with_reducible repeat (first | apply Kd.S_alloc | apply Kd.S_drewN | apply Kd.S_drew)); exact HO404.out))) (below_size (by repeat (first | (with_reducible first | exact HB.out | apply below_alloc | apply pw_below_drewN | apply below_drew1) | exact HB.out)))); have n2_ := Aside0.mk (below_step (by repeat (first | (with_reducible first | exact HB.out | apply below_alloc | apply pw_below_drewN | apply below_drew1) | exact HB.out)) hb); clear HO404; clear HB; have HO404 := n0_; have HO408 := n1_; have HB := n2_; clear n0_ n1_ n2_; (try clear hb); (try clear hb2); (try clear hk); (try clear hi); (try clear ho0)) | ((with_reducible refine gate_callee (f := 48) rfl ?_); refine goesL_ (some 48) rfl rfl Try.func48 (by kernel_rfl) rfl #[.int .i64 t400] rfl (by (try simp only [List.map_toArray, List.map_cons, List.map_nil]); first | done | rfl | (simp only [List.length_drop, List.length_take]; rfl)) ?_; (with_reducible refine (impl_CountTrees.calls k t400 t409 t410 _ A8.out).mono ?_); rintro e w14 ⟨rfl, hb⟩; refine ⟨_, rfl, ?_⟩; have n0_ := Aside0.mk (Kd.S_below (by (with_reducible repeat (first | apply Kd.S_alloc | apply Kd.S_drewN | apply Kd.S_drew)); exact HO404.out) hb); have n1_ := Aside0.mk (Kd.S_below (by (with_reducible repeat (first | apply Kd.S_alloc | apply Kd.S_drewN | apply Kd.S_drew)); exact HO408.out) hb); have n2_ := Aside0.mk (below_step (by repeat (first | (with_reducible first | exact HB.out | apply below_alloc | apply pw_below_drewN | apply below_drew1) | exact HB.out)) hb); clear HO404; clear HO408; clear HB; have HO404 := n0_; have HO408 := n1_; have HB := n2_; clear n0_ n1_ n2_; (try clear hb); (try clear hb2); (try clear hk); (try clear hi)) | ((with_reducible refine gate_callee (f := 49) rfl ?_); refine goesL_ (some 53) rfl rfl Try.func49 (by kernel_rfl) rfl #[.int .i64 t400] rfl (by (try simp only [List.map_toArray, List.map_cons, List.map_nil]); first | done | rfl | (simp only [List.length_drop, List.length_take]; rfl)) ?_; (with_reducible refine (spec_CountTrees.calls k t400 t411 t412 _ A9.out).mono ?_); rintro e w' ⟨rfl, ⟨nd, rfl⟩⟩; refine ⟨_, rfl, ?_⟩))
   (try simp only [Act.put, List.setIfInBounds_toArray, List.set_cons_zero, List.set_cons_succ])
   go_cut [83] (fun v83 wc => ∃ (kq : Nat) (x83_9 : Bool), v83 = .bool x83_9 ∧ Aside0 (laws_FnTreesListed.j0 kq l1 t400 t401 t406 x83_9 = some r) ∧ Aside0 (kq ≤ k) ∧ Aside0 (Kd.S (Kd.slice 3 (Kd.int .i64)) 24 wc w.heap.size (fun _ => True) v403 t401) ∧ Aside0 (Below w.heap.size w wc))
   case first =>
    have H := HC10.out
    clear HC10
    by_cases c15 : (t402 != t406) = true
    ·rw [if_pos c15] at H
     have c15b0 : (t402 != t406) = true := c15
     (try (have c15b1 : decide (t402 = t406) = false := by simpa using c15))
     (try (have c15b2 : (t402 == t406) = false := by simpa using c15))
     (try (have c15b3 : ¬ (t402 = t406) := by simpa using c15))
     clear c15
     (first | rw [c15b0] | (simp only [i64_w, i32_w]; rw [c15b0]) | rw [c15b1] | skip)
     have H' := Aside0.mk H
     clear H
     go_wp2
     go_meet
     case rel => exact ⟨_, (true), (by first | rfl | (simp; done) | (simp [*]; done)), H', ⟨by first | omega | exact Nat.le_refl _⟩, ⟨by (with_reducible repeat (first | apply Kd.S_alloc | apply Kd.S_drewN | apply Kd.S_drew)); exact Kd.S_mono HO404.out (fun _ hk => trivial)⟩, ⟨by repeat (first | (with_reducible first | exact HB.out | apply below_alloc | apply pw_below_drewN | apply below_drew1) | exact HB.out)⟩⟩
    ·rw [if_neg c15] at H
     have c15b0 : (t402 != t406) = false := by simpa using c15
     (try (have c15b1 : decide (t402 = t406) = true := by simpa using c15))
     (try (have c15b2 : (t402 == t406) = true := by simpa using c15))
     clear c15
     (first | rw [c15b0] | (simp only [i64_w, i32_w]; rw [c15b0]) | rw [c15b1] | skip)
     replace H := Option.bind_eq_some_iff.mp H
     obtain ⟨t413, A160, H⟩ := H
     replace H : (if t413 = true then (if (t410 != t412) = true then (laws_FnTreesListed.j0 k l1 t400 t401 t406 true) else (if t409 = t411 then (if t402 = true then (laws_FnTreesListed.j0 k l1 t400 t401 t406 ((t401.length : Int) != t409)) else (laws_FnTreesListed.j0 k l1 t400 t401 t406 false)) else (laws_FnTreesListed.j0 k l1 t400 t401 t406 true))) else (laws_FnTreesListed.j0 k l1 t400 t401 t406 true)) = some r := H
     have A16 := Aside0.mk A160
     clear A160
     by_cases c17 : t413 = true
     ·subst c17
      have H1 : (if (t410 != t412) = true then (laws_FnTreesListed.j0 k l1 t400 t401 t406 true) else (if t409 = t411 then (if t402 = true then (laws_FnTreesListed.j0 k l1 t400 t401 t406 ((t401.length : Int) != t409)) else (laws_FnTreesListed.j0 k l1 t400 t401 t406 false)) else (laws_FnTreesListed.j0 k l1 t400 t401 t406 true))) = some r := by rw [if_pos rfl] at H; exact H
      clear H
      have H := H1
      clear H1
      by_cases c18 : (t410 != t412) = true
      ·rw [if_pos c18] at H
       have c18b0 : (t410 != t412) = true := c18
       (try (have c18b1 : decide (t410 = t412) = false := by simpa using c18))
       (try (have c18b2 : (t410 == t412) = false := by simpa using c18))
       (try (have c18b3 : ¬ (t410 = t412) := by simpa using c18))
       clear c18
       have H' := Aside0.mk H
       clear H
       obtain ⟨Ao19, co19, eo19⟩ := Kd.S_slice HO404.out
       subst eo19
       obtain ⟨Ao20, co20, eo20⟩ := Kd.S_slice HO408.out
       subst eo20
       go_wp2_with (first | (go_at_call 14; (with_reducible refine (laws_wSameLists.calls k _ _ t401 _ _ t405 true _ ?side1 ?side2 ?side3 ?side4 A16.out).mono ?_); (case side1 => repeat (first | exact (Kd.S_reads' HO404.out).2.2 | (with_reducible refine Kd.C_alloc ?_ _) | (with_reducible refine Kd.C_drewN ?_ _) | (with_reducible refine Kd.C_drew ?_))); (case side2 => exact (Kd.S_reads' HO404.out).2.1); (case side3 => repeat (first | exact (Kd.S_reads' HO408.out).2.2 | (with_reducible refine Kd.C_alloc ?_ _) | (with_reducible refine Kd.C_drewN ?_ _) | (with_reducible refine Kd.C_drew ?_))); (case side4 => exact (Kd.S_reads' HO408.out).2.1); rintro e w' ⟨rfl, ⟨nd, rfl⟩⟩))
       go_meet
       case rel => exact ⟨_, (true), (by first | rfl | (simp; done) | (simp [*]; done)), H', ⟨by first | omega | exact Nat.le_refl _⟩, ⟨by (with_reducible repeat (first | apply Kd.S_alloc | apply Kd.S_drewN | apply Kd.S_drew)); exact Kd.S_mono HO404.out (fun _ hk => trivial)⟩, ⟨by repeat (first | (with_reducible first | exact HB.out | apply below_alloc | apply pw_below_drewN | apply below_drew1) | exact HB.out)⟩⟩
      ·rw [if_neg c18] at H
       have c18b0 : (t410 != t412) = false := by simpa using c18
       (try (have c18b1 : decide (t410 = t412) = true := by simpa using c18))
       (try (have c18b2 : (t410 == t412) = true := by simpa using c18))
       clear c18
       by_cases c21 : t409 = t411
       ·rw [if_pos c21] at H
        have c21b0 : (t409 == t411) = true := beq_iff_eq.mpr c21
        have c21b1 : (t409 != t411) = false := bne_eq_false_iff_eq.mpr c21
        clear c21
        by_cases c22 : t402 = true
        ·subst c22
         have H1 : (laws_FnTreesListed.j0 k l1 t400 t401 t406 ((t401.length : Int) != t409)) = some r := by rw [if_pos rfl] at H; exact H
         clear H
         have H := H1
         clear H1
         have H' := Aside0.mk H
         clear H
         obtain ⟨Ao23, co23, eo23⟩ := Kd.S_slice HO404.out
         subst eo23
         obtain ⟨Ao24, co24, eo24⟩ := Kd.S_slice HO408.out
         subst eo24
         go_wp2_with (first | (go_at_call 14; (with_reducible refine (laws_wSameLists.calls k _ _ t401 _ _ t405 true _ ?side1 ?side2 ?side3 ?side4 A16.out).mono ?_); (case side1 => repeat (first | exact (Kd.S_reads' HO404.out).2.2 | (with_reducible refine Kd.C_alloc ?_ _) | (with_reducible refine Kd.C_drewN ?_ _) | (with_reducible refine Kd.C_drew ?_))); (case side2 => exact (Kd.S_reads' HO404.out).2.1); (case side3 => repeat (first | exact (Kd.S_reads' HO408.out).2.2 | (with_reducible refine Kd.C_alloc ?_ _) | (with_reducible refine Kd.C_drewN ?_ _) | (with_reducible refine Kd.C_drew ?_))); (case side4 => exact (Kd.S_reads' HO408.out).2.1); rintro e w' ⟨rfl, ⟨nd, rfl⟩⟩))
         go_meet
         case rel => exact ⟨_, (((t401.length : Int) != t409)), (by first | rfl | (simp; done) | (simp [*]; done)), H', ⟨by first | omega | exact Nat.le_refl _⟩, ⟨by (with_reducible repeat (first | apply Kd.S_alloc | apply Kd.S_drewN | apply Kd.S_drew)); exact Kd.S_mono HO404.out (fun _ hk => trivial)⟩, ⟨by repeat (first | (with_reducible first | exact HB.out | apply below_alloc | apply pw_below_drewN | apply below_drew1) | exact HB.out)⟩⟩
        ·replace c22 := Bool.eq_false_iff.mpr c22
         subst c22
         have H1 : (laws_FnTreesListed.j0 k l1 t400 t401 t406 false) = some r := by rw [if_neg (show ¬ (false = true) by decide)] at H; exact H
         clear H
         have H := H1
         clear H1
         have H' := Aside0.mk H
         clear H
         obtain ⟨Ao25, co25, eo25⟩ := Kd.S_slice HO404.out
         subst eo25
         obtain ⟨Ao26, co26, eo26⟩ := Kd.S_slice HO408.out
         subst eo26
         go_wp2_with (first | (go_at_call 14; (with_reducible refine (laws_wSameLists.calls k _ _ t401 _ _ t405 true _ ?side1 ?side2 ?side3 ?side4 A16.out).mono ?_); (case side1 => repeat (first | exact (Kd.S_reads' HO404.out).2.2 | (with_reducible refine Kd.C_alloc ?_ _) | (with_reducible refine Kd.C_drewN ?_ _) | (with_reducible refine Kd.C_drew ?_))); (case side2 => exact (Kd.S_reads' HO404.out).2.1); (case side3 => repeat (first | exact (Kd.S_reads' HO408.out).2.2 | (with_reducible refine Kd.C_alloc ?_ _) | (with_reducible refine Kd.C_drewN ?_ _) | (with_reducible refine Kd.C_drew ?_))); (case side4 => exact (Kd.S_reads' HO408.out).2.1); rintro e w' ⟨rfl, ⟨nd, rfl⟩⟩))
         go_meet
         case rel => exact ⟨_, (false), (by first | rfl | (simp; done) | (simp [*]; done)), H', ⟨by first | omega | exact Nat.le_refl _⟩, ⟨by (with_reducible repeat (first | apply Kd.S_alloc | apply Kd.S_drewN | apply Kd.S_drew)); exact Kd.S_mono HO404.out (fun _ hk => trivial)⟩, ⟨by repeat (first | (with_reducible first | exact HB.out | apply below_alloc | apply pw_below_drewN | apply below_drew1) | exact HB.out)⟩⟩
       ·rw [if_neg c21] at H
        have c21b0 : (t409 == t411) = false := beq_eq_false_iff_ne.mpr c21
        have c21b1 : (t409 != t411) = true := bne_iff_ne.mpr c21
        have H' := Aside0.mk H
        clear H
        obtain ⟨Ao27, co27, eo27⟩ := Kd.S_slice HO404.out
        subst eo27
        obtain ⟨Ao28, co28, eo28⟩ := Kd.S_slice HO408.out
        subst eo28
        go_wp2_with (first | (go_at_call 14; (with_reducible refine (laws_wSameLists.calls k _ _ t401 _ _ t405 true _ ?side1 ?side2 ?side3 ?side4 A16.out).mono ?_); (case side1 => repeat (first | exact (Kd.S_reads' HO404.out).2.2 | (with_reducible refine Kd.C_alloc ?_ _) | (with_reducible refine Kd.C_drewN ?_ _) | (with_reducible refine Kd.C_drew ?_))); (case side2 => exact (Kd.S_reads' HO404.out).2.1); (case side3 => repeat (first | exact (Kd.S_reads' HO408.out).2.2 | (with_reducible refine Kd.C_alloc ?_ _) | (with_reducible refine Kd.C_drewN ?_ _) | (with_reducible refine Kd.C_drew ?_))); (case side4 => exact (Kd.S_reads' HO408.out).2.1); rintro e w' ⟨rfl, ⟨nd, rfl⟩⟩))
        go_meet
        case rel => exact ⟨_, (true), (by first | rfl | (simp; done) | (simp [*]; done)), H', ⟨by first | omega | exact Nat.le_refl _⟩, ⟨by (with_reducible repeat (first | apply Kd.S_alloc | apply Kd.S_drewN | apply Kd.S_drew)); exact Kd.S_mono HO404.out (fun _ hk => trivial)⟩, ⟨by repeat (first | (with_reducible first | exact HB.out | apply below_alloc | apply pw_below_drewN | apply below_drew1) | exact HB.out)⟩⟩
     ·replace c17 := Bool.eq_false_iff.mpr c17
      subst c17
      have H1 : (laws_FnTreesListed.j0 k l1 t400 t401 t406 true) = some r := by rw [if_neg (show ¬ (false = true) by decide)] at H; exact H
      clear H
      have H := H1
      clear H1
      have H' := Aside0.mk H
      clear H
      obtain ⟨Ao29, co29, eo29⟩ := Kd.S_slice HO404.out
      subst eo29
      obtain ⟨Ao30, co30, eo30⟩ := Kd.S_slice HO408.out
      subst eo30
      go_wp2_with (first | (go_at_call 14; (with_reducible refine (laws_wSameLists.calls k _ _ t401 _ _ t405 false _ ?side1 ?side2 ?side3 ?side4 A16.out).mono ?_); (case side1 => repeat (first | exact (Kd.S_reads' HO404.out).2.2 | (with_reducible refine Kd.C_alloc ?_ _) | (with_reducible refine Kd.C_drewN ?_ _) | (with_reducible refine Kd.C_drew ?_))); (case side2 => exact (Kd.S_reads' HO404.out).2.1); (case side3 => repeat (first | exact (Kd.S_reads' HO408.out).2.2 | (with_reducible refine Kd.C_alloc ?_ _) | (with_reducible refine Kd.C_drewN ?_ _) | (with_reducible refine Kd.C_drew ?_))); (case side4 => exact (Kd.S_reads' HO408.out).2.1); rintro e w' ⟨rfl, ⟨nd, rfl⟩⟩))
      go_meet
      case rel => exact ⟨_, (true), (by first | rfl | (simp; done) | (simp [*]; done)), H', ⟨by first | omega | exact Nat.le_refl _⟩, ⟨by (with_reducible repeat (first | apply Kd.S_alloc | apply Kd.S_drewN | apply Kd.S_drew)); exact Kd.S_mono HO404.out (fun _ hk => trivial)⟩, ⟨by repeat (first | (with_reducible first | exact HB.out | apply below_alloc | apply pw_below_drewN | apply below_drew1) | exact HB.out)⟩⟩
   case rest =>
    clear HC10
    try clear c1
    try clear c2
    try clear p2
    try clear c4
    try clear c6
    try clear c7
    try clear c15
    try clear c15b0
    try clear c15b1
    try clear c15b2
    try clear c17
    try clear c18
    try clear c18b0
    try clear c18b1
    try clear c18b2
    try clear c21
    try clear c21b0
    try clear c21b1
    try clear c22
    obtain ⟨kq, x83_9, rfl, HA, HJ9, HO_6, HB⟩ := hcut
    cases kq with
    | zero => exact absurd HA.out (by simp [laws_FnTreesListed.j0])
    | succ kj9 =>
     have H := HA.out
     clear HA
     simp only [laws_FnTreesListed.j0] at H
     by_cases c31 : x83_9 = true
     ·subst c31
      have H1 : (some false) = some r := by rw [if_pos rfl] at H; exact H
      clear H
      have H := H1
      clear H1
      obtain rfl := Option.some.inj H
      go_wp2
      go_ret
      exact ⟨by first | rfl | (simp [errW_none, errW_some] <;> rfl) | (simp [*, errW_none, errW_some] <;> rfl), by repeat (first | (with_reducible first | exact HB.out | apply below_alloc | apply pw_below_drewN | apply below_drew1) | exact HB.out)⟩
     ·as_aux_lemma =>
       replace c31 := Bool.eq_false_iff.mpr c31
       subst c31
       have H1 : ((spec_DrawCountByInversions.f l1).bind fun t414 => ((impl_CountByInversions.f kj9 t414).bind fun bt415 => ((spec_CountByInversions.f kj9 t414).bind fun bt419 => ((impl_CountByDistance.f kj9 t414).bind fun bt423 => (if (bt415.2 != bt419.2) = true then (laws_FnTreesListed.j1 kj9 t400 t401 t406 t414 bt415.1 bt415.2 true) else ((laws_wSame.f kj9 bt415.1 bt419.1).bind fun t427 => (if t427 = true then (if (bt415.2 != bt423.2) = true then (laws_FnTreesListed.j1 kj9 t400 t401 t406 t414 bt415.1 bt415.2 true) else ((laws_wSame.f kj9 bt415.1 bt423.1).bind fun t428 => (laws_FnTreesListed.j1 kj9 t400 t401 t406 t414 bt415.1 bt415.2 (!t428)))) else (laws_FnTreesListed.j1 kj9 t400 t401 t406 t414 bt415.1 bt415.2 true)))))))) = some r := by rw [if_neg (show ¬ (false = true) by decide)] at H; exact H
       clear H
       have H := H1
       clear H1
       replace H := Option.bind_eq_some_iff.mp H
       obtain ⟨t414, A320, H⟩ := H
       replace H : ((impl_CountByInversions.f kj9 t414).bind fun bt415 => ((spec_CountByInversions.f kj9 t414).bind fun bt419 => ((impl_CountByDistance.f kj9 t414).bind fun bt423 => (if (bt415.2 != bt419.2) = true then (laws_FnTreesListed.j1 kj9 t400 t401 t406 t414 bt415.1 bt415.2 true) else ((laws_wSame.f kj9 bt415.1 bt419.1).bind fun t427 => (if t427 = true then (if (bt415.2 != bt423.2) = true then (laws_FnTreesListed.j1 kj9 t400 t401 t406 t414 bt415.1 bt415.2 true) else ((laws_wSame.f kj9 bt415.1 bt423.1).bind fun t428 => (laws_FnTreesListed.j1 kj9 t400 t401 t406 t414 bt415.1 bt415.2 (!t428)))) else (laws_FnTreesListed.j1 kj9 t400 t401 t406 t414 bt415.1 bt415.2 true))))))) = some r := H
       have A32 := Aside0.mk A320
       clear A320
       replace H := Option.bind_eq_some_iff.mp H
       obtain ⟨⟨t415, t416⟩, A330, H⟩ := H
       replace H : ((spec_CountByInversions.f kj9 t414).bind fun bt419 => ((impl_CountByDistance.f kj9 t414).bind fun bt423 => (if (t416 != bt419.2) = true then (laws_FnTreesListed.j1 kj9 t400 t401 t406 t414 t415 t416 true) else ((laws_wSame.f kj9 t415 bt419.1).bind fun t427 => (if t427 = true then (if (t416 != bt423.2) = true then (laws_FnTreesListed.j1 kj9 t400 t401 t406 t414 t415 t416 true) else ((laws_wSame.f kj9 t415 bt423.1).bind fun t428 => (laws_FnTreesListed.j1 kj9 t400 t401 t406 t414 t415 t416 (!t428)))) else (laws_FnTreesListed.j1 kj9 t400 t401 t406 t414 t415 t416 true)))))) = some r := H
       have A33 := Aside0.mk A330
       clear A330
       replace H := Option.bind_eq_some_iff.mp H
       obtain ⟨⟨t419, t420⟩, A340, H⟩ := H
       replace H : ((impl_CountByDistance.f kj9 t414).bind fun bt423 => (if (t416 != t420) = true then (laws_FnTreesListed.j1 kj9 t400 t401 t406 t414 t415 t416 true) else ((laws_wSame.f kj9 t415 t419).bind fun t427 => (if t427 = true then (if (t416 != bt423.2) = true then (laws_FnTreesListed.j1 kj9 t400 t401 t406 t414 t415 t416 true) else ((laws_wSame.f kj9 t415 bt423.1).bind fun t428 => (laws_FnTreesListed.j1 kj9 t400 t401 t406 t414 t415 t416 (!t428)))) else (laws_FnTreesListed.j1 kj9 t400 t401 t406 t414 t415 t416 true))))) = some r := H
       have A34 := Aside0.mk A340
       clear A340
       replace H := Option.bind_eq_some_iff.mp H
       obtain ⟨⟨t423, t424⟩, A350, H⟩ := H
       replace H : (if (t416 != t420) = true then (laws_FnTreesListed.j1 kj9 t400 t401 t406 t414 t415 t416 true) else ((laws_wSame.f kj9 t415 t419).bind fun t427 => (if t427 = true then (if (t416 != t424) = true then (laws_FnTreesListed.j1 kj9 t400 t401 t406 t414 t415 t416 true) else ((laws_wSame.f kj9 t415 t423).bind fun t428 => (laws_FnTreesListed.j1 kj9 t400 t401 t406 t414 t415 t416 (!t428)))) else (laws_FnTreesListed.j1 kj9 t400 t401 t406 t414 t415 t416 true)))) = some r := H
       have A35 := Aside0.mk A350
       clear A350
       have HC36 := Aside0.mk H
       clear H
       go_upto_region 14 with (first | ((with_reducible refine gate_callee (f := 50) rfl ?_); refine goesL_ (some 85) rfl rfl Try.func50 (by kernel_rfl) rfl #[.slice A1 l1.length c1] rfl (by (try simp only [List.map_toArray, List.map_cons, List.map_nil]); first | done | rfl | (simp only [List.length_drop, List.length_take]; rfl)) ?_; (with_reducible refine (spec_DrawCountByInversions.calls _ _ l1 t414 _ ?side1 ?side2 A32.out).mono ?_); (case side1 => repeat (first | exact (Kd.C_below HR1.out HB.out) | (with_reducible refine Kd.C_alloc ?_ _) | (with_reducible refine Kd.C_drewN ?_ _) | (with_reducible refine Kd.C_drew ?_))); (case side2 => exact HC1.out); rintro e w37 ⟨rfl, hb⟩; refine ⟨_, rfl, ?_⟩; have n0_ := Aside0.mk (Kd.S_below (by (with_reducible repeat (first | apply Kd.S_alloc | apply Kd.S_drewN | apply Kd.S_drew)); exact HO_6.out) hb); have n1_ := Aside0.mk (below_step (by repeat (first | (with_reducible first | exact HB.out | apply below_alloc | apply pw_below_drewN | apply below_drew1) | exact HB.out)) hb); clear HO_6; clear HB; have HO_6 := n0_; have HB := n1_; clear n0_ n1_; (try clear hb); (try clear hb2); (try clear hk); (try clear hi)) | ((with_reducible refine gate_callee (f := 51) rfl ?_); refine goesL_ (some 88) rfl rfl Try.func51 (by kernel_rfl) rfl #[.int .i64 t414] rfl (by (try simp only [List.map_toArray, List.map_cons, List.map_nil]); first | done | rfl | (simp only [List.length_drop, List.length_take]; rfl)) ?_; (with_reducible refine (impl_CountByInversions.calls kj9 t414 t415 t416 _ A33.out).mono ?_); rintro e w38 ⟨v417, rfl, ho0, hb⟩; refine ⟨_, rfl, ?_⟩; have n0_ := Aside0.mk (Kd.S_elder' (by (with_reducible repeat (first | apply Kd.S_alloc | apply Kd.S_drewN | apply Kd.S_drew)); exact HO_6.out) (Kd.R_base ho0) hb); have n1_ := Aside0.mk (Kd.R_lower ho0 (below_size (by repeat (first | (with_reducible first | exact HB.out | apply below_alloc | apply pw_below_drewN | apply below_drew1) | exact HB.out)))); have n2_ := Aside0.mk (below_step (by repeat (first | (with_reducible first | exact HB.out | apply below_alloc | apply pw_below_drewN | apply below_drew1) | exact HB.out)) hb); clear HO_6; clear HB; have HO_6 := n0_; have HO418 := n1_; have HB := n2_; clear n0_ n1_ n2_; (try clear hb); (try clear hb2); (try clear hk); (try clear hi); (try clear ho0)) | ((with_reducible refine gate_callee (f := 52) rfl ?_); refine goesL_ (some 93) rfl rfl Try.func52 (by kernel_rfl) rfl #[.int .i64 t414] rfl (by (try simp only [List.map_toArray, List.map_cons, List.map_nil]); first | done | rfl | (simp only [List.length_drop, List.length_take]; rfl)) ?_; (with_reducible refine (spec_CountByInversions.calls kj9 t414 t419 t420 _ A34.out).mono ?_); rintro e w39 ⟨v421, rfl, ho0, hb⟩; refine ⟨_, rfl, ?_⟩; have n0_ := Aside0.mk (Kd.S_elder' (by (with_reducible repeat (first | apply Kd.S_alloc | apply Kd.S_drewN | apply Kd.S_drew)); exact HO_6.out) (Kd.R_base ho0) hb); have n1_ := Aside0.mk (Kd.R_elder' (by (with_reducible repeat (first | apply Kd.R_alloc | apply Kd.R_drewN | apply Kd.R_drew)); exact HO418.out) (Kd.R_base ho0) hb); have n2_ := Aside0.mk (Kd.R_lower (Kd.R_new' ho0 (Kd.R_lt (by (with_reducible repeat (first | apply Kd.R_alloc | apply Kd.R_drewN | apply Kd.R_drew)); exact HO418.out))) (below_size (by repeat (first | (with_reducible first | exact HB.out | apply below_alloc | apply pw_below_drewN | apply below_drew1) | exact HB.out)))); have n3_ := Aside0.mk (below_step (by repeat (first | (with_reducible first | exact HB.out | apply below_alloc | apply pw_below_drewN | apply below_drew1) | exact HB.out)) hb); clear HO_6; clear HO418; clear HB; have HO_6 := n0_; have HO418 := n1_; have HO422 := n2_; have HB := n3_; clear n0_ n1_ n2_ n3_; (try clear hb); (try clear hb2); (try clear hk); (try clear hi); (try clear ho0)) | ((with_reducible refine gate_callee (f := 30) rfl ?_); refine goesL_ (some 98) rfl rfl Try.func30 (by kernel_rfl) rfl #[.int .i64 t414] rfl (by (try simp only [List.map_toArray, List.map_cons, List.map_nil]); first | done | rfl | (simp only [List.length_drop, List.length_take]; rfl)) ?_; (with_reducible refine (impl_CountByDistance.calls kj9 t414 t423 t424 _ A35.out).mono ?_); rintro e w40 ⟨v425, rfl, ho0, hb⟩; refine ⟨_, rfl, ?_⟩; have n0_ := Aside0.mk (Kd.S_elder' (by (with_reducible repeat (first | apply Kd.S_alloc | apply Kd.S_drewN | apply Kd.S_drew)); exact HO_6.out) (Kd.R_base ho0) hb); have n1_ := Aside0.mk (Kd.R_elder' (by (with_reducible repeat (first | apply Kd.R_alloc | apply Kd.R_drewN | apply Kd.R_drew)); exact HO418.out) (Kd.R_base ho0) hb); have n2_ := Aside0.mk (Kd.R_elder' (by (with_reducible repeat (first | apply Kd.R_alloc | apply Kd.R_drewN | apply Kd.R_drew)); exact HO422.out) (Kd.R_base ho0) hb); have n3_ := Aside0.mk (Kd.R_lower (Kd.R_new' (Kd.R_new' ho0 (Kd.R_lt (by (with_reducible repeat (first | apply Kd.R_alloc | apply Kd.R_drewN | apply Kd.R_drew)); exact HO418.out))) (Kd.R_lt (by (with_reducible repeat (first | apply Kd.R_alloc | apply Kd.R_drewN | apply Kd.R_drew)); exact HO422.out))) (below_size (by repeat (first | (with_reducible first | exact HB.out | apply below_alloc | apply pw_below_drewN | apply below_drew1) | exact HB.out)))); have n4_ := Aside0.mk (below_step (by repeat (first | (with_reducible first | exact HB.out | apply below_alloc | apply pw_below_drewN | apply below_drew1) | exact HB.out)) hb); clear HO_6; clear HO418; clear HO422; clear HB; have HO_6 := n0_; have HO418 := n1_; have HO422 := n2_; have HO426 := n3_; have HB := n4_; clear n0_ n1_ n2_ n3_ n4_; (try clear hb); (try clear hb2); (try clear hk); (try clear hi); (try clear ho0)))
       (try simp only [Act.put, List.setIfInBounds_toArray, List.set_cons_zero, List.set_cons_succ])
       go_cut [120] (fun v120 wc => ∃ (kq : Nat) (x120_35 : Bool), v120 = .bool x120_35 ∧ Aside0 (laws_FnTreesListed.j1 kq t400 t401 t406 t414 t415 t416 x120_35 = some r) ∧ Aside0 (kq ≤ kj9) ∧ Aside0 (Kd.S (Kd.slice 3 (Kd.int .i64)) 24 wc w.heap.size (fun k_ => some k_ ≠ (v417 : Value).ownBlock) v403 t401) ∧ Aside0 (Kd.R (Kd.int .i64) 3 wc w.heap.size (fun _ => True) v417 t415) ∧ Aside0 (Below w.heap.size w wc))
       case first =>
        have H := HC36.out
        clear HC36
        by_cases c41 : (t416 != t420) = true
        ·rw [if_pos c41] at H
         have c41b0 : (t416 != t420) = true := c41
         (try (have c41b1 : decide (t416 = t420) = false := by simpa using c41))
         (try (have c41b2 : (t416 == t420) = false := by simpa using c41))
         (try (have c41b3 : ¬ (t416 = t420) := by simpa using c41))
         clear c41
         (first | rw [c41b0] | (simp only [i64_w, i32_w]; rw [c41b0]) | rw [c41b1] | skip)
         have H' := Aside0.mk H
         clear H
         go_wp2
         go_meet
         case rel => exact ⟨_, (true), (by first | rfl | (simp; done) | (simp [*]; done)), H', ⟨by have := HJ9.out; first | omega | exact Nat.le_refl _⟩, ⟨by (with_reducible repeat (first | apply Kd.S_alloc | apply Kd.S_drewN | apply Kd.S_drew)); exact Kd.S_mono HO_6.out (fun _ hk => hk.1.1.2)⟩, ⟨by (with_reducible repeat (first | apply Kd.R_alloc | apply Kd.R_drewN | apply Kd.R_drew)); exact Kd.R_mono HO418.out (fun _ hk => trivial)⟩, ⟨by repeat (first | (with_reducible first | exact HB.out | apply below_alloc | apply pw_below_drewN | apply below_drew1) | exact HB.out)⟩⟩
        ·rw [if_neg c41] at H
         have c41b0 : (t416 != t420) = false := by simpa using c41
         (try (have c41b1 : decide (t416 = t420) = true := by simpa using c41))
         (try (have c41b2 : (t416 == t420) = true := by simpa using c41))
         clear c41
         (first | rw [c41b0] | (simp only [i64_w, i32_w]; rw [c41b0]) | rw [c41b1] | skip)
         replace H := Option.bind_eq_some_iff.mp H
         obtain ⟨t427, A420, H⟩ := H
         replace H : (if t427 = true then (if (t416 != t424) = true then (laws_FnTreesListed.j1 kj9 t400 t401 t406 t414 t415 t416 true) else ((laws_wSame.f kj9 t415 t423).bind fun t428 => (laws_FnTreesListed.j1 kj9 t400 t401 t406 t414 t415 t416 (!t428)))) else (laws_FnTreesListed.j1 kj9 t400 t401 t406 t414 t415 t416 true)) = some r := H
         have A42 := Aside0.mk A420
         clear A420
         by_cases c43 : t427 = true
         ·subst c43
          have H1 : (if (t416 != t424) = true then (laws_FnTreesListed.j1 kj9 t400 t401 t406 t414 t415 t416 true) else ((laws_wSame.f kj9 t415 t423).bind fun t428 => (laws_FnTreesListed.j1 kj9 t400 t401 t406 t414 t415 t416 (!t428)))) = some r := by rw [if_pos rfl] at H; exact H
          clear H
          have H := H1
          clear H1
          by_cases c44 : (t416 != t424) = true
          ·rw [if_pos c44] at H
           have c44b0 : (t416 != t424) = true := c44
           (try (have c44b1 : decide (t416 = t424) = false := by simpa using c44))
           (try (have c44b2 : (t416 == t424) = false := by simpa using c44))
           (try (have c44b3 : ¬ (t416 = t424) := by simpa using c44))
           clear c44
           have H' := Aside0.mk H
           clear H
           obtain ⟨Ao45, co45, eo45⟩ := Kd.R_slice HO418.out
           subst eo45
           obtain ⟨Ao46, co46, eo46⟩ := Kd.R_slice HO422.out
           subst eo46
           go_wp2_with (first | (go_at_call 15; (with_reducible refine (laws_wSame.calls kj9 _ _ t415 _ _ t419 true _ ?side1 ?side2 ?side3 ?side4 A42.out).mono ?_); (case side1 => repeat (first | exact (Kd.R_reads' HO418.out).2.2 | (with_reducible refine Kd.C_alloc ?_ _) | (with_reducible refine Kd.C_drewN ?_ _) | (with_reducible refine Kd.C_drew ?_))); (case side2 => exact (Kd.R_reads' HO418.out).2.1); (case side3 => repeat (first | exact (Kd.R_reads' HO422.out).2.2 | (with_reducible refine Kd.C_alloc ?_ _) | (with_reducible refine Kd.C_drewN ?_ _) | (with_reducible refine Kd.C_drew ?_))); (case side4 => exact (Kd.R_reads' HO422.out).2.1); rintro e w' ⟨rfl, ⟨nd, rfl⟩⟩))
           go_meet
           case rel => exact ⟨_, (true), (by first | rfl | (simp; done) | (simp [*]; done)), H', ⟨by have := HJ9.out; first | omega | exact Nat.le_refl _⟩, ⟨by (with_reducible repeat (first | apply Kd.S_alloc | apply Kd.S_drewN | apply Kd.S_drew)); exact Kd.S_mono HO_6.out (fun _ hk => hk.1.1.2)⟩, ⟨by (with_reducible repeat (first | apply Kd.R_alloc | apply Kd.R_drewN | apply Kd.R_drew)); exact Kd.R_mono HO418.out (fun _ hk => trivial)⟩, ⟨by repeat (first | (with_reducible first | exact HB.out | apply below_alloc | apply pw_below_drewN | apply below_drew1) | exact HB.out)⟩⟩
          ·rw [if_neg c44] at H
           have c44b0 : (t416 != t424) = false := by simpa using c44
           (try (have c44b1 : decide (t416 = t424) = true := by simpa using c44))
           (try (have c44b2 : (t416 == t424) = true := by simpa using c44))
           clear c44
           replace H := Option.bind_eq_some_iff.mp H
           obtain ⟨t428, A470, H⟩ := H
           replace H : (laws_FnTreesListed.j1 kj9 t400 t401 t406 t414 t415 t416 (!t428)) = some r := H
           have A47 := Aside0.mk A470
           clear A470
           have H' := Aside0.mk H
           clear H
           obtain ⟨Ao48, co48, eo48⟩ := Kd.R_slice HO418.out
           subst eo48
           obtain ⟨Ao49, co49, eo49⟩ := Kd.R_slice HO422.out
           subst eo49
           go_wp2_with (first | (go_at_call 15; (with_reducible refine (laws_wSame.calls kj9 _ _ t415 _ _ t419 true _ ?side1 ?side2 ?side3 ?side4 A42.out).mono ?_); (case side1 => repeat (first | exact (Kd.R_reads' HO418.out).2.2 | (with_reducible refine Kd.C_alloc ?_ _) | (with_reducible refine Kd.C_drewN ?_ _) | (with_reducible refine Kd.C_drew ?_))); (case side2 => exact (Kd.R_reads' HO418.out).2.1); (case side3 => repeat (first | exact (Kd.R_reads' HO422.out).2.2 | (with_reducible refine Kd.C_alloc ?_ _) | (with_reducible refine Kd.C_drewN ?_ _) | (with_reducible refine Kd.C_drew ?_))); (case side4 => exact (Kd.R_reads' HO422.out).2.1); rintro e w' ⟨rfl, ⟨nd, rfl⟩⟩; obtain ⟨Ao50, co50, eo50⟩ := Kd.R_slice HO426.out; subst eo50) | (go_at_call 15; (with_reducible refine (laws_wSame.calls kj9 _ _ t415 _ _ t423 t428 _ ?side1 ?side2 ?side3 ?side4 A47.out).mono ?_); (case side1 => repeat (first | exact (Kd.R_reads' HO418.out).2.2 | (with_reducible refine Kd.C_alloc ?_ _) | (with_reducible refine Kd.C_drewN ?_ _) | (with_reducible refine Kd.C_drew ?_))); (case side2 => exact (Kd.R_reads' HO418.out).2.1); (case side3 => repeat (first | exact (Kd.R_reads' HO426.out).2.2 | (with_reducible refine Kd.C_alloc ?_ _) | (with_reducible refine Kd.C_drewN ?_ _) | (with_reducible refine Kd.C_drew ?_))); (case side4 => exact (Kd.R_reads' HO426.out).2.1); rintro e w' ⟨rfl, ⟨nd, rfl⟩⟩))
           go_meet
           case rel => exact ⟨_, (!t428), (by first | rfl | (simp; done) | (simp [*]; done)), H', ⟨by have := HJ9.out; first | omega | exact Nat.le_refl _⟩, ⟨by (with_reducible repeat (first | apply Kd.S_alloc | apply Kd.S_drewN | apply Kd.S_drew)); exact Kd.S_mono HO_6.out (fun _ hk => hk.1.1.2)⟩, ⟨by (with_reducible repeat (first | apply Kd.R_alloc | apply Kd.R_drewN | apply Kd.R_drew)); exact Kd.R_mono HO418.out (fun _ hk => trivial)⟩, ⟨by repeat (first | (with_reducible first | exact HB.out | apply below_alloc | apply pw_below_drewN | apply below_drew1) | exact HB.out)⟩⟩
         ·replace c43 := Bool.eq_false_iff.mpr c43
          subst c43
          have H1 : (laws_FnTreesListed.j1 kj9 t400 t401 t406 t414 t415 t416 true) = some r := by rw [if_neg (show ¬ (false = true) by decide)] at H; exact H
          clear H
          have H := H1
          clear H1
          have H' := Aside0.mk H
          clear H
          obtain ⟨Ao51, co51, eo51⟩ := Kd.R_slice HO418.out
          subst eo51
          obtain ⟨Ao52, co52, eo52⟩ := Kd.R_slice HO422.out
          subst eo52
          go_wp2_with (first | (go_at_call 15; (with_reducible refine (laws_wSame.calls kj9 _ _ t415 _ _ t419 false _ ?side1 ?side2 ?side3 ?side4 A42.out).mono ?_); (case side1 => repeat (first | exact (Kd.R_reads' HO418.out).2.2 | (with_reducible refine Kd.C_alloc ?_ _) | (with_reducible refine Kd.C_drewN ?_ _) | (with_reducible refine Kd.C_drew ?_))); (case side2 => exact (Kd.R_reads' HO418.out).2.1); (case side3 => repeat (first | exact (Kd.R_reads' HO422.out).2.2 | (with_reducible refine Kd.C_alloc ?_ _) | (with_reducible refine Kd.C_drewN ?_ _) | (with_reducible refine Kd.C_drew ?_))); (case side4 => exact (Kd.R_reads' HO422.out).2.1); rintro e w' ⟨rfl, ⟨nd, rfl⟩⟩))
          go_meet
          case rel => exact ⟨_, (true), (by first | rfl | (simp; done) | (simp [*]; done)), H', ⟨by have := HJ9.out; first | omega | exact Nat.le_refl _⟩, ⟨by (with_reducible repeat (first | apply Kd.S_alloc | apply Kd.S_drewN | apply Kd.S_drew)); exact Kd.S_mono HO_6.out (fun _ hk => hk.1.1.2)⟩, ⟨by (with_reducible repeat (first | apply Kd.R_alloc | apply Kd.R_drewN | apply Kd.R_drew)); exact Kd.R_mono HO418.out (fun _ hk => trivial)⟩, ⟨by repeat (first | (with_reducible first | exact HB.out | apply below_alloc | apply pw_below_drewN | apply below_drew1) | exact HB.out)⟩⟩
       case rest =>
        clear HC36
        try clear c1
        try clear c2
        try clear p2
        try clear c3
        try clear c4
        try clear c5
        try clear c6
        try clear c7
        try clear c15
        try clear c15b0
        try clear c15b1
        try clear c15b2
        try clear c17
        try clear c18
        try clear c18b0
        try clear c18b1
        try clear c18b2
        try clear c21
        try clear c21b0
        try clear c21b1
        try clear c22
        try clear c30
        try clear c31
        try clear c41
        try clear c41b0
        try clear c41b1
        try clear c41b2
        try clear c43
        try clear c44
        try clear c44b0
        try clear c44b1
        try clear c44b2
        try clear c45
        try clear c46
        try clear c47
        try clear c48
        try clear c49
        try clear c50
        try clear c51
        try clear c52
        try clear p2
        obtain ⟨kq, x120_35, rfl, HA, HJ35, HO_6, HO_15, HB⟩ := hcut
        cases kq with
        | zero => exact absurd HA.out (by simp [laws_FnTreesListed.j1])
        | succ kj35 =>
         have H := HA.out
         clear HA
         simp only [laws_FnTreesListed.j1] at H
         by_cases c53 : x120_35 = true
         ·subst c53
          have H1 : (some false) = some r := by rw [if_pos rfl] at H; exact H
          clear H
          have H := H1
          clear H1
          obtain rfl := Option.some.inj H
          go_wp2
          go_ret
          exact ⟨by first | rfl | (simp [errW_none, errW_some] <;> rfl) | (simp [*, errW_none, errW_some] <;> rfl), by repeat (first | (with_reducible first | exact HB.out | apply below_alloc | apply pw_below_drewN | apply below_drew1) | exact HB.out)⟩
         ·as_aux_lemma =>
           replace c53 := Bool.eq_false_iff.mpr c53
           subst c53
           have H1 : (if t416 = true then ((impl_CountParking.f kj35 t414).bind fun bt429 => ((impl_CountTrees.f kj35 t414).bind fun bt431 => (if bt429.2 = true then (if bt431.2 = true then ((laws_wSum.f kj35 t415).bind fun t433 => (if t433 = bt429.1 then (if bt431.1 = bt429.1 then (laws_FnTreesListed.j2 kj35 t400 t401 t406) else (some false)) else (some false))) else (some false)) else (some false)))) else (laws_FnTreesListed.j2 kj35 t400 t401 t406)) = some r := by rw [if_neg (show ¬ (false = true) by decide)] at H; exact H
           clear H
           have H := H1
           clear H1
           have HC54 := Aside0.mk H
           clear H
           go_upto_if 121 with (fail)
           go_cut [] (fun wc => ∃ (kq : Nat), Aside0 (laws_FnTreesListed.j2 kq t400 t401 t406 = some r) ∧ Aside0 (kq ≤ kj35) ∧ Aside0 (Kd.S (Kd.slice 3 (Kd.int .i64)) 24 wc w.heap.size (fun _ => True) v403 t401) ∧ Aside0 (Below w.heap.size w wc))
           case first =>
            have H := HC54.out
            clear HC54
            by_cases c55 : t416 = true
            ·subst c55
             have H1 : ((impl_CountParking.f kj35 t414).bind fun bt429 => ((impl_CountTrees.f kj35 t414).bind fun bt431 => (if bt429.2 = true then (if bt431.2 = true then ((laws_wSum.f kj35 t415).bind fun t433 => (if t433 = bt429.1 then (if bt431.1 = bt429.1 then (laws_FnTreesListed.j2 kj35 t400 t401 t406) else (some false)) else (some false))) else (some false)) else (some false)))) = some r := by rw [if_pos rfl] at H; exact H
             clear H
             have H := H1
             clear H1
             replace H := Option.bind_eq_some_iff.mp H
             obtain ⟨⟨t429, t430⟩, A560, H⟩ := H
             replace H : ((impl_CountTrees.f kj35 t414).bind fun bt431 => (if t430 = true then (if bt431.2 = true then ((laws_wSum.f kj35 t415).bind fun t433 => (if t433 = t429 then (if bt431.1 = t429 then (laws_FnTreesListed.j2 kj35 t400 t401 t406) else (some false)) else (some false))) else (some false)) else (some false))) = some r := H
             have A56 := Aside0.mk A560
             clear A560
             replace H := Option.bind_eq_some_iff.mp H
             obtain ⟨⟨t431, t432⟩, A570, H⟩ := H
             replace H : (if t430 = true then (if t432 = true then ((laws_wSum.f kj35 t415).bind fun t433 => (if t433 = t429 then (if t431 = t429 then (laws_FnTreesListed.j2 kj35 t400 t401 t406) else (some false)) else (some false))) else (some false)) else (some false)) = some r := H
             have A57 := Aside0.mk A570
             clear A570
             by_cases c58 : t430 = true
             ·subst c58
              have H1 : (if t432 = true then ((laws_wSum.f kj35 t415).bind fun t433 => (if t433 = t429 then (if t431 = t429 then (laws_FnTreesListed.j2 kj35 t400 t401 t406) else (some false)) else (some false))) else (some false)) = some r := by rw [if_pos rfl] at H; exact H
              clear H
              have H := H1
              clear H1
              by_cases c59 : t432 = true
              ·subst c59
               have H1 : ((laws_wSum.f kj35 t415).bind fun t433 => (if t433 = t429 then (if t431 = t429 then (laws_FnTreesListed.j2 kj35 t400 t401 t406) else (some false)) else (some false))) = some r := by rw [if_pos rfl] at H; exact H
               clear H
               have H := H1
               clear H1
               replace H := Option.bind_eq_some_iff.mp H
               obtain ⟨t433, A600, H⟩ := H
               replace H : (if t433 = t429 then (if t431 = t429 then (laws_FnTreesListed.j2 kj35 t400 t401 t406) else (some false)) else (some false)) = some r := H
               have A60 := Aside0.mk A600
               clear A600
               by_cases c61 : t433 = t429
               ·rw [if_pos c61] at H
                have c61b0 : (t433 == t429) = true := beq_iff_eq.mpr c61
                have c61b1 : (t433 != t429) = false := bne_eq_false_iff_eq.mpr c61
                clear c61
                (first | rw [c61b0] | (simp only [i64_w, i32_w]; rw [c61b0]) | rw [c61b1] | skip)
                by_cases c62 : t431 = t429
                ·rw [if_pos c62] at H
                 have c62b0 : (t431 == t429) = true := beq_iff_eq.mpr c62
                 have c62b1 : (t431 != t429) = false := bne_eq_false_iff_eq.mpr c62
                 clear c62
                 have H' := Aside0.mk H
                 clear H
                 go_wp2_with (first | ((with_reducible refine gate_callee (f := 29) rfl ?_); refine goesL_ (some 124) rfl rfl Try.func29 (by kernel_rfl) rfl #[.int .i64 t414] rfl (by (try simp only [List.map_toArray, List.map_cons, List.map_nil]); first | done | rfl | (simp only [List.length_drop, List.length_take]; rfl)) ?_; (with_reducible refine (impl_CountParking.calls kj35 t414 t429 true _ A56.out).mono ?_); rintro e w63 ⟨rfl, hb⟩; refine ⟨_, rfl, ?_⟩; have n0_ := Aside0.mk (Kd.S_below (by (with_reducible repeat (first | apply Kd.S_alloc | apply Kd.S_drewN | apply Kd.S_drew)); exact HO_6.out) hb); have n1_ := Aside0.mk (Kd.R_below (by (with_reducible repeat (first | apply Kd.R_alloc | apply Kd.R_drewN | apply Kd.R_drew)); exact HO_15.out) hb); have n2_ := Aside0.mk (below_step (by repeat (first | (with_reducible first | exact HB.out | apply below_alloc | apply pw_below_drewN | apply below_drew1) | exact HB.out)) hb); clear HO_6; clear HO_15; clear HB; have HO_6 := n0_; have HO_15 := n1_; have HB := n2_; clear n0_ n1_ n2_; (try clear hb); (try clear hb2); (try clear hk); (try clear hi)) | ((with_reducible refine gate_callee (f := 48) rfl ?_); refine goesL_ (some 129) rfl rfl Try.func48 (by kernel_rfl) rfl #[.int .i64 t414] rfl (by (try simp only [List.map_toArray, List.map_cons, List.map_nil]); first | done | rfl | (simp only [List.length_drop, List.length_take]; rfl)) ?_; (with_reducible refine (impl_CountTrees.calls kj35 t414 t431 true _ A57.out).mono ?_); rintro e w64 ⟨rfl, hb⟩; refine ⟨_, rfl, ?_⟩; have n0_ := Aside0.mk (Kd.S_below (by (with_reducible repeat (first | apply Kd.S_alloc | apply Kd.S_drewN | apply Kd.S_drew)); exact HO_6.out) hb); have n1_ := Aside0.mk (Kd.R_below (by (with_reducible repeat (first | apply Kd.R_alloc | apply Kd.R_drewN | apply Kd.R_drew)); exact HO_15.out) hb); have n2_ := Aside0.mk (below_step (by repeat (first | (with_reducible first | exact HB.out | apply below_alloc | apply pw_below_drewN | apply below_drew1) | exact HB.out)) hb); clear HO_6; clear HO_15; clear HB; have HO_6 := n0_; have HO_15 := n1_; have HB := n2_; clear n0_ n1_ n2_; (try clear hb); (try clear hb2); (try clear hk); (try clear hi); obtain ⟨Ao65, co65, eo65⟩ := Kd.R_slice HO_15.out; subst eo65) | (go_at_call 28; (with_reducible refine (laws_wSum.calls kj35 _ _ t415 t433 _ ?side1 ?side2 A60.out).mono ?_); (case side1 => repeat (first | exact (Kd.R_reads' HO_15.out).2.2 | (with_reducible refine Kd.C_alloc ?_ _) | (with_reducible refine Kd.C_drewN ?_ _) | (with_reducible refine Kd.C_drew ?_))); (case side2 => exact (Kd.R_reads' HO_15.out).2.1); rintro e w' ⟨rfl, ⟨nd, rfl⟩⟩))
                 go_meet
                 case rel => exact ⟨_, H', ⟨by have := HJ9.out; have := HJ35.out; first | omega | exact Nat.le_refl _⟩, ⟨by (with_reducible repeat (first | apply Kd.S_alloc | apply Kd.S_drewN | apply Kd.S_drew)); exact Kd.S_mono HO_6.out (fun _ hk => trivial)⟩, ⟨by repeat (first | (with_reducible first | exact HB.out | apply below_alloc | apply pw_below_drewN | apply below_drew1) | exact HB.out)⟩⟩
                ·rw [if_neg c62] at H
                 have c62b0 : (t431 == t429) = false := beq_eq_false_iff_ne.mpr c62
                 have c62b1 : (t431 != t429) = true := bne_iff_ne.mpr c62
                 obtain rfl := Option.some.inj H
                 go_wp2_with (first | ((with_reducible refine gate_callee (f := 29) rfl ?_); refine goesL_ (some 124) rfl rfl Try.func29 (by kernel_rfl) rfl #[.int .i64 t414] rfl (by (try simp only [List.map_toArray, List.map_cons, List.map_nil]); first | done | rfl | (simp only [List.length_drop, List.length_take]; rfl)) ?_; (with_reducible refine (impl_CountParking.calls kj35 t414 t429 true _ A56.out).mono ?_); rintro e w66 ⟨rfl, hb⟩; refine ⟨_, rfl, ?_⟩; have n0_ := Aside0.mk (Kd.S_below (by (with_reducible repeat (first | apply Kd.S_alloc | apply Kd.S_drewN | apply Kd.S_drew)); exact HO_6.out) hb); have n1_ := Aside0.mk (Kd.R_below (by (with_reducible repeat (first | apply Kd.R_alloc | apply Kd.R_drewN | apply Kd.R_drew)); exact HO_15.out) hb); have n2_ := Aside0.mk (below_step (by repeat (first | (with_reducible first | exact HB.out | apply below_alloc | apply pw_below_drewN | apply below_drew1) | exact HB.out)) hb); clear HO_6; clear HO_15; clear HB; have HO_6 := n0_; have HO_15 := n1_; have HB := n2_; clear n0_ n1_ n2_; (try clear hb); (try clear hb2); (try clear hk); (try clear hi)) | ((with_reducible refine gate_callee (f := 48) rfl ?_); refine goesL_ (some 129) rfl rfl Try.func48 (by kernel_rfl) rfl #[.int .i64 t414] rfl (by (try simp only [List.map_toArray, List.map_cons, List.map_nil]); first | done | rfl | (simp only [List.length_drop, List.length_take]; rfl)) ?_; (with_reducible refine (impl_CountTrees.calls kj35 t414 t431 true _ A57.out).mono ?_); rintro e w67 ⟨rfl, hb⟩; refine ⟨_, rfl, ?_⟩; have n0_ := Aside0.mk (Kd.S_below (by (with_reducible repeat (first | apply Kd.S_alloc | apply Kd.S_drewN | apply Kd.S_drew)); exact HO_6.out) hb); have n1_ := Aside0.mk (Kd.R_below (by (with_reducible repeat (first | apply Kd.R_alloc | apply Kd.R_drewN | apply Kd.R_drew)); exact HO_15.out) hb); have n2_ := Aside0.mk (below_step (by repeat (first | (with_reducible first | exact HB.out | apply below_alloc | apply pw_below_drewN | apply below_drew1) | exact HB.out)) hb); clear HO_6; clear HO_15; clear HB; have HO_6 := n0_; have HO_15 := n1_; have HB := n2_; clear n0_ n1_ n2_; (try clear hb); (try clear hb2); (try clear hk); (try clear hi); obtain ⟨Ao68, co68, eo68⟩ := Kd.R_slice HO_15.out; subst eo68) | (go_at_call 28; (with_reducible refine (laws_wSum.calls kj35 _ _ t415 t433 _ ?side1 ?side2 A60.out).mono ?_); (case side1 => repeat (first | exact (Kd.R_reads' HO_15.out).2.2 | (with_reducible refine Kd.C_alloc ?_ _) | (with_reducible refine Kd.C_drewN ?_ _) | (with_reducible refine Kd.C_drew ?_))); (case side2 => exact (Kd.R_reads' HO_15.out).2.1); rintro e w' ⟨rfl, ⟨nd, rfl⟩⟩))
                 go_ret
                 exact ⟨by first | rfl | (simp [errW_none, errW_some] <;> rfl) | (simp [*, errW_none, errW_some] <;> rfl), by repeat (first | (with_reducible first | exact HB.out | apply below_alloc | apply pw_below_drewN | apply below_drew1) | exact HB.out)⟩
               ·rw [if_neg c61] at H
                have c61b0 : (t433 == t429) = false := beq_eq_false_iff_ne.mpr c61
                have c61b1 : (t433 != t429) = true := bne_iff_ne.mpr c61
                (first | rw [c61b0] | (simp only [i64_w, i32_w]; rw [c61b0]) | rw [c61b1] | skip)
                obtain rfl := Option.some.inj H
                go_wp2_with (first | ((with_reducible refine gate_callee (f := 29) rfl ?_); refine goesL_ (some 124) rfl rfl Try.func29 (by kernel_rfl) rfl #[.int .i64 t414] rfl (by (try simp only [List.map_toArray, List.map_cons, List.map_nil]); first | done | rfl | (simp only [List.length_drop, List.length_take]; rfl)) ?_; (with_reducible refine (impl_CountParking.calls kj35 t414 t429 true _ A56.out).mono ?_); rintro e w69 ⟨rfl, hb⟩; refine ⟨_, rfl, ?_⟩; have n0_ := Aside0.mk (Kd.S_below (by (with_reducible repeat (first | apply Kd.S_alloc | apply Kd.S_drewN | apply Kd.S_drew)); exact HO_6.out) hb); have n1_ := Aside0.mk (Kd.R_below (by (with_reducible repeat (first | apply Kd.R_alloc | apply Kd.R_drewN | apply Kd.R_drew)); exact HO_15.out) hb); have n2_ := Aside0.mk (below_step (by repeat (first | (with_reducible first | exact HB.out | apply below_alloc | apply pw_below_drewN | apply below_drew1) | exact HB.out)) hb); clear HO_6; clear HO_15; clear HB; have HO_6 := n0_; have HO_15 := n1_; have HB := n2_; clear n0_ n1_ n2_; (try clear hb); (try clear hb2); (try clear hk); (try clear hi)) | ((with_reducible refine gate_callee (f := 48) rfl ?_); refine goesL_ (some 129) rfl rfl Try.func48 (by kernel_rfl) rfl #[.int .i64 t414] rfl (by (try simp only [List.map_toArray, List.map_cons, List.map_nil]); first | done | rfl | (simp only [List.length_drop, List.length_take]; rfl)) ?_; (with_reducible refine (impl_CountTrees.calls kj35 t414 t431 true _ A57.out).mono ?_); rintro e w70 ⟨rfl, hb⟩; refine ⟨_, rfl, ?_⟩; have n0_ := Aside0.mk (Kd.S_below (by (with_reducible repeat (first | apply Kd.S_alloc | apply Kd.S_drewN | apply Kd.S_drew)); exact HO_6.out) hb); have n1_ := Aside0.mk (Kd.R_below (by (with_reducible repeat (first | apply Kd.R_alloc | apply Kd.R_drewN | apply Kd.R_drew)); exact HO_15.out) hb); have n2_ := Aside0.mk (below_step (by repeat (first | (with_reducible first | exact HB.out | apply below_alloc | apply pw_below_drewN | apply below_drew1) | exact HB.out)) hb); clear HO_6; clear HO_15; clear HB; have HO_6 := n0_; have HO_15 := n1_; have HB := n2_; clear n0_ n1_ n2_; (try clear hb); (try clear hb2); (try clear hk); (try clear hi); obtain ⟨Ao71, co71, eo71⟩ := Kd.R_slice HO_15.out; subst eo71) | (go_at_call 28; (with_reducible refine (laws_wSum.calls kj35 _ _ t415 t433 _ ?side1 ?side2 A60.out).mono ?_); (case side1 => repeat (first | exact (Kd.R_reads' HO_15.out).2.2 | (with_reducible refine Kd.C_alloc ?_ _) | (with_reducible refine Kd.C_drewN ?_ _) | (with_reducible refine Kd.C_drew ?_))); (case side2 => exact (Kd.R_reads' HO_15.out).2.1); rintro e w' ⟨rfl, ⟨nd, rfl⟩⟩))
                go_ret
                exact ⟨by first | rfl | (simp [errW_none, errW_some] <;> rfl) | (simp [*, errW_none, errW_some] <;> rfl), by repeat (first | (with_reducible first | exact HB.out | apply below_alloc | apply pw_below_drewN | apply below_drew1) | exact HB.out)⟩
              ·replace c59 := Bool.eq_false_iff.mpr c59
               subst c59
               have H1 : (some false) = some r := by rw [if_neg (show ¬ (false = true) by decide)] at H; exact H
               clear H
               have H := H1
               clear H1
               obtain rfl := Option.some.inj H
               go_wp2_with (first | ((with_reducible refine gate_callee (f := 29) rfl ?_); refine goesL_ (some 124) rfl rfl Try.func29 (by kernel_rfl) rfl #[.int .i64 t414] rfl (by (try simp only [List.map_toArray, List.map_cons, List.map_nil]); first | done | rfl | (simp only [List.length_drop, List.length_take]; rfl)) ?_; (with_reducible refine (impl_CountParking.calls kj35 t414 t429 true _ A56.out).mono ?_); rintro e w72 ⟨rfl, hb⟩; refine ⟨_, rfl, ?_⟩; have n0_ := Aside0.mk (Kd.S_below (by (with_reducible repeat (first | apply Kd.S_alloc | apply Kd.S_drewN | apply Kd.S_drew)); exact HO_6.out) hb); have n1_ := Aside0.mk (Kd.R_below (by (with_reducible repeat (first | apply Kd.R_alloc | apply Kd.R_drewN | apply Kd.R_drew)); exact HO_15.out) hb); have n2_ := Aside0.mk (below_step (by repeat (first | (with_reducible first | exact HB.out | apply below_alloc | apply pw_below_drewN | apply below_drew1) | exact HB.out)) hb); clear HO_6; clear HO_15; clear HB; have HO_6 := n0_; have HO_15 := n1_; have HB := n2_; clear n0_ n1_ n2_; (try clear hb); (try clear hb2); (try clear hk); (try clear hi)) | ((with_reducible refine gate_callee (f := 48) rfl ?_); refine goesL_ (some 129) rfl rfl Try.func48 (by kernel_rfl) rfl #[.int .i64 t414] rfl (by (try simp only [List.map_toArray, List.map_cons, List.map_nil]); first | done | rfl | (simp only [List.length_drop, List.length_take]; rfl)) ?_; (with_reducible refine (impl_CountTrees.calls kj35 t414 t431 false _ A57.out).mono ?_); rintro e w73 ⟨rfl, hb⟩; refine ⟨_, rfl, ?_⟩; have n0_ := Aside0.mk (Kd.S_below (by (with_reducible repeat (first | apply Kd.S_alloc | apply Kd.S_drewN | apply Kd.S_drew)); exact HO_6.out) hb); have n1_ := Aside0.mk (Kd.R_below (by (with_reducible repeat (first | apply Kd.R_alloc | apply Kd.R_drewN | apply Kd.R_drew)); exact HO_15.out) hb); have n2_ := Aside0.mk (below_step (by repeat (first | (with_reducible first | exact HB.out | apply below_alloc | apply pw_below_drewN | apply below_drew1) | exact HB.out)) hb); clear HO_6; clear HO_15; clear HB; have HO_6 := n0_; have HO_15 := n1_; have HB := n2_; clear n0_ n1_ n2_; (try clear hb); (try clear hb2); (try clear hk); (try clear hi)))
               go_ret
               exact ⟨by first | rfl | (simp [errW_none, errW_some] <;> rfl) | (simp [*, errW_none, errW_some] <;> rfl), by repeat (first | (with_reducible first | exact HB.out | apply below_alloc | apply pw_below_drewN | apply below_drew1) | exact HB.out)⟩
             ·replace c58 := Bool.eq_false_iff.mpr c58
              subst c58
              have H1 : (some false) = some r := by rw [if_neg (show ¬ (false = true) by decide)] at H; exact H
              clear H
              have H := H1
              clear H1
              obtain rfl := Option.some.inj H
              go_wp2_with (first | ((with_reducible refine gate_callee (f := 29) rfl ?_); refine goesL_ (some 124) rfl rfl Try.func29 (by kernel_rfl) rfl #[.int .i64 t414] rfl (by (try simp only [List.map_toArray, List.map_cons, List.map_nil]); first | done | rfl | (simp only [List.length_drop, List.length_take]; rfl)) ?_; (with_reducible refine (impl_CountParking.calls kj35 t414 t429 false _ A56.out).mono ?_); rintro e w74 ⟨rfl, hb⟩; refine ⟨_, rfl, ?_⟩; have n0_ := Aside0.mk (Kd.S_below (by (with_reducible repeat (first | apply Kd.S_alloc | apply Kd.S_drewN | apply Kd.S_drew)); exact HO_6.out) hb); have n1_ := Aside0.mk (Kd.R_below (by (with_reducible repeat (first | apply Kd.R_alloc | apply Kd.R_drewN | apply Kd.R_drew)); exact HO_15.out) hb); have n2_ := Aside0.mk (below_step (by repeat (first | (with_reducible first | exact HB.out | apply below_alloc | apply pw_below_drewN | apply below_drew1) | exact HB.out)) hb); clear HO_6; clear HO_15; clear HB; have HO_6 := n0_; have HO_15 := n1_; have HB := n2_; clear n0_ n1_ n2_; (try clear hb); (try clear hb2); (try clear hk); (try clear hi)) | ((with_reducible refine gate_callee (f := 48) rfl ?_); refine goesL_ (some 129) rfl rfl Try.func48 (by kernel_rfl) rfl #[.int .i64 t414] rfl (by (try simp only [List.map_toArray, List.map_cons, List.map_nil]); first | done | rfl | (simp only [List.length_drop, List.length_take]; rfl)) ?_; (with_reducible refine (impl_CountTrees.calls kj35 t414 t431 t432 _ A57.out).mono ?_); rintro e w75 ⟨rfl, hb⟩; refine ⟨_, rfl, ?_⟩; have n0_ := Aside0.mk (Kd.S_below (by (with_reducible repeat (first | apply Kd.S_alloc | apply Kd.S_drewN | apply Kd.S_drew)); exact HO_6.out) hb); have n1_ := Aside0.mk (Kd.R_below (by (with_reducible repeat (first | apply Kd.R_alloc | apply Kd.R_drewN | apply Kd.R_drew)); exact HO_15.out) hb); have n2_ := Aside0.mk (below_step (by repeat (first | (with_reducible first | exact HB.out | apply below_alloc | apply pw_below_drewN | apply below_drew1) | exact HB.out)) hb); clear HO_6; clear HO_15; clear HB; have HO_6 := n0_; have HO_15 := n1_; have HB := n2_; clear n0_ n1_ n2_; (try clear hb); (try clear hb2); (try clear hk); (try clear hi)))
              go_ret
              exact ⟨by first | rfl | (simp [errW_none, errW_some] <;> rfl) | (simp [*, errW_none, errW_some] <;> rfl), by repeat (first | (with_reducible first | exact HB.out | apply below_alloc | apply pw_below_drewN | apply below_drew1) | exact HB.out)⟩
            ·replace c55 := Bool.eq_false_iff.mpr c55
             subst c55
             have H1 : (laws_FnTreesListed.j2 kj35 t400 t401 t406) = some r := by rw [if_neg (show ¬ (false = true) by decide)] at H; exact H
             clear H
             have H := H1
             clear H1
             have H' := Aside0.mk H
             clear H
             go_wp2
             go_meet
             case rel => exact ⟨_, H', ⟨by have := HJ9.out; have := HJ35.out; first | omega | exact Nat.le_refl _⟩, ⟨by (with_reducible repeat (first | apply Kd.S_alloc | apply Kd.S_drewN | apply Kd.S_drew)); exact Kd.S_mono HO_6.out (fun _ hk => trivial)⟩, ⟨by repeat (first | (with_reducible first | exact HB.out | apply below_alloc | apply pw_below_drewN | apply below_drew1) | exact HB.out)⟩⟩
           case rest =>
            clear HC54
            try clear c1
            try clear c2
            try clear p2
            try clear c3
            try clear c4
            try clear c5
            try clear c6
            try clear c7
            try clear c15
            try clear c15b0
            try clear c15b1
            try clear c15b2
            try clear c17
            try clear c18
            try clear c18b0
            try clear c18b1
            try clear c18b2
            try clear c21
            try clear c21b0
            try clear c21b1
            try clear c22
            try clear c29
            try clear c30
            try clear c31
            try clear c41
            try clear c41b0
            try clear c41b1
            try clear c41b2
            try clear c43
            try clear c44
            try clear c44b0
            try clear c44b1
            try clear c44b2
            try clear c45
            try clear c46
            try clear c47
            try clear c48
            try clear c49
            try clear c50
            try clear c51
            try clear c52
            try clear c53
            try clear c55
            try clear c58
            try clear c59
            try clear c61
            try clear c61b0
            try clear c61b1
            try clear c62
            try clear c62b0
            try clear c62b1
            try clear p2
            obtain ⟨kq, HA, HJ53, HO_6, HB⟩ := hcut
            cases kq with
            | zero => exact absurd HA.out (by simp [laws_FnTreesListed.j2])
            | succ kj53 =>
             have H := HA.out
             clear HA
             simp only [laws_FnTreesListed.j2] at H
             have HC76 := Aside0.mk H
             clear H
             go_upto_region 21 with (fail)
             go_cut [154] (fun v154 wc => ∃ (kq : Nat) (x154_75 : Bool), v154 = .bool x154_75 ∧ Aside0 (laws_FnTreesListed.j3 kq t401 x154_75 = some r) ∧ Aside0 (kq ≤ kj53) ∧ Aside0 (Kd.S (Kd.slice 3 (Kd.int .i64)) 24 wc w.heap.size (fun _ => True) v403 t401) ∧ Aside0 (Below w.heap.size w wc))
             case first =>
              have H := HC76.out
              clear HC76
              by_cases c77 : t406 = true
              ·subst c77
               have H1 : (laws_FnTreesListed.j3 kj53 t401 (decide (t400 > 4))) = some r := by rw [if_pos rfl] at H; exact H
               clear H
               have H := H1
               clear H1
               have H' := Aside0.mk H
               clear H
               go_wp2
               go_meet
               case rel => exact ⟨_, (decide (t400 > 4)), (by first | rfl | (simp; done) | (simp [*]; done)), H', ⟨by have := HJ9.out; have := HJ35.out; have := HJ53.out; first | omega | exact Nat.le_refl _⟩, ⟨by (with_reducible repeat (first | apply Kd.S_alloc | apply Kd.S_drewN | apply Kd.S_drew)); exact HO_6.out⟩, ⟨by repeat (first | (with_reducible first | exact HB.out | apply below_alloc | apply pw_below_drewN | apply below_drew1) | exact HB.out)⟩⟩
              ·replace c77 := Bool.eq_false_iff.mpr c77
               subst c77
               have H1 : (laws_FnTreesListed.j3 kj53 t401 true) = some r := by rw [if_neg (show ¬ (false = true) by decide)] at H; exact H
               clear H
               have H := H1
               clear H1
               have H' := Aside0.mk H
               clear H
               go_wp2
               go_meet
               case rel => exact ⟨_, (true), (by first | rfl | (simp; done) | (simp [*]; done)), H', ⟨by have := HJ9.out; have := HJ35.out; have := HJ53.out; first | omega | exact Nat.le_refl _⟩, ⟨by (with_reducible repeat (first | apply Kd.S_alloc | apply Kd.S_drewN | apply Kd.S_drew)); exact HO_6.out⟩, ⟨by repeat (first | (with_reducible first | exact HB.out | apply below_alloc | apply pw_below_drewN | apply below_drew1) | exact HB.out)⟩⟩
             case rest =>
              clear HC76
              try clear c1
              try clear c2
              try clear p2
              try clear c3
              try clear c4
              try clear c5
              try clear c6
              try clear c7
              try clear c15
              try clear c15b0
              try clear c15b1
              try clear c15b2
              try clear c17
              try clear c18
              try clear c18b0
              try clear c18b1
              try clear c18b2
              try clear c21
              try clear c21b0
              try clear c21b1
              try clear c22
              try clear c29
              try clear c30
              try clear c31
              try clear c41
              try clear c41b0
              try clear c41b1
              try clear c41b2
              try clear c43
              try clear c44
              try clear c44b0
              try clear c44b1
              try clear c44b2
              try clear c45
              try clear c46
              try clear c47
              try clear c48
              try clear c49
              try clear c50
              try clear c51
              try clear c52
              try clear c53
              try clear c55
              try clear c58
              try clear c59
              try clear c61
              try clear c61b0
              try clear c61b1
              try clear c62
              try clear c62b0
              try clear c62b1
              try clear c77
              try clear p2
              obtain ⟨kq, x154_75, rfl, HA, HJ75, HO_6, HB⟩ := hcut
              cases kq with
              | zero => exact absurd HA.out (by simp [laws_FnTreesListed.j3])
              | succ kj75 =>
               have H := HA.out
               clear HA
               simp only [laws_FnTreesListed.j3] at H
               by_cases c78 : x154_75 = true
               ·subst c78
                have H1 : (some true) = some r := by rw [if_pos rfl] at H; exact H
                clear H
                have H := H1
                clear H1
                obtain rfl := Option.some.inj H
                go_wp2
                go_ret
                exact ⟨by first | rfl | (simp [errW_none, errW_some] <;> rfl) | (simp [*, errW_none, errW_some] <;> rfl), by repeat (first | (with_reducible first | exact HB.out | apply below_alloc | apply pw_below_drewN | apply below_drew1) | exact HB.out)⟩
               ·as_aux_lemma =>
                 replace c78 := Bool.eq_false_iff.mpr c78
                 subst c78
                 have H1 : (laws_FnTreesListed.l0 kj75 t401 t401 (t401.length : Int) 0) = some r := by rw [if_neg (show ¬ (false = true) by decide)] at H; exact H
                 clear H
                 have H := H1
                 clear H1
                 have H' := Aside0.mk H
                 clear H
                 obtain ⟨Ao79, co79, eo79⟩ := Kd.S_slice HO_6.out
                 subst eo79
                 go_wp2
                 go_loopg [157] kj75 (fun kq v157 w' => ∃ (x157_5 : Int), v157 = .int .i64 x157_5 ∧ Aside0 (laws_FnTreesListed.l0 kq t401 t401 (t401.length : Int) x157_5 = some r) ∧ Aside0 (kq ≤ kj75) ∧ Aside0 (Kd.S (Kd.slice 3 (Kd.int .i64)) 24 w' w.heap.size (fun _ => True) (.slice Ao79 t401.length co79) t401) ∧ Aside0 (Kd.S (Kd.slice 3 (Kd.int .i64)) 24 w' w.heap.size (fun _ => True) (.slice Ao79 t401.length co79) t401) ∧ Aside0 (Below w.heap.size w w'))
                 case atStart => exact ⟨(0), (by first | rfl | (simp; done) | (simp [*]; done)), H', ⟨Nat.le_refl _⟩, ⟨by (with_reducible repeat (first | apply Kd.S_alloc | apply Kd.S_drewN | apply Kd.S_drew)); exact HO_6.out⟩, ⟨by (with_reducible repeat (first | apply Kd.S_alloc | apply Kd.S_drewN | apply Kd.S_drew)); exact HO_6.out⟩, ⟨by repeat (first | (with_reducible first | exact HB.out | apply below_alloc | apply pw_below_drewN | apply below_drew1) | exact HB.out)⟩⟩
                 case round =>
                  clear H'
                  try clear c1
                  try clear c2
                  try clear p2
                  try clear c3
                  try clear c4
                  try clear c5
                  try clear c6
                  try clear c7
                  try clear c15
                  try clear c15b0
                  try clear c15b1
                  try clear c15b2
                  try clear c17
                  try clear c18
                  try clear c18b0
                  try clear c18b1
                  try clear c18b2
                  try clear c21
                  try clear c21b0
                  try clear c21b1
                  try clear c22
                  try clear c29
                  try clear c30
                  try clear c31
                  try clear c41
                  try clear c41b0
                  try clear c41b1
                  try clear c41b2
                  try clear c43
                  try clear c44
                  try clear c44b0
                  try clear c44b1
                  try clear c44b2
                  try clear c45
                  try clear c46
                  try clear c47
                  try clear c48
                  try clear c49
                  try clear c50
                  try clear c51
                  try clear c52
                  try clear c53
                  try clear c55
                  try clear c58
                  try clear c59
                  try clear c61
                  try clear c61b0
                  try clear c61b1
                  try clear c62
                  try clear c62b0
                  try clear c62b1
                  try clear c77
                  try clear c78
                  try clear p2
                  obtain ⟨x157_5, rfl, HA, HK5, HO_6, HO_155, HB⟩ := hrel
                  cases gk with
                  | zero => exact absurd HA.out (by simp [laws_FnTreesListed.l0])
                  | succ k5 =>
                   have H := HA.out
                   clear HA
                   simp only [laws_FnTreesListed.l0] at H
                   by_cases c80 : x157_5 < (t401.length : Int)
                   ·as_aux_lemma =>
                     rw [if_pos c80] at H
                     have c80b0 : decide (x157_5 < (t401.length : Int)) = true := decide_eq_true c80
                     clear c80
                     by_cases c81 : 0 ≤ x157_5
                     ·as_aux_lemma =>
                       rw [if_pos c81] at H
                       have c81b0 : decide (0 ≤ x157_5) = true := decide_eq_true c81
                       clear c81
                       by_cases c82 : x157_5 < (t401.length : Int)
                       ·as_aux_lemma =>
                         rw [if_pos c82] at H
                         have c82b0 : decide (x157_5 < (t401.length : Int)) = true := decide_eq_true c82
                         clear c82
                         replace H := Option.bind_eq_some_iff.mp H
                         obtain ⟨⟨t435, t436⟩, A830, H⟩ := H
                         replace H : (if t436 = true then ((impl_IsTree.f k5 (rd_L2 t401 x157_5)).bind fun t439 => (laws_FnTreesListed.j5 k5 t401 x157_5 t435 t401 (t401.length : Int) x157_5 (!t439))) else (laws_FnTreesListed.j5 k5 t401 x157_5 t435 t401 (t401.length : Int) x157_5 true)) = some r := H
                         have A83 := Aside0.mk A830
                         clear A830
                         have HC84 := Aside0.mk H
                         clear H
                         have p434 : 0 ≤ (x157_5 : Int) := of_decide_eq_true (by first | (with_reducible assumption) | assumption)
                         have q434 : x157_5 < (t401.length : Int) := of_decide_eq_true (by first | (with_reducible assumption) | assumption)
                         obtain ⟨ad434, A434_0, c434_0, e434, hx434_0, hl434_0, hi434_0⟩ := at_L2 (Kd.S_reads' HO_155.out).2.2 x157_5 p434 q434
                         cases e434
                         obtain ⟨ce434, hce434, hMe434, hcc434⟩ := Kd.S_get HO_155.out [] x157_5 p434 (by first | exact q434 | exact of_decide_eq_true (by first | (with_reducible assumption) | assumption) | (have e_ := (Kd.S_reads' HO_155.out).1; omega))
                         obtain ⟨ve434_0, rfl, ge434_0⟩ := hMe434
                         have hv434_0 := hcc434 0 _ rfl
                         rw [Nat.add_zero, show ((Kd.slice 3 (Kd.int .i64))).sz = 1 from rfl, Nat.mul_one] at hv434_0
                         replace hv434_0 := Option.some.inj (hv434_0.symm.trans hx434_0)
                         rw [hv434_0] at ge434_0
                         have HL434_0 := Aside0.mk (show Kd.R (Kd.int .i64) 3 _ _ _ _ (rd_L2 t401 x157_5) from ge434_0)
                         clear hv434_0 ge434_0
                         clear hcc434 hce434
                         have HR434_0 := Aside0.mk hi434_0
                         have HC434_0 := Aside0.mk hl434_0
                         clear hi434_0 hl434_0
                         replace p434 := eq_true p434
                         replace q434 := eq_true q434
                         go_upto_region 27 with (first | ((with_reducible refine gate_callee (f := 53) rfl ?_); refine goesL_ (some 164) rfl rfl Try.func53 (by kernel_rfl) rfl #[.slice A434_0 (rd_L2 t401 x157_5).length c434_0] rfl (by (try simp only [List.map_toArray, List.map_cons, List.map_nil]); first | done | rfl | (simp only [List.length_drop, List.length_take]; rfl)) ?_; (with_reducible refine (impl_PruferOf.calls k5 _ _ (rd_L2 t401 x157_5) t435 t436 _ ?side1 ?side2 A83.out).mono ?_); (case side1 => repeat (first | exact (by repeat (first | (with_reducible exact HR434_0.out) | (with_reducible refine Kd.C_alloc ?_ _) | (with_reducible refine Kd.C_drewN ?_ _) | (with_reducible refine Kd.C_drew ?_) | exact HR434_0.out)) | (with_reducible refine Kd.C_alloc ?_ _) | (with_reducible refine Kd.C_drewN ?_ _) | (with_reducible refine Kd.C_drew ?_))); (case side2 => exact HC434_0.out); rintro e w85 ⟨v437, rfl, ho0, hb⟩; refine ⟨_, rfl, ?_⟩; have n0_ := Aside0.mk (Kd.S_elder' (by (with_reducible repeat (first | apply Kd.S_alloc | apply Kd.S_drewN | apply Kd.S_drew)); exact HO_6.out) (Kd.R_base ho0) hb); have n1_ := Aside0.mk (Kd.S_elder' (by (with_reducible repeat (first | apply Kd.S_alloc | apply Kd.S_drewN | apply Kd.S_drew)); exact HO_155.out) (Kd.R_base ho0) hb); have n2_ := Aside0.mk (Kd.R_elder' (by (with_reducible repeat (first | apply Kd.R_alloc | apply Kd.R_drewN | apply Kd.R_drew)); exact HL434_0.out) (Kd.R_base ho0) hb); have n3_ := Aside0.mk (Kd.R_lower (Kd.R_new' ho0 (Kd.R_lt (by (with_reducible repeat (first | apply Kd.R_alloc | apply Kd.R_drewN | apply Kd.R_drew)); exact HL434_0.out))) (below_size (by repeat (first | (with_reducible first | exact HB.out | apply below_alloc | apply pw_below_drewN | apply below_drew1) | exact HB.out)))); have n4_ := Aside0.mk (Kd.C_below (by repeat (first | (with_reducible exact HR434_0.out) | (with_reducible refine Kd.C_alloc ?_ _) | (with_reducible refine Kd.C_drewN ?_ _) | (with_reducible refine Kd.C_drew ?_) | exact HR434_0.out)) hb); have n5_ := Aside0.mk (below_step (by repeat (first | (with_reducible first | exact HB.out | apply below_alloc | apply pw_below_drewN | apply below_drew1) | exact HB.out)) hb); clear HO_6; clear HO_155; clear HL434_0; clear HR434_0; clear HB; have HO_6 := n0_; have HO_155 := n1_; have HL434_0 := n2_; have HO438 := n3_; have HR434_0 := n4_; have HB := n5_; clear n0_ n1_ n2_ n3_ n4_ n5_; (try clear hb); (try clear hb2); (try clear hk); (try clear hi); (try clear ho0)))
                         (try simp only [Act.put, List.setIfInBounds_toArray, List.set_cons_zero, List.set_cons_succ])
                         go_cut [173] (fun v173 wc => ∃ (kq : Nat) (x173_83 : Bool), v173 = .bool x173_83 ∧ Aside0 (laws_FnTreesListed.j5 kq t401 x157_5 t435 t401 (t401.length : Int) x157_5 x173_83 = some r) ∧ Aside0 (kq ≤ k5) ∧ Aside0 (Kd.S (Kd.slice 3 (Kd.int .i64)) 24 wc w.heap.size (fun k_ => some k_ ≠ (v437 : Value).ownBlock) (.slice (some ad434) t401.length co79) t401) ∧ Aside0 (Kd.R (Kd.int .i64) 3 wc w.heap.size (fun _ => True) v437 t435) ∧ Aside0 (Kd.S (Kd.slice 3 (Kd.int .i64)) 24 wc w.heap.size (fun k_ => some k_ ≠ (v437 : Value).ownBlock) (.slice (some ad434) t401.length co79) t401) ∧ Aside0 (Kd.C (Kd.int .i64) wc A434_0 (rd_L2 t401 x157_5).length (rd_L2 t401 x157_5)) ∧ Aside0 (Below w.heap.size w wc))
                         case first =>
                          have H := HC84.out
                          clear HC84
                          by_cases c86 : t436 = true
                          ·subst c86
                           have H1 : ((impl_IsTree.f k5 (rd_L2 t401 x157_5)).bind fun t439 => (laws_FnTreesListed.j5 k5 t401 x157_5 t435 t401 (t401.length : Int) x157_5 (!t439))) = some r := by rw [if_pos rfl] at H; exact H
                           clear H
                           have H := H1
                           clear H1
                           replace H := Option.bind_eq_some_iff.mp H
                           obtain ⟨t439, A870, H⟩ := H
                           replace H : (laws_FnTreesListed.j5 k5 t401 x157_5 t435 t401 (t401.length : Int) x157_5 (!t439)) = some r := H
                           have A87 := Aside0.mk A870
                           clear A870
                           have H' := Aside0.mk H
                           clear H
                           go_wp2_with (first | (go_at_call 54; (with_reducible refine (impl_IsTree.calls k5 _ _ (rd_L2 t401 x157_5) t439 _ ?side1 ?side2 A87.out).mono ?_); (case side1 => repeat (first | exact (by repeat (first | (with_reducible exact HR434_0.out) | (with_reducible refine Kd.C_alloc ?_ _) | (with_reducible refine Kd.C_drewN ?_ _) | (with_reducible refine Kd.C_drew ?_) | exact HR434_0.out)) | (with_reducible refine Kd.C_alloc ?_ _) | (with_reducible refine Kd.C_drewN ?_ _) | (with_reducible refine Kd.C_drew ?_))); (case side2 => exact HC434_0.out); rintro e w88 ⟨rfl, hb⟩; have n0_ := Aside0.mk (Kd.S_below (by (with_reducible repeat (first | apply Kd.S_alloc | apply Kd.S_drewN | apply Kd.S_drew)); exact HO_6.out) hb); have n1_ := Aside0.mk (Kd.S_below (by (with_reducible repeat (first | apply Kd.S_alloc | apply Kd.S_drewN | apply Kd.S_drew)); exact HO_155.out) hb); have n2_ := Aside0.mk (Kd.R_below (by (with_reducible repeat (first | apply Kd.R_alloc | apply Kd.R_drewN | apply Kd.R_drew)); exact HL434_0.out) hb); have n3_ := Aside0.mk (Kd.R_below (by (with_reducible repeat (first | apply Kd.R_alloc | apply Kd.R_drewN | apply Kd.R_drew)); exact HO438.out) hb); have n4_ := Aside0.mk (Kd.C_below (by repeat (first | (with_reducible exact HR434_0.out) | (with_reducible refine Kd.C_alloc ?_ _) | (with_reducible refine Kd.C_drewN ?_ _) | (with_reducible refine Kd.C_drew ?_) | exact HR434_0.out)) hb); have n5_ := Aside0.mk (below_step (by repeat (first | (with_reducible first | exact HB.out | apply below_alloc | apply pw_below_drewN | apply below_drew1) | exact HB.out)) hb); clear HO_6; clear HO_155; clear HL434_0; clear HO438; clear HR434_0; clear HB; have HO_6 := n0_; have HO_155 := n1_; have HL434_0 := n2_; have HO438 := n3_; have HR434_0 := n4_; have HB := n5_; clear n0_ n1_ n2_ n3_ n4_ n5_; (try clear hb); (try clear hb2); (try clear hk); (try clear hi)))
                           go_meet
                           case rel => exact ⟨_, (!t439), (by first | rfl | (simp; done) | (simp [*]; done)), H', ⟨by have := HJ9.out; have := HJ35.out; have := HJ53.out; have := HJ75.out; have := HK5.out; first | omega | exact Nat.le_refl _⟩, ⟨by (with_reducible repeat (first | apply Kd.S_alloc | apply Kd.S_drewN | apply Kd.S_drew)); exact Kd.S_mono HO_6.out (fun _ hk => hk.2)⟩, ⟨by (with_reducible repeat (first | apply Kd.R_alloc | apply Kd.R_drewN | apply Kd.R_drew)); exact Kd.R_mono HO438.out (fun _ hk => trivial)⟩, ⟨by (with_reducible repeat (first | apply Kd.S_alloc | apply Kd.S_drewN | apply Kd.S_drew)); exact Kd.S_mono HO_155.out (fun _ hk => hk.2)⟩, ⟨by repeat (first | (with_reducible exact HR434_0.out) | (with_reducible refine Kd.C_alloc ?_ _) | (with_reducible refine Kd.C_drewN ?_ _) | (with_reducible refine Kd.C_drew ?_) | exact HR434_0.out)⟩, ⟨by repeat (first | (with_reducible first | exact HB.out | apply below_alloc | apply pw_below_drewN | apply below_drew1) | exact HB.out)⟩⟩
                          ·replace c86 := Bool.eq_false_iff.mpr c86
                           subst c86
                           have H1 : (laws_FnTreesListed.j5 k5 t401 x157_5 t435 t401 (t401.length : Int) x157_5 true) = some r := by rw [if_neg (show ¬ (false = true) by decide)] at H; exact H
                           clear H
                           have H := H1
                           clear H1
                           have H' := Aside0.mk H
                           clear H
                           go_wp2
                           go_meet
                           case rel => exact ⟨_, (true), (by first | rfl | (simp; done) | (simp [*]; done)), H', ⟨by have := HJ9.out; have := HJ35.out; have := HJ53.out; have := HJ75.out; have := HK5.out; first | omega | exact Nat.le_refl _⟩, ⟨by (with_reducible repeat (first | apply Kd.S_alloc | apply Kd.S_drewN | apply Kd.S_drew)); exact Kd.S_mono HO_6.out (fun _ hk => hk.2)⟩, ⟨by (with_reducible repeat (first | apply Kd.R_alloc | apply Kd.R_drewN | apply Kd.R_drew)); exact Kd.R_mono HO438.out (fun _ hk => trivial)⟩, ⟨by (with_reducible repeat (first | apply Kd.S_alloc | apply Kd.S_drewN | apply Kd.S_drew)); exact Kd.S_mono HO_155.out (fun _ hk => hk.2)⟩, ⟨by repeat (first | (with_reducible exact HR434_0.out) | (with_reducible refine Kd.C_alloc ?_ _) | (with_reducible refine Kd.C_drewN ?_ _) | (with_reducible refine Kd.C_drew ?_) | exact HR434_0.out)⟩, ⟨by repeat (first | (with_reducible first | exact HB.out | apply below_alloc | apply pw_below_drewN | apply below_drew1) | exact HB.out)⟩⟩
                         case rest =>
                          clear HC84
                          try clear c1
                          try clear c2
                          try clear p2
                          try clear c3
                          try clear c4
                          try clear p4
                          try clear q4
                          try clear hx4
                          try clear c5
                          try clear c6
                          try clear c7
                          try clear c8
                          try clear c15
                          try clear c15b0
                          try clear c15b1
                          try clear c15b2
                          try clear c17
                          try clear c18
                          try clear c18b0
                          try clear c18b1
                          try clear c18b2
                          try clear c21
                          try clear c21b0
                          try clear c21b1
                          try clear c22
                          try clear c29
                          try clear c30
                          try clear c31
                          try clear c41
                          try clear c41b0
                          try clear c41b1
                          try clear c41b2
                          try clear c43
                          try clear p43
                          try clear q43
                          try clear hx43
                          try clear c44
                          try clear c44b0
                          try clear c44b1
                          try clear c44b2
                          try clear c45
                          try clear c46
                          try clear c47
                          try clear c48
                          try clear c49
                          try clear c50
                          try clear c51
                          try clear c52
                          try clear c53
                          try clear c55
                          try clear c58
                          try clear c59
                          try clear c61
                          try clear c61b0
                          try clear c61b1
                          try clear c62
                          try clear c62b0
                          try clear c62b1
                          try clear c77
                          try clear c78
                          try clear c80
                          try clear c80b0
                          try clear c81
                          try clear c81b0
                          try clear c82
                          try clear c82b0
                          try clear c86
                          try clear hx434_0
                          try clear p2
                          try clear p434
                          try clear q434
                          obtain ⟨kq, x173_83, rfl, HA, HJ83, HO_6, HO_27, HO_155, HR434_0, HB⟩ := hcut
                          cases kq with
                          | zero => exact absurd HA.out (by simp [laws_FnTreesListed.j5])
                          | succ kj83 =>
                           have H := HA.out
                           clear HA
                           simp only [laws_FnTreesListed.j5] at H
                           by_cases c89 : x173_83 = true
                           ·subst c89
                            have H1 : (some false) = some r := by rw [if_pos rfl] at H; exact H
                            clear H
                            have H := H1
                            clear H1
                            obtain rfl := Option.some.inj H
                            go_wp2
                            go_ret
                            exact ⟨by first | rfl | (simp [errW_none, errW_some] <;> rfl) | (simp [*, errW_none, errW_some] <;> rfl), by repeat (first | (with_reducible first | exact HB.out | apply below_alloc | apply pw_below_drewN | apply below_drew1) | exact HB.out)⟩
                           ·as_aux_lemma =>
                             replace c89 := Bool.eq_false_iff.mpr c89
                             subst c89
                             have H1 : (if x157_5 > 0 then (if 0 ≤ (wrap64 (x157_5 - 1)) then (if (wrap64 (x157_5 - 1)) < (t401.length : Int) then ((impl_PruferOf.f kj83 (rd_L2 t401 (wrap64 (x157_5 - 1)))).bind fun bt441 => (if bt441.2 = true then ((laws_wLess.f kj83 bt441.1 t435).bind fun t445 => (if t445 = true then (laws_FnTreesListed.l0 kj83 t401 t401 (t401.length : Int) (wrap64 (x157_5 + 1))) else (some false))) else (some false))) else (none)) else (none)) else (laws_FnTreesListed.l0 kj83 t401 t401 (t401.length : Int) (wrap64 (x157_5 + 1)))) = some r := by rw [if_neg (show ¬ (false = true) by decide)] at H; exact H
                             clear H
                             have H := H1
                             clear H1
                             by_cases c90 : x157_5 > 0
                             ·as_aux_lemma =>
                               rw [if_pos c90] at H
                               have c90b0 : decide (0 < x157_5) = true := decide_eq_true c90
                               clear c90
                               obtain ⟨ji91, hji91⟩ : ∃ j_ : Int, (wrap64 (x157_5 - 1)) = j_ := ⟨_, rfl⟩
                               replace H : (if 0 ≤ (ji91) then (if (ji91) < (t401.length : Int) then ((impl_PruferOf.f kj83 (rd_L2 t401 (ji91))).bind fun bt441 => (if bt441.2 = true then ((laws_wLess.f kj83 bt441.1 t435).bind fun t445 => (if t445 = true then (laws_FnTreesListed.l0 kj83 t401 t401 (t401.length : Int) (wrap64 (x157_5 + 1))) else (some false))) else (some false))) else (none)) else (none)) = some r := by first | (rw [hji91] at H; exact H) | (simp only [hji91] at H ⊢; exact H)
                               have hji91w : (IntKind.i64.wrap (x157_5 - 1)) = ji91 := (i64_w _).trans hji91
                               by_cases c92 : 0 ≤ (ji91)
                               ·as_aux_lemma =>
                                 rw [if_pos c92] at H
                                 have c92b0 : decide (0 ≤ (ji91)) = true := decide_eq_true c92
                                 clear c92
                                 by_cases c93 : (ji91) < (t401.length : Int)
                                 ·as_aux_lemma =>
                                   rw [if_pos c93] at H
                                   have c93b0 : decide ((ji91) < (t401.length : Int)) = true := decide_eq_true c93
                                   clear c93
                                   replace H := Option.bind_eq_some_iff.mp H
                                   obtain ⟨⟨t441, t442⟩, A940, H⟩ := H
                                   replace H : (if t442 = true then ((laws_wLess.f kj83 t441 t435).bind fun t445 => (if t445 = true then (laws_FnTreesListed.l0 kj83 t401 t401 (t401.length : Int) (wrap64 (x157_5 + 1))) else (some false))) else (some false)) = some r := H
                                   have A94 := Aside0.mk A940
                                   clear A940
                                   by_cases c95 : t442 = true
                                   ·subst c95
                                    have H1 : ((laws_wLess.f kj83 t441 t435).bind fun t445 => (if t445 = true then (laws_FnTreesListed.l0 kj83 t401 t401 (t401.length : Int) (wrap64 (x157_5 + 1))) else (some false))) = some r := by rw [if_pos rfl] at H; exact H
                                    clear H
                                    have H := H1
                                    clear H1
                                    replace H := Option.bind_eq_some_iff.mp H
                                    obtain ⟨t445, A960, H⟩ := H
                                    replace H : (if t445 = true then (laws_FnTreesListed.l0 kj83 t401 t401 (t401.length : Int) (wrap64 (x157_5 + 1))) else (some false)) = some r := H
                                    have A96 := Aside0.mk A960
                                    clear A960
                                    by_cases c97 : t445 = true
                                    ·subst c97
                                     have H1 : (laws_FnTreesListed.l0 kj83 t401 t401 (t401.length : Int) (wrap64 (x157_5 + 1))) = some r := by rw [if_pos rfl] at H; exact H
                                     clear H
                                     have H := H1
                                     clear H1
                                     have H' := Aside0.mk H
                                     clear H
                                     have p440 : 0 ≤ ((ji91) : Int) := of_decide_eq_true (by first | (with_reducible assumption) | assumption)
                                     have q440 : (ji91) < (t401.length : Int) := of_decide_eq_true (by first | (with_reducible assumption) | assumption)
                                     obtain ⟨ad440, A440_0, c440_0, e440, hx440_0, hl440_0, hi440_0⟩ := at_L2 (Kd.S_reads' HO_6.out).2.2 (ji91) p440 q440
                                     obtain rfl : ad434 = ad440 := (by injection e440)
                                     obtain ⟨ce440, hce440, hMe440, hcc440⟩ := Kd.S_get HO_6.out [] (ji91) p440 (by first | exact q440 | exact of_decide_eq_true (by first | (with_reducible assumption) | assumption) | (have e_ := (Kd.S_reads' HO_6.out).1; omega))
                                     obtain ⟨ve440_0, rfl, ge440_0⟩ := hMe440
                                     have hv440_0 := hcc440 0 _ rfl
                                     rw [Nat.add_zero, show ((Kd.slice 3 (Kd.int .i64))).sz = 1 from rfl, Nat.mul_one] at hv440_0
                                     replace hv440_0 := Option.some.inj (hv440_0.symm.trans hx440_0)
                                     rw [hv440_0] at ge440_0
                                     have HL440_0 := Aside0.mk (show Kd.R (Kd.int .i64) 3 _ _ _ _ (rd_L2 t401 (ji91)) from ge440_0)
                                     clear hv440_0 ge440_0
                                     clear hcc440 hce440
                                     have HR440_0 := Aside0.mk hi440_0
                                     have HC440_0 := Aside0.mk hl440_0
                                     clear hi440_0 hl440_0
                                     replace p440 := eq_true p440
                                     replace q440 := eq_true q440
                                     go_wp2_with (first | ((with_reducible refine gate_callee (f := 53) rfl ?_); refine goesL_ (some 182) rfl rfl Try.func53 (by kernel_rfl) rfl #[.slice A440_0 (rd_L2 t401 (ji91)).length c440_0] rfl (by (try simp only [List.map_toArray, List.map_cons, List.map_nil]); first | done | (simp only [hji91]; rfl) | rfl | (simp only [List.length_drop, List.length_take]; rfl)) ?_; (with_reducible refine (impl_PruferOf.calls kj83 _ _ (rd_L2 t401 (ji91)) t441 true _ ?side1 ?side2 A94.out).mono ?_); (case side1 => repeat (first | exact (by repeat (first | (with_reducible exact HR440_0.out) | (with_reducible refine Kd.C_alloc ?_ _) | (with_reducible refine Kd.C_drewN ?_ _) | (with_reducible refine Kd.C_drew ?_) | exact HR440_0.out)) | (with_reducible refine Kd.C_alloc ?_ _) | (with_reducible refine Kd.C_drewN ?_ _) | (with_reducible refine Kd.C_drew ?_))); (case side2 => exact HC440_0.out); rintro e w98 ⟨v443, rfl, ho0, hb⟩; refine ⟨_, rfl, ?_⟩; have n0_ := Aside0.mk (Kd.S_elder' (by (with_reducible repeat (first | apply Kd.S_alloc | apply Kd.S_drewN | apply Kd.S_drew)); exact HO_6.out) (Kd.R_base ho0) hb); have n1_ := Aside0.mk (Kd.R_elder' (by (with_reducible repeat (first | apply Kd.R_alloc | apply Kd.R_drewN | apply Kd.R_drew)); exact HO_27.out) (Kd.R_base ho0) hb); have n2_ := Aside0.mk (Kd.S_elder' (by (with_reducible repeat (first | apply Kd.S_alloc | apply Kd.S_drewN | apply Kd.S_drew)); exact HO_155.out) (Kd.R_base ho0) hb); have n3_ := Aside0.mk (Kd.R_elder' (by (with_reducible repeat (first | apply Kd.R_alloc | apply Kd.R_drewN | apply Kd.R_drew)); exact HL440_0.out) (Kd.R_base ho0) hb); have n4_ := Aside0.mk (Kd.R_lower (Kd.R_new' (Kd.R_new' ho0 (Kd.R_lt (by (with_reducible repeat (first | apply Kd.R_alloc | apply Kd.R_drewN | apply Kd.R_drew)); exact HO_27.out))) (Kd.R_lt (by (with_reducible repeat (first | apply Kd.R_alloc | apply Kd.R_drewN | apply Kd.R_drew)); exact HL440_0.out))) (below_size (by repeat (first | (with_reducible first | exact HB.out | apply below_alloc | apply pw_below_drewN | apply below_drew1) | exact HB.out)))); have n5_ := Aside0.mk (Kd.C_below (by repeat (first | (with_reducible exact HR434_0.out) | (with_reducible refine Kd.C_alloc ?_ _) | (with_reducible refine Kd.C_drewN ?_ _) | (with_reducible refine Kd.C_drew ?_) | exact HR434_0.out)) hb); have n6_ := Aside0.mk (Kd.C_below (by repeat (first | (with_reducible exact HR440_0.out) | (with_reducible refine Kd.C_alloc ?_ _) | (with_reducible refine Kd.C_drewN ?_ _) | (with_reducible refine Kd.C_drew ?_) | exact HR440_0.out)) hb); have n7_ := Aside0.mk (below_step (by repeat (first | (with_reducible first | exact HB.out | apply below_alloc | apply pw_below_drewN | apply below_drew1) | exact HB.out)) hb); clear HO_6; clear HO_27; clear HO_155; clear HL440_0; clear HR434_0; clear HR440_0; clear HB; have HO_6 := n0_; have HO_27 := n1_; have HO_155 := n2_; have HL440_0 := n3_; have HO444 := n4_; have HR434_0 := n5_; have HR440_0 := n6_; have HB := n7_; clear n0_ n1_ n2_ n3_ n4_ n5_ n6_ n7_; (try clear hb); (try clear hb2); (try clear hk); (try clear hi); (try clear ho0); obtain ⟨Ao99, co99, eo99⟩ := Kd.R_slice HO444.out; subst eo99; obtain ⟨Ao100, co100, eo100⟩ := Kd.R_slice HO_27.out; subst eo100) | (go_at_call 27; (with_reducible refine (laws_wLess.calls kj83 _ _ t441 _ _ t435 true _ ?side1 ?side2 ?side3 ?side4 A96.out).mono ?_); (case side1 => repeat (first | exact (Kd.R_reads' HO444.out).2.2 | (with_reducible refine Kd.C_alloc ?_ _) | (with_reducible refine Kd.C_drewN ?_ _) | (with_reducible refine Kd.C_drew ?_))); (case side2 => exact (Kd.R_reads' HO444.out).2.1); (case side3 => repeat (first | exact (Kd.R_reads' HO_27.out).2.2 | (with_reducible refine Kd.C_alloc ?_ _) | (with_reducible refine Kd.C_drewN ?_ _) | (with_reducible refine Kd.C_drew ?_))); (case side4 => exact (Kd.R_reads' HO_27.out).2.1); rintro e w' ⟨rfl, ⟨nd, rfl⟩⟩))
                                     go_roundg kj83
                                     case measure => have := HJ9.out; have := HJ35.out; have := HJ53.out; have := HJ75.out; have := HK5.out; have := HJ83.out; omega
                                     case rel => exact ⟨(wrap64 (x157_5 + 1)), (by first | rfl | (simp; done) | (simp [*]; done)), H', ⟨by have := HJ9.out; have := HJ35.out; have := HJ53.out; have := HJ75.out; have := HK5.out; have := HJ83.out; omega⟩, ⟨by (with_reducible repeat (first | apply Kd.S_alloc | apply Kd.S_drewN | apply Kd.S_drew)); exact Kd.S_mono HO_6.out (fun _ hk => trivial)⟩, ⟨by (with_reducible repeat (first | apply Kd.S_alloc | apply Kd.S_drewN | apply Kd.S_drew)); exact Kd.S_mono HO_155.out (fun _ hk => trivial)⟩, ⟨by repeat (first | (with_reducible first | exact HB.out | apply below_alloc | apply pw_below_drewN | apply below_drew1) | exact HB.out)⟩⟩
                                    ·replace c97 := Bool.eq_false_iff.mpr c97
                                     subst c97
                                     have H1 : (some false) = some r := by rw [if_neg (show ¬ (false = true) by decide)] at H; exact H
                                     clear H
                                     have H := H1
                                     clear H1
                                     obtain rfl := Option.some.inj H
                                     have p440 : 0 ≤ ((ji91) : Int) := of_decide_eq_true (by first | (with_reducible assumption) | assumption)
                                     have q440 : (ji91) < (t401.length : Int) := of_decide_eq_true (by first | (with_reducible assumption) | assumption)
                                     obtain ⟨ad440, A440_0, c440_0, e440, hx440_0, hl440_0, hi440_0⟩ := at_L2 (Kd.S_reads' HO_6.out).2.2 (ji91) p440 q440
                                     obtain rfl : ad434 = ad440 := (by injection e440)
                                     obtain ⟨ce440, hce440, hMe440, hcc440⟩ := Kd.S_get HO_6.out [] (ji91) p440 (by first | exact q440 | exact of_decide_eq_true (by first | (with_reducible assumption) | assumption) | (have e_ := (Kd.S_reads' HO_6.out).1; omega))
                                     obtain ⟨ve440_0, rfl, ge440_0⟩ := hMe440
                                     have hv440_0 := hcc440 0 _ rfl
                                     rw [Nat.add_zero, show ((Kd.slice 3 (Kd.int .i64))).sz = 1 from rfl, Nat.mul_one] at hv440_0
                                     replace hv440_0 := Option.some.inj (hv440_0.symm.trans hx440_0)
                                     rw [hv440_0] at ge440_0
                                     have HL440_0 := Aside0.mk (show Kd.R (Kd.int .i64) 3 _ _ _ _ (rd_L2 t401 (ji91)) from ge440_0)
                                     clear hv440_0 ge440_0
                                     clear hcc440 hce440
                                     have HR440_0 := Aside0.mk hi440_0
                                     have HC440_0 := Aside0.mk hl440_0
                                     clear hi440_0 hl440_0
                                     replace p440 := eq_true p440
                                     replace q440 := eq_true q440
                                     go_wp2_with (first | ((with_reducible refine gate_callee (f := 53) rfl ?_); refine goesL_ (some 182) rfl rfl Try.func53 (by kernel_rfl) rfl #[.slice A440_0 (rd_L2 t401 (ji91)).length c440_0] rfl (by (try simp only [List.map_toArray, List.map_cons, List.map_nil]); first | done | (simp only [hji91]; rfl) | rfl | (simp only [List.length_drop, List.length_take]; rfl)) ?_; (with_reducible refine (impl_PruferOf.calls kj83 _ _ (rd_L2 t401 (ji91)) t441 true _ ?side1 ?side2 A94.out).mono ?_); (case side1 => repeat (first | exact (by repeat (first | (with_reducible exact HR440_0.out) | (with_reducible refine Kd.C_alloc ?_ _) | (with_reducible refine Kd.C_drewN ?_ _) | (with_reducible refine Kd.C_drew ?_) | exact HR440_0.out)) | (with_reducible refine Kd.C_alloc ?_ _) | (with_reducible refine Kd.C_drewN ?_ _) | (with_reducible refine Kd.C_drew ?_))); (case side2 => exact HC440_0.out); rintro e w101 ⟨v443, rfl, ho0, hb⟩; refine ⟨_, rfl, ?_⟩; have n0_ := Aside0.mk (Kd.S_elder' (by (with_reducible repeat (first | apply Kd.S_alloc | apply Kd.S_drewN | apply Kd.S_drew)); exact HO_6.out) (Kd.R_base ho0) hb); have n1_ := Aside0.mk (Kd.R_elder' (by (with_reducible repeat (first | apply Kd.R_alloc | apply Kd.R_drewN | apply Kd.R_drew)); exact HO_27.out) (Kd.R_base ho0) hb); have n2_ := Aside0.mk (Kd.S_elder' (by (with_reducible repeat (first | apply Kd.S_alloc | apply Kd.S_drewN | apply Kd.S_drew)); exact HO_155.out) (Kd.R_base ho0) hb); have n3_ := Aside0.mk (Kd.R_elder' (by (with_reducible repeat (first | apply Kd.R_alloc | apply Kd.R_drewN | apply Kd.R_drew)); exact HL440_0.out) (Kd.R_base ho0) hb); have n4_ := Aside0.mk (Kd.R_lower (Kd.R_new' (Kd.R_new' ho0 (Kd.R_lt (by (with_reducible repeat (first | apply Kd.R_alloc | apply Kd.R_drewN | apply Kd.R_drew)); exact HO_27.out))) (Kd.R_lt (by (with_reducible repeat (first | apply Kd.R_alloc | apply Kd.R_drewN | apply Kd.R_drew)); exact HL440_0.out))) (below_size (by repeat (first | (with_reducible first | exact HB.out | apply below_alloc | apply pw_below_drewN | apply below_drew1) | exact HB.out)))); have n5_ := Aside0.mk (Kd.C_below (by repeat (first | (with_reducible exact HR434_0.out) | (with_reducible refine Kd.C_alloc ?_ _) | (with_reducible refine Kd.C_drewN ?_ _) | (with_reducible refine Kd.C_drew ?_) | exact HR434_0.out)) hb); have n6_ := Aside0.mk (Kd.C_below (by repeat (first | (with_reducible exact HR440_0.out) | (with_reducible refine Kd.C_alloc ?_ _) | (with_reducible refine Kd.C_drewN ?_ _) | (with_reducible refine Kd.C_drew ?_) | exact HR440_0.out)) hb); have n7_ := Aside0.mk (below_step (by repeat (first | (with_reducible first | exact HB.out | apply below_alloc | apply pw_below_drewN | apply below_drew1) | exact HB.out)) hb); clear HO_6; clear HO_27; clear HO_155; clear HL440_0; clear HR434_0; clear HR440_0; clear HB; have HO_6 := n0_; have HO_27 := n1_; have HO_155 := n2_; have HL440_0 := n3_; have HO444 := n4_; have HR434_0 := n5_; have HR440_0 := n6_; have HB := n7_; clear n0_ n1_ n2_ n3_ n4_ n5_ n6_ n7_; (try clear hb); (try clear hb2); (try clear hk); (try clear hi); (try clear ho0); obtain ⟨Ao102, co102, eo102⟩ := Kd.R_slice HO444.out; subst eo102; obtain ⟨Ao103, co103, eo103⟩ := Kd.R_slice HO_27.out; subst eo103) | (go_at_call 27; (with_reducible refine (laws_wLess.calls kj83 _ _ t441 _ _ t435 false _ ?side1 ?side2 ?side3 ?side4 A96.out).mono ?_); (case side1 => repeat (first | exact (Kd.R_reads' HO444.out).2.2 | (with_reducible refine Kd.C_alloc ?_ _) | (with_reducible refine Kd.C_drewN ?_ _) | (with_reducible refine Kd.C_drew ?_))); (case side2 => exact (Kd.R_reads' HO444.out).2.1); (case side3 => repeat (first | exact (Kd.R_reads' HO_27.out).2.2 | (with_reducible refine Kd.C_alloc ?_ _) | (with_reducible refine Kd.C_drewN ?_ _) | (with_reducible refine Kd.C_drew ?_))); (case side4 => exact (Kd.R_reads' HO_27.out).2.1); rintro e w' ⟨rfl, ⟨nd, rfl⟩⟩))
                                     go_ret
                                     exact ⟨by first | rfl | (simp [errW_none, errW_some] <;> rfl) | (simp only [← hji91]; first | rfl | (simp [errW_none, errW_some] <;> rfl)) | (simp [*, errW_none, errW_some] <;> rfl), by repeat (first | (with_reducible first | exact HB.out | apply below_alloc | apply pw_below_drewN | apply below_drew1) | exact HB.out)⟩
                                   ·replace c95 := Bool.eq_false_iff.mpr c95
                                    subst c95
                                    have H1 : (some false) = some r := by rw [if_neg (show ¬ (false = true) by decide)] at H; exact H
                                    clear H
                                    have H := H1
                                    clear H1
                                    obtain rfl := Option.some.inj H
                                    have p440 : 0 ≤ ((ji91) : Int) := of_decide_eq_true (by first | (with_reducible assumption) | assumption)
                                    have q440 : (ji91) < (t401.length : Int) := of_decide_eq_true (by first | (with_reducible assumption) | assumption)
                                    obtain ⟨ad440, A440_0, c440_0, e440, hx440_0, hl440_0, hi440_0⟩ := at_L2 (Kd.S_reads' HO_6.out).2.2 (ji91) p440 q440
                                    obtain rfl : ad434 = ad440 := (by injection e440)
                                    obtain ⟨ce440, hce440, hMe440, hcc440⟩ := Kd.S_get HO_6.out [] (ji91) p440 (by first | exact q440 | exact of_decide_eq_true (by first | (with_reducible assumption) | assumption) | (have e_ := (Kd.S_reads' HO_6.out).1; omega))
                                    obtain ⟨ve440_0, rfl, ge440_0⟩ := hMe440
                                    have hv440_0 := hcc440 0 _ rfl
                                    rw [Nat.add_zero, show ((Kd.slice 3 (Kd.int .i64))).sz = 1 from rfl, Nat.mul_one] at hv440_0
                                    replace hv440_0 := Option.some.inj (hv440_0.symm.trans hx440_0)
                                    rw [hv440_0] at ge440_0
                                    have HL440_0 := Aside0.mk (show Kd.R (Kd.int .i64) 3 _ _ _ _ (rd_L2 t401 (ji91)) from ge440_0)
                                    clear hv440_0 ge440_0
                                    clear hcc440 hce440
                                    have HR440_0 := Aside0.mk hi440_0
                                    have HC440_0 := Aside0.mk hl440_0
                                    clear hi440_0 hl440_0
                                    replace p440 := eq_true p440
                                    replace q440 := eq_true q440
                                    go_wp2_with (first | ((with_reducible refine gate_callee (f := 53) rfl ?_); refine goesL_ (some 182) rfl rfl Try.func53 (by kernel_rfl) rfl #[.slice A440_0 (rd_L2 t401 (ji91)).length c440_0] rfl (by (try simp only [List.map_toArray, List.map_cons, List.map_nil]); first | done | (simp only [hji91]; rfl) | rfl | (simp only [List.length_drop, List.length_take]; rfl)) ?_; (with_reducible refine (impl_PruferOf.calls kj83 _ _ (rd_L2 t401 (ji91)) t441 false _ ?side1 ?side2 A94.out).mono ?_); (case side1 => repeat (first | exact (by repeat (first | (with_reducible exact HR440_0.out) | (with_reducible refine Kd.C_alloc ?_ _) | (with_reducible refine Kd.C_drewN ?_ _) | (with_reducible refine Kd.C_drew ?_) | exact HR440_0.out)) | (with_reducible refine Kd.C_alloc ?_ _) | (with_reducible refine Kd.C_drewN ?_ _) | (with_reducible refine Kd.C_drew ?_))); (case side2 => exact HC440_0.out); rintro e w104 ⟨v443, rfl, ho0, hb⟩; refine ⟨_, rfl, ?_⟩; have n0_ := Aside0.mk (Kd.S_elder' (by (with_reducible repeat (first | apply Kd.S_alloc | apply Kd.S_drewN | apply Kd.S_drew)); exact HO_6.out) (Kd.R_base ho0) hb); have n1_ := Aside0.mk (Kd.R_elder' (by (with_reducible repeat (first | apply Kd.R_alloc | apply Kd.R_drewN | apply Kd.R_drew)); exact HO_27.out) (Kd.R_base ho0) hb); have n2_ := Aside0.mk (Kd.S_elder' (by (with_reducible repeat (first | apply Kd.S_alloc | apply Kd.S_drewN | apply Kd.S_drew)); exact HO_155.out) (Kd.R_base ho0) hb); have n3_ := Aside0.mk (Kd.R_elder' (by (with_reducible repeat (first | apply Kd.R_alloc | apply Kd.R_drewN | apply Kd.R_drew)); exact HL440_0.out) (Kd.R_base ho0) hb); have n4_ := Aside0.mk (Kd.R_lower (Kd.R_new' (Kd.R_new' ho0 (Kd.R_lt (by (with_reducible repeat (first | apply Kd.R_alloc | apply Kd.R_drewN | apply Kd.R_drew)); exact HO_27.out))) (Kd.R_lt (by (with_reducible repeat (first | apply Kd.R_alloc | apply Kd.R_drewN | apply Kd.R_drew)); exact HL440_0.out))) (below_size (by repeat (first | (with_reducible first | exact HB.out | apply below_alloc | apply pw_below_drewN | apply below_drew1) | exact HB.out)))); have n5_ := Aside0.mk (Kd.C_below (by repeat (first | (with_reducible exact HR434_0.out) | (with_reducible refine Kd.C_alloc ?_ _) | (with_reducible refine Kd.C_drewN ?_ _) | (with_reducible refine Kd.C_drew ?_) | exact HR434_0.out)) hb); have n6_ := Aside0.mk (Kd.C_below (by repeat (first | (with_reducible exact HR440_0.out) | (with_reducible refine Kd.C_alloc ?_ _) | (with_reducible refine Kd.C_drewN ?_ _) | (with_reducible refine Kd.C_drew ?_) | exact HR440_0.out)) hb); have n7_ := Aside0.mk (below_step (by repeat (first | (with_reducible first | exact HB.out | apply below_alloc | apply pw_below_drewN | apply below_drew1) | exact HB.out)) hb); clear HO_6; clear HO_27; clear HO_155; clear HL440_0; clear HR434_0; clear HR440_0; clear HB; have HO_6 := n0_; have HO_27 := n1_; have HO_155 := n2_; have HL440_0 := n3_; have HO444 := n4_; have HR434_0 := n5_; have HR440_0 := n6_; have HB := n7_; clear n0_ n1_ n2_ n3_ n4_ n5_ n6_ n7_; (try clear hb); (try clear hb2); (try clear hk); (try clear hi); (try clear ho0)))
                                    go_ret
                                    exact ⟨by first | rfl | (simp [errW_none, errW_some] <;> rfl) | (simp only [← hji91]; first | rfl | (simp [errW_none, errW_some] <;> rfl)) | (simp [*, errW_none, errW_some] <;> rfl), by repeat (first | (with_reducible first | exact HB.out | apply below_alloc | apply pw_below_drewN | apply below_drew1) | exact HB.out)⟩
                                 ·rw [if_neg c93] at H
                                  exact absurd H (by simp)
                               ·rw [if_neg c92] at H
                                exact absurd H (by simp)
                             ·rw [if_neg c90] at H
                              have c90b0 : decide (0 < x157_5) = false := decide_eq_false c90
                              clear c90
                              have H' := Aside0.mk H
                              clear H
                              go_wp2
                              go_roundg kj83
                              case measure => have := HJ9.out; have := HJ35.out; have := HJ53.out; have := HJ75.out; have := HK5.out; have := HJ83.out; omega
                              case rel => exact ⟨(wrap64 (x157_5 + 1)), (by first | rfl | (simp; done) | (simp [*]; done)), H', ⟨by have := HJ9.out; have := HJ35.out; have := HJ53.out; have := HJ75.out; have := HK5.out; have := HJ83.out; omega⟩, ⟨by (with_reducible repeat (first | apply Kd.S_alloc | apply Kd.S_drewN | apply Kd.S_drew)); exact Kd.S_mono HO_6.out (fun _ hk => trivial)⟩, ⟨by (with_reducible repeat (first | apply Kd.S_alloc | apply Kd.S_drewN | apply Kd.S_drew)); exact Kd.S_mono HO_155.out (fun _ hk => trivial)⟩, ⟨by repeat (first | (with_reducible first | exact HB.out | apply below_alloc | apply pw_below_drewN | apply below_drew1) | exact HB.out)⟩⟩
                       ·rw [if_neg c82] at H
                        exact absurd H (by simp)
                     ·rw [if_neg c81] at H
                      exact absurd H (by simp)
                   ·rw [if_neg c80] at H
                    have c80b0 : decide (x157_5 < (t401.length : Int)) = false := decide_eq_false c80
                    clear c80
                    obtain rfl := Option.some.inj H
                    go_wp2
                    go_ret
                    exact ⟨by first | rfl | (simp [errW_none, errW_some] <;> rfl) | (simp [*, errW_none, errW_some] <;> rfl), by repeat (first | (with_reducible first | exact HB.out | apply below_alloc | apply pw_below_drewN | apply below_drew1) | exact HB.out)⟩

/-- THE ONE PURE STATEMENT of laws_FnTreesListed: yours. -/
def laws_FnTreesListed.Pure : Prop := ∀ (l0 : List Int) (l1 : List Int), l0.length ≤ maxLen → l0.length * 1 ≤ 140737488351232 → (∀ x ∈ l0, (Lit.int .u8 x).wf = true) → l1.length ≤ maxLen → l1.length * 1 ≤ 140737488351232 → (∀ x ∈ l1, (Lit.int .u8 x).wf = true) → ∃ k, laws_FnTreesListed.f k l0 l1 = some true
theorem laws_FnTreesListed.walk (P : laws_FnTreesListed.Pure) (a0 : Option Addr) (len0 cap0 : Nat) (z0 : List Int) (a1 : Option Addr) (len1 cap1 : Nat) (z1 : List Int) (w : World) (w0 : (a0 = none ∧ len0 = 0 ∧ cap0 = 0 ∧ z0 = []) ∨ ∃ x, a0 = some x ∧ len0 ≤ cap0 ∧ cap0 ≤ maxLen ∧ z0.length = cap0 ∧ (∀ i, i < z0.length → w.cell? (x.add i) = some (.int .u8 (z0.getD i 0))) ∧ ∀ n ∈ z0, (Lit.int .u8 n).wf = true) (y0 : len0 * 1 ≤ 140737488351232) (w1 : (a1 = none ∧ len1 = 0 ∧ cap1 = 0 ∧ z1 = []) ∨ ∃ x, a1 = some x ∧ len1 ≤ cap1 ∧ cap1 ≤ maxLen ∧ z1.length = cap1 ∧ (∀ i, i < z1.length → w.cell? (x.add i) = some (.int .u8 (z1.getD i 0))) ∧ ∀ n ∈ z1, (Lit.int .u8 n).wf = true) (y1 : len1 * 1 ≤ 140737488351232) :
  Calls Try.prog 6 #[.slice a0 len0 cap0, .slice a1 len1 cap1] w fun e w' => e = .returned (.bool true) ∧ Below w.heap.size w w' := by
 obtain ⟨l0, rfl, hr0, hm0, hw0, hc0⟩ := ReadsInt.ofRowC w0
 obtain ⟨l1, rfl, hr1, hm1, hw1, hc1⟩ := ReadsInt.ofRowC w1
 obtain ⟨k, h⟩ := P l0 l1 hm0 y0 hw0 hm1 y1 hw1
 refine (laws_FnTreesListed.calls k _ _ l0 _ _ l1 true w (Kd.C_of_reads (d := (0 : Int)) (h1 := fun _ => rfl) hr0) hc0 (Kd.C_of_reads (d := (0 : Int)) (h1 := fun _ => rfl) hr1) hc1 h).mono ?_
 rintro e w' ⟨rfl, hd⟩
 exact ⟨rfl, hd⟩

end Go.Proofs.Ytkbdjbmalpkkfaa.PFnTreesListed
