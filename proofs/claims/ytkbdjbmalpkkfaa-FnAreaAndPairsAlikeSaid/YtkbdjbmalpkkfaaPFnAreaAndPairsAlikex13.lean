-- Written by a program of this session for this claim (its own turn of the print).
import Derived.Test.YtkbdjbmalpkkfaaPFnAreaAndPairsAlikex0
import Derived.Test.YtkbdjbmalpkkfaaPFnAreaAndPairsAlikex1
import Derived.Test.YtkbdjbmalpkkfaaPFnAreaAndPairsAlikex6
import Derived.Test.YtkbdjbmalpkkfaaPFnAreaAndPairsAlikex9
import Derived.Test.YtkbdjbmalpkkfaaPFnAreaAndPairsAlikex10
import Derived.Test.YtkbdjbmalpkkfaaPFnAreaAndPairsAlikex11
import Derived.Test.YtkbdjbmalpkkfaaPFnAreaAndPairsAlikex12
namespace Go.Proofs.Ytkbdjbmalpkkfaa.PFnAreaAndPairsAlike
open Go.RowKit Go.Proofs.YtkbdjbmalpkkfaaW.PrintWords Go.Proofs.YtkbdjbmalpkkfaaW.PrintLast Go.Proofs.YtkbdjbmalpkkfaaW.PrintMore
attribute [local go_sem] max2_int min2_int max_two min_two max_three min_three max_four min_four   -- for this text's walks alone
set_option linter.unusedVariables false
set_option linter.unusedSimpArgs false

/-! ### laws_FnAreaAndPairsAlike: function 4 -/
mutual
def laws_FnAreaAndPairsAlike.j0 : Nat → List Int → Int → List (List Int) → Bool → Bool → Option (Bool)
 | 0, _, _, _, _, _ => none
 | k + 1, x1, x5, x6, x9, x64 => if x64 = true then (some false) else ((spec_DrawAllHeights.f x1).bind fun t463 => ((impl_AllHeights.f k t463).bind fun bt464 => ((spec_AllHeights.f k t463).bind fun bt468 => ((impl_CountHeights.f k t463).bind fun bt472 => ((spec_CountHeights.f k t463).bind fun bt474 => (if (bt464.2 != bt468.2) = true then (laws_FnAreaAndPairsAlike.j1 k x5 x6 x9 t463 bt464.1 bt464.2 true) else ((laws_wSameLists.f k bt464.1 bt468.1).bind fun t476 => (if t476 = true then (if (bt472.2 != bt474.2) = true then (laws_FnAreaAndPairsAlike.j1 k x5 x6 x9 t463 bt464.1 bt464.2 true) else (if bt472.1 = bt474.1 then (if bt464.2 = true then (laws_FnAreaAndPairsAlike.j1 k x5 x6 x9 t463 bt464.1 bt464.2 (bt472.1 != (bt464.1.length : Int))) else (laws_FnAreaAndPairsAlike.j1 k x5 x6 x9 t463 bt464.1 bt464.2 false)) else (laws_FnAreaAndPairsAlike.j1 k x5 x6 x9 t463 bt464.1 bt464.2 true))) else (laws_FnAreaAndPairsAlike.j1 k x5 x6 x9 t463 bt464.1 bt464.2 true)))))))))
def laws_FnAreaAndPairsAlike.j1 : Nat → Int → List (List Int) → Bool → Int → List (List Int) → Bool → Bool → Option (Bool)
 | 0, _, _, _, _, _, _, _ => none
 | k + 1, x5, x6, x9, x10, x11, x12, x114 => if x114 = true then (some false) else (if x12 = true then (if 30 ≤ 35184372088832 then (laws_FnAreaAndPairsAlike.l0 k x5 x6 x9 x10 x11 (List.replicate 30 0) (List.replicate 30 0) 0 x11 (x11.length : Int) 0) else (none)) else (laws_FnAreaAndPairsAlike.j3 k x5 x6 x9))
def laws_FnAreaAndPairsAlike.j3 : Nat → Int → List (List Int) → Bool → Option (Bool)
 | 0, _, _, _ => none
 | k + 1, x5, x6, x9 => if x9 = true then (laws_FnAreaAndPairsAlike.l1 k x5 x6 0 x6 (x6.length : Int) 0) else (some true)
def laws_FnAreaAndPairsAlike.l1 : Nat → Int → List (List Int) → Int → List (List Int) → Int → Int → Option (Bool)
 | 0, _, _, _, _, _, _ => none
 | k + 1, x5, x6, x30, x200, x201, x202 => if x202 < x201 then (if 0 ≤ x202 then (if x202 < (x200.length : Int) then (laws_FnAreaAndPairsAlike.l2 k x5 x6 x30 x202 x200 x201 x202 (rd_L2 x200 x202) ((rd_L2 x200 x202).length : Int) 0) else (none)) else (none)) else ((impl_CountParking.f k x5).bind fun bt507 => ((impl_CountByDistance.f k x5).bind fun bt509 => (if bt507.2 = true then (if bt509.2 = true then (laws_FnAreaAndPairsAlike.j6 k x6 bt509.1 (x30 != bt507.1)) else (laws_FnAreaAndPairsAlike.j6 k x6 bt509.1 true)) else (laws_FnAreaAndPairsAlike.j6 k x6 bt509.1 true))))
def laws_FnAreaAndPairsAlike.l2 : Nat → Int → List (List Int) → Int → Int → List (List Int) → Int → Int → List Int → Int → Int → Option (Bool)
 | 0, _, _, _, _, _, _, _, _, _, _ => none
 | k + 1, x5, x6, x30, x31, x200, x201, x202, x207, x208, x209 => if x209 < x208 then (if 0 ≤ x209 then (if x209 < (x207.length : Int) then (if x209 < (x6.length : Int) then (if 0 ≤ x31 then (if x31 < ((rd_L2 x6 x209).length : Int) then (if (rd x207 x209) = (rd (rd_L2 x6 x209) x31) then (laws_FnAreaAndPairsAlike.l2 k x5 x6 (wrap64 (x30 + (rd x207 x209))) x31 x200 x201 x202 x207 x208 (wrap64 (x209 + 1))) else (some false)) else (none)) else (none)) else (none)) else (none)) else (none)) else (laws_FnAreaAndPairsAlike.l1 k x5 x6 x30 x200 x201 (wrap64 (x202 + 1)))
def laws_FnAreaAndPairsAlike.j6 : Nat → List (List Int) → List Int → Bool → Option (Bool)
 | 0, _, _, _ => none
 | k + 1, x6, x37, x248 => if x248 = true then (some false) else (laws_FnAreaAndPairsAlike.l3 k x37 x6 (x6.length : Int) 0)
def laws_FnAreaAndPairsAlike.l3 : Nat → List Int → List (List Int) → Int → Int → Option (Bool)
 | 0, _, _, _, _ => none
 | k + 1, x37, x249, x250, x251 => if x251 < x250 then (if 0 ≤ x251 then (if x251 < (x249.length : Int) then ((laws_wSum.f k (rd_L2 x249 x251)).bind fun t514 => (if x251 < (x37.length : Int) then (if t514 = (rd x37 x251) then (laws_FnAreaAndPairsAlike.l3 k x37 x249 x250 (wrap64 (x251 + 1))) else (some false)) else (none))) else (none)) else (none)) else (some true)
def laws_FnAreaAndPairsAlike.l0 : Nat → Int → List (List Int) → Bool → Int → List (List Int) → List Int → List Int → Int → List (List Int) → Int → Int → Option (Bool)
 | 0, _, _, _, _, _, _, _, _, _, _, _ => none
 | k + 1, x5, x6, x9, x10, x11, x19, x20, x21, x118, x119, x120 => if x120 < x119 then (if 0 ≤ x120 then (if x120 < (x118.length : Int) then ((impl_BounceOf.f k (rd_L2 x118 x120)).bind fun bt484 => ((impl_CountLabels.f k (rd_L2 x118 x120)).bind fun bt486 => (if bt484.2 = true then (if bt486.2 = true then (if bt484.1 < 0 then (some false) else (if bt484.1 ≥ 30 then (some false) else (if x120 > 0 then (if 0 ≤ (wrap64 (x120 - 1)) then (if (wrap64 (x120 - 1)) < (x11.length : Int) then ((laws_wLess.f k (rd_L2 x11 (wrap64 (x120 - 1))) (rd_L2 x118 x120)).bind fun t489 => (if t489 = true then ((laws_wSum.f k (rd_L2 x118 x120)).bind fun t490 => (if 0 ≤ t490 then (if t490 < (x19.length : Int) then (if 0 ≤ bt484.1 then (if bt484.1 < (x20.length : Int) then (laws_FnAreaAndPairsAlike.l0 k x5 x6 x9 x10 x11 (x19.set (t490 : Int).toNat (wrap64 ((rd x19 t490) + 1))) (x20.set (bt484.1 : Int).toNat (wrap64 ((rd x20 bt484.1) + 1))) (wrap64 (x21 + bt486.1)) x118 x119 (wrap64 (x120 + 1))) else (none)) else (none)) else (none)) else (none))) else (some false))) else (none)) else (none)) else ((laws_wSum.f k (rd_L2 x118 x120)).bind fun t495 => (if 0 ≤ t495 then (if t495 < (x19.length : Int) then (if 0 ≤ bt484.1 then (if bt484.1 < (x20.length : Int) then (laws_FnAreaAndPairsAlike.l0 k x5 x6 x9 x10 x11 (x19.set (t495 : Int).toNat (wrap64 ((rd x19 t495) + 1))) (x20.set (bt484.1 : Int).toNat (wrap64 ((rd x20 bt484.1) + 1))) (wrap64 (x21 + bt486.1)) x118 x119 (wrap64 (x120 + 1))) else (none)) else (none)) else (none)) else (none)))))) else (some false)) else (some false)))) else (none)) else (none)) else ((impl_CountParking.f k x10).bind fun bt500 => (if bt500.2 = true then (if x21 = bt500.1 then ((laws_wSame.f k x19 x20).bind fun t502 => (if t502 = true then (laws_FnAreaAndPairsAlike.j3 k x5 x6 x9) else (some false))) else (some false)) else (some false)))
end
def laws_FnAreaAndPairsAlike.f (k : Nat) (l0 : List Int) (l1 : List Int) : Option (Bool) := (laws_big.f l0 l1).bind fun t452 => (if t452 = true then (some true) else ((spec_DrawSpreadOfWalks.f l0).bind fun t453 => ((impl_SpreadOfWalks.f k t453).bind fun bt454 => ((spec_SpreadOfWalks.f k t453).bind fun bt458 => (if (bt454.2 != bt458.2) = true then (laws_FnAreaAndPairsAlike.j0 k l1 t453 bt454.1 bt458.2 true) else ((laws_wSameLists.f k bt454.1 bt458.1).bind fun t462 => (laws_FnAreaAndPairsAlike.j0 k l1 t453 bt454.1 bt458.2 (!t462))))))))
theorem laws_FnAreaAndPairsAlike.mono_l : ∀ k, (∀ y0 y1 y2 y3 y4, LeO (laws_FnAreaAndPairsAlike.j0 k y0 y1 y2 y3 y4) (laws_FnAreaAndPairsAlike.j0 (k + 1) y0 y1 y2 y3 y4)) ∧ (∀ y0 y1 y2 y3 y4 y5 y6, LeO (laws_FnAreaAndPairsAlike.j1 k y0 y1 y2 y3 y4 y5 y6) (laws_FnAreaAndPairsAlike.j1 (k + 1) y0 y1 y2 y3 y4 y5 y6)) ∧ (∀ y0 y1 y2, LeO (laws_FnAreaAndPairsAlike.j3 k y0 y1 y2) (laws_FnAreaAndPairsAlike.j3 (k + 1) y0 y1 y2)) ∧ (∀ y0 y1 y2 y3 y4 y5, LeO (laws_FnAreaAndPairsAlike.l1 k y0 y1 y2 y3 y4 y5) (laws_FnAreaAndPairsAlike.l1 (k + 1) y0 y1 y2 y3 y4 y5)) ∧ (∀ y0 y1 y2 y3 y4 y5 y6 y7 y8 y9, LeO (laws_FnAreaAndPairsAlike.l2 k y0 y1 y2 y3 y4 y5 y6 y7 y8 y9) (laws_FnAreaAndPairsAlike.l2 (k + 1) y0 y1 y2 y3 y4 y5 y6 y7 y8 y9)) ∧ (∀ y0 y1 y2, LeO (laws_FnAreaAndPairsAlike.j6 k y0 y1 y2) (laws_FnAreaAndPairsAlike.j6 (k + 1) y0 y1 y2)) ∧ (∀ y0 y1 y2 y3, LeO (laws_FnAreaAndPairsAlike.l3 k y0 y1 y2 y3) (laws_FnAreaAndPairsAlike.l3 (k + 1) y0 y1 y2 y3)) ∧ (∀ y0 y1 y2 y3 y4 y5 y6 y7 y8 y9 y10, LeO (laws_FnAreaAndPairsAlike.l0 k y0 y1 y2 y3 y4 y5 y6 y7 y8 y9 y10) (laws_FnAreaAndPairsAlike.l0 (k + 1) y0 y1 y2 y3 y4 y5 y6 y7 y8 y9 y10))
 | 0 => ⟨fun _ _ _ _ _ r h => by simp [laws_FnAreaAndPairsAlike.j0] at h, fun _ _ _ _ _ _ _ r h => by simp [laws_FnAreaAndPairsAlike.j1] at h, fun _ _ _ r h => by simp [laws_FnAreaAndPairsAlike.j3] at h, fun _ _ _ _ _ _ r h => by simp [laws_FnAreaAndPairsAlike.l1] at h, fun _ _ _ _ _ _ _ _ _ _ r h => by simp [laws_FnAreaAndPairsAlike.l2] at h, fun _ _ _ r h => by simp [laws_FnAreaAndPairsAlike.j6] at h, fun _ _ _ _ r h => by simp [laws_FnAreaAndPairsAlike.l3] at h, fun _ _ _ _ _ _ _ _ _ _ _ r h => by simp [laws_FnAreaAndPairsAlike.l0] at h⟩
 | k + 1 => by
  obtain ⟨ih0, ih1, ih2, ih3, ih4, ih5, ih6, ih7⟩ := laws_FnAreaAndPairsAlike.mono_l k
  refine ⟨?_, ?_, ?_, ?_, ?_, ?_, ?_, ?_⟩
  ·intro y0 y1 y2 y3 y4
   unfold laws_FnAreaAndPairsAlike.j0
   repeat' first
   | (with_reducible exact ih0 _ _ _ _ _)
   | (with_reducible exact ih1 _ _ _ _ _ _ _)
   | (with_reducible exact ih2 _ _ _)
   | (with_reducible exact ih3 _ _ _ _ _ _)
   | (with_reducible exact ih4 _ _ _ _ _ _ _ _ _ _)
   | (with_reducible exact ih5 _ _ _)
   | (with_reducible exact ih6 _ _ _ _)
   | (with_reducible exact ih7 _ _ _ _ _ _ _ _ _ _ _)
   | (with_reducible exact impl_AllHeights.mono _ _)
   | (with_reducible exact impl_BounceOf.mono _ _)
   | (with_reducible exact impl_CountByDistance.mono _ _)
   | (with_reducible exact impl_CountHeights.mono _ _)
   | (with_reducible exact impl_CountLabels.mono _ _)
   | (with_reducible exact impl_CountParking.mono _ _)
   | (with_reducible exact impl_SpreadOfWalks.mono _ _)
   | (with_reducible exact laws_wLess.mono _ _ _)
   | (with_reducible exact laws_wSame.mono _ _ _)
   | (with_reducible exact laws_wSameLists.mono _ _ _)
   | (with_reducible exact laws_wSum.mono _ _)
   | (with_reducible exact spec_AllHeights.mono _ _)
   | (with_reducible exact spec_CountHeights.mono _ _)
   | (with_reducible exact spec_SpreadOfWalks.mono _ _)
   | (with_reducible exact LeO.refl _)
   | (with_reducible exact LeO.none _)
   | (with_reducible refine LeO.ite ?_ ?_)
   | (with_reducible refine LeO.bind ?_ (fun _ => ?_))
   | exact LeO.none _
   | refine LeO.ite ?_ ?_
   | refine LeO.bind ?_ (fun _ => ?_)
  ·intro y0 y1 y2 y3 y4 y5 y6
   unfold laws_FnAreaAndPairsAlike.j1
   repeat' first
   | (with_reducible exact ih0 _ _ _ _ _)
   | (with_reducible exact ih1 _ _ _ _ _ _ _)
   | (with_reducible exact ih2 _ _ _)
   | (with_reducible exact ih3 _ _ _ _ _ _)
   | (with_reducible exact ih4 _ _ _ _ _ _ _ _ _ _)
   | (with_reducible exact ih5 _ _ _)
   | (with_reducible exact ih6 _ _ _ _)
   | (with_reducible exact ih7 _ _ _ _ _ _ _ _ _ _ _)
   | (with_reducible exact impl_AllHeights.mono _ _)
   | (with_reducible exact impl_BounceOf.mono _ _)
   | (with_reducible exact impl_CountByDistance.mono _ _)
   | (with_reducible exact impl_CountHeights.mono _ _)
   | (with_reducible exact impl_CountLabels.mono _ _)
   | (with_reducible exact impl_CountParking.mono _ _)
   | (with_reducible exact impl_SpreadOfWalks.mono _ _)
   | (with_reducible exact laws_wLess.mono _ _ _)
   | (with_reducible exact laws_wSame.mono _ _ _)
   | (with_reducible exact laws_wSameLists.mono _ _ _)
   | (with_reducible exact laws_wSum.mono _ _)
   | (with_reducible exact spec_AllHeights.mono _ _)
   | (with_reducible exact spec_CountHeights.mono _ _)
   | (with_reducible exact spec_SpreadOfWalks.mono _ _)
   | (with_reducible exact LeO.refl _)
   | (with_reducible exact LeO.none _)
   | (with_reducible refine LeO.ite ?_ ?_)
   | (with_reducible refine LeO.bind ?_ (fun _ => ?_))
   | exact LeO.none _
   | refine LeO.ite ?_ ?_
   | refine LeO.bind ?_ (fun _ => ?_)
  ·intro y0 y1 y2
   unfold laws_FnAreaAndPairsAlike.j3
   repeat' first
   | (with_reducible exact ih0 _ _ _ _ _)
   | (with_reducible exact ih1 _ _ _ _ _ _ _)
   | (with_reducible exact ih2 _ _ _)
   | (with_reducible exact ih3 _ _ _ _ _ _)
   | (with_reducible exact ih4 _ _ _ _ _ _ _ _ _ _)
   | (with_reducible exact ih5 _ _ _)
   | (with_reducible exact ih6 _ _ _ _)
   | (with_reducible exact ih7 _ _ _ _ _ _ _ _ _ _ _)
   | (with_reducible exact impl_AllHeights.mono _ _)
   | (with_reducible exact impl_BounceOf.mono _ _)
   | (with_reducible exact impl_CountByDistance.mono _ _)
   | (with_reducible exact impl_CountHeights.mono _ _)
   | (with_reducible exact impl_CountLabels.mono _ _)
   | (with_reducible exact impl_CountParking.mono _ _)
   | (with_reducible exact impl_SpreadOfWalks.mono _ _)
   | (with_reducible exact laws_wLess.mono _ _ _)
   | (with_reducible exact laws_wSame.mono _ _ _)
   | (with_reducible exact laws_wSameLists.mono _ _ _)
   | (with_reducible exact laws_wSum.mono _ _)
   | (with_reducible exact spec_AllHeights.mono _ _)
   | (with_reducible exact spec_CountHeights.mono _ _)
   | (with_reducible exact spec_SpreadOfWalks.mono _ _)
   | (with_reducible exact LeO.refl _)
   | (with_reducible exact LeO.none _)
   | (with_reducible refine LeO.ite ?_ ?_)
   | (with_reducible refine LeO.bind ?_ (fun _ => ?_))
   | exact LeO.none _
   | refine LeO.ite ?_ ?_
   | refine LeO.bind ?_ (fun _ => ?_)
  ·intro y0 y1 y2 y3 y4 y5
   unfold laws_FnAreaAndPairsAlike.l1
   repeat' first
   | (with_reducible exact ih0 _ _ _ _ _)
   | (with_reducible exact ih1 _ _ _ _ _ _ _)
   | (with_reducible exact ih2 _ _ _)
   | (with_reducible exact ih3 _ _ _ _ _ _)
   | (with_reducible exact ih4 _ _ _ _ _ _ _ _ _ _)
   | (with_reducible exact ih5 _ _ _)
   | (with_reducible exact ih6 _ _ _ _)
   | (with_reducible exact ih7 _ _ _ _ _ _ _ _ _ _ _)
   | (with_reducible exact impl_AllHeights.mono _ _)
   | (with_reducible exact impl_BounceOf.mono _ _)
   | (with_reducible exact impl_CountByDistance.mono _ _)
   | (with_reducible exact impl_CountHeights.mono _ _)
   | (with_reducible exact impl_CountLabels.mono _ _)
   | (with_reducible exact impl_CountParking.mono _ _)
   | (with_reducible exact impl_SpreadOfWalks.mono _ _)
   | (with_reducible exact laws_wLess.mono _ _ _)
   | (with_reducible exact laws_wSame.mono _ _ _)
   | (with_reducible exact laws_wSameLists.mono _ _ _)
   | (with_reducible exact laws_wSum.mono _ _)
   | (with_reducible exact spec_AllHeights.mono _ _)
   | (with_reducible exact spec_CountHeights.mono _ _)
   | (with_reducible exact spec_SpreadOfWalks.mono _ _)
   | (with_reducible exact LeO.refl _)
   | (with_reducible exact LeO.none _)
   | (with_reducible refine LeO.ite ?_ ?_)
   | (with_reducible refine LeO.bind ?_ (fun _ => ?_))
   | exact LeO.none _
   | refine LeO.ite ?_ ?_
   | refine LeO.bind ?_ (fun _ => ?_)
  ·intro y0 y1 y2 y3 y4 y5 y6 y7 y8 y9
   unfold laws_FnAreaAndPairsAlike.l2
   repeat' first
   | (with_reducible exact ih0 _ _ _ _ _)
   | (with_reducible exact ih1 _ _ _ _ _ _ _)
   | (with_reducible exact ih2 _ _ _)
   | (with_reducible exact ih3 _ _ _ _ _ _)
   | (with_reducible exact ih4 _ _ _ _ _ _ _ _ _ _)
   | (with_reducible exact ih5 _ _ _)
   | (with_reducible exact ih6 _ _ _ _)
   | (with_reducible exact ih7 _ _ _ _ _ _ _ _ _ _ _)
   | (with_reducible exact impl_AllHeights.mono _ _)
   | (with_reducible exact impl_BounceOf.mono _ _)
   | (with_reducible exact impl_CountByDistance.mono _ _)
   | (with_reducible exact impl_CountHeights.mono _ _)
   | (with_reducible exact impl_CountLabels.mono _ _)
   | (with_reducible exact impl_CountParking.mono _ _)
   | (with_reducible exact impl_SpreadOfWalks.mono _ _)
   | (with_reducible exact laws_wLess.mono _ _ _)
   | (with_reducible exact laws_wSame.mono _ _ _)
   | (with_reducible exact laws_wSameLists.mono _ _ _)
   | (with_reducible exact laws_wSum.mono _ _)
   | (with_reducible exact spec_AllHeights.mono _ _)
   | (with_reducible exact spec_CountHeights.mono _ _)
   | (with_reducible exact spec_SpreadOfWalks.mono _ _)
   | (with_reducible exact LeO.refl _)
   | (with_reducible exact LeO.none _)
   | (with_reducible refine LeO.ite ?_ ?_)
   | (with_reducible refine LeO.bind ?_ (fun _ => ?_))
   | exact LeO.none _
   | refine LeO.ite ?_ ?_
   | refine LeO.bind ?_ (fun _ => ?_)
  ·intro y0 y1 y2
   unfold laws_FnAreaAndPairsAlike.j6
   repeat' first
   | (with_reducible exact ih0 _ _ _ _ _)
   | (with_reducible exact ih1 _ _ _ _ _ _ _)
   | (with_reducible exact ih2 _ _ _)
   | (with_reducible exact ih3 _ _ _ _ _ _)
   | (with_reducible exact ih4 _ _ _ _ _ _ _ _ _ _)
   | (with_reducible exact ih5 _ _ _)
   | (with_reducible exact ih6 _ _ _ _)
   | (with_reducible exact ih7 _ _ _ _ _ _ _ _ _ _ _)
   | (with_reducible exact impl_AllHeights.mono _ _)
   | (with_reducible exact impl_BounceOf.mono _ _)
   | (with_reducible exact impl_CountByDistance.mono _ _)
   | (with_reducible exact impl_CountHeights.mono _ _)
   | (with_reducible exact impl_CountLabels.mono _ _)
   | (with_reducible exact impl_CountParking.mono _ _)
   | (with_reducible exact impl_SpreadOfWalks.mono _ _)
   | (with_reducible exact laws_wLess.mono _ _ _)
   | (with_reducible exact laws_wSame.mono _ _ _)
   | (with_reducible exact laws_wSameLists.mono _ _ _)
   | (with_reducible exact laws_wSum.mono _ _)
   | (with_reducible exact spec_AllHeights.mono _ _)
   | (with_reducible exact spec_CountHeights.mono _ _)
   | (with_reducible exact spec_SpreadOfWalks.mono _ _)
   | (with_reducible exact LeO.refl _)
   | (with_reducible exact LeO.none _)
   | (with_reducible refine LeO.ite ?_ ?_)
   | (with_reducible refine LeO.bind ?_ (fun _ => ?_))
   | exact LeO.none _
   | refine LeO.ite ?_ ?_
   | refine LeO.bind ?_ (fun _ => ?_)
  ·intro y0 y1 y2 y3
   unfold laws_FnAreaAndPairsAlike.l3
   repeat' first
   | (with_reducible exact ih0 _ _ _ _ _)
   | (with_reducible exact ih1 _ _ _ _ _ _ _)
   | (with_reducible exact ih2 _ _ _)
   | (with_reducible exact ih3 _ _ _ _ _ _)
   | (with_reducible exact ih4 _ _ _ _ _ _ _ _ _ _)
   | (with_reducible exact ih5 _ _ _)
   | (with_reducible exact ih6 _ _ _ _)
   | (with_reducible exact ih7 _ _ _ _ _ _ _ _ _ _ _)
   | (with_reducible exact impl_AllHeights.mono _ _)
   | (with_reducible exact impl_BounceOf.mono _ _)
   | (with_reducible exact impl_CountByDistance.mono _ _)
   | (with_reducible exact impl_CountHeights.mono _ _)
   | (with_reducible exact impl_CountLabels.mono _ _)
   | (with_reducible exact impl_CountParking.mono _ _)
   | (with_reducible exact impl_SpreadOfWalks.mono _ _)
   | (with_reducible exact laws_wLess.mono _ _ _)
   | (with_reducible exact laws_wSame.mono _ _ _)
   | (with_reducible exact laws_wSameLists.mono _ _ _)
   | (with_reducible exact laws_wSum.mono _ _)
   | (with_reducible exact spec_AllHeights.mono _ _)
   | (with_reducible exact spec_CountHeights.mono _ _)
   | (with_reducible exact spec_SpreadOfWalks.mono _ _)
   | (with_reducible exact LeO.refl _)
   | (with_reducible exact LeO.none _)
   | (with_reducible refine LeO.ite ?_ ?_)
   | (with_reducible refine LeO.bind ?_ (fun _ => ?_))
   | exact LeO.none _
   | refine LeO.ite ?_ ?_
   | refine LeO.bind ?_ (fun _ => ?_)
  ·intro y0 y1 y2 y3 y4 y5 y6 y7 y8 y9 y10
   unfold laws_FnAreaAndPairsAlike.l0
   repeat' first
   | (with_reducible exact ih0 _ _ _ _ _)
   | (with_reducible exact ih1 _ _ _ _ _ _ _)
   | (with_reducible exact ih2 _ _ _)
   | (with_reducible exact ih3 _ _ _ _ _ _)
   | (with_reducible exact ih4 _ _ _ _ _ _ _ _ _ _)
   | (with_reducible exact ih5 _ _ _)
   | (with_reducible exact ih6 _ _ _ _)
   | (with_reducible exact ih7 _ _ _ _ _ _ _ _ _ _ _)
   | (with_reducible exact impl_AllHeights.mono _ _)
   | (with_reducible exact impl_BounceOf.mono _ _)
   | (with_reducible exact impl_CountByDistance.mono _ _)
   | (with_reducible exact impl_CountHeights.mono _ _)
   | (with_reducible exact impl_CountLabels.mono _ _)
   | (with_reducible exact impl_CountParking.mono _ _)
   | (with_reducible exact impl_SpreadOfWalks.mono _ _)
   | (with_reducible exact laws_wLess.mono _ _ _)
   | (with_reducible exact laws_wSame.mono _ _ _)
   | (with_reducible exact laws_wSameLists.mono _ _ _)
   | (with_reducible exact laws_wSum.mono _ _)
   | (with_reducible exact spec_AllHeights.mono _ _)
   | (with_reducible exact spec_CountHeights.mono _ _)
   | (with_reducible exact spec_SpreadOfWalks.mono _ _)
   | (with_reducible exact LeO.refl _)
   | (with_reducible exact LeO.none _)
   | (with_reducible refine LeO.ite ?_ ?_)
   | (with_reducible refine LeO.bind ?_ (fun _ => ?_))
   | exact LeO.none _
   | refine LeO.ite ?_ ?_
   | refine LeO.bind ?_ (fun _ => ?_)
theorem laws_FnAreaAndPairsAlike.mono : ∀ a0 a1 k, LeO (laws_FnAreaAndPairsAlike.f k a0 a1) (laws_FnAreaAndPairsAlike.f (k + 1) a0 a1) := by
 intro a0 a1 k
 obtain ⟨ih0, ih1, ih2, ih3, ih4, ih5, ih6, ih7⟩ := laws_FnAreaAndPairsAlike.mono_l k
 unfold laws_FnAreaAndPairsAlike.f
 repeat' first
   | (with_reducible exact ih0 _ _ _ _ _)
   | (with_reducible exact ih1 _ _ _ _ _ _ _)
   | (with_reducible exact ih2 _ _ _)
   | (with_reducible exact ih3 _ _ _ _ _ _)
   | (with_reducible exact ih4 _ _ _ _ _ _ _ _ _ _)
   | (with_reducible exact ih5 _ _ _)
   | (with_reducible exact ih6 _ _ _ _)
   | (with_reducible exact ih7 _ _ _ _ _ _ _ _ _ _ _)
   | (with_reducible exact impl_AllHeights.mono _ _)
   | (with_reducible exact impl_BounceOf.mono _ _)
   | (with_reducible exact impl_CountByDistance.mono _ _)
   | (with_reducible exact impl_CountHeights.mono _ _)
   | (with_reducible exact impl_CountLabels.mono _ _)
   | (with_reducible exact impl_CountParking.mono _ _)
   | (with_reducible exact impl_SpreadOfWalks.mono _ _)
   | (with_reducible exact laws_wLess.mono _ _ _)
   | (with_reducible exact laws_wSame.mono _ _ _)
   | (with_reducible exact laws_wSameLists.mono _ _ _)
   | (with_reducible exact laws_wSum.mono _ _)
   | (with_reducible exact spec_AllHeights.mono _ _)
   | (with_reducible exact spec_CountHeights.mono _ _)
   | (with_reducible exact spec_SpreadOfWalks.mono _ _)
   | (with_reducible exact LeO.refl _)
   | (with_reducible exact LeO.none _)
   | (with_reducible refine LeO.ite ?_ ?_)
   | (with_reducible refine LeO.bind ?_ (fun _ => ?_))
   | exact LeO.none _
   | refine LeO.ite ?_ ?_
   | refine LeO.bind ?_ (fun _ => ?_)
set_option maxHeartbeats 8000000 in
set_option maxRecDepth 100000 in
theorem laws_FnAreaAndPairsAlike.calls (k : Nat) (A0 : Option Addr) (c0 : Nat) (l0 : List Int) (A1 : Option Addr) (c1 : Nat) (l1 : List Int) (r : Bool) (w : World) (hr0 : Kd.C (Kd.int .u8) w A0 l0.length l0) (hc0 : l0.length ≤ c0) (hr1 : Kd.C (Kd.int .u8) w A1 l1.length l1) (hc1 : l1.length ≤ c1) (h : laws_FnAreaAndPairsAlike.f k l0 l1 = some r) :
  Calls Try.prog 4 #[.slice A0 l0.length c0, .slice A1 l1.length c1] w fun e w' => e = .returned (.bool r) ∧ Below w.heap.size w w' := by
 have HR0 := Aside0.mk hr0
 have HC0 := Aside0.mk hc0
 clear hr0 hc0
 have HR1 := Aside0.mk hr1
 have HC1 := Aside0.mk hc1
 clear hr1 hc1
 have HB := Aside0.mk (Below.refl w.heap.size w)
 have H : ((laws_big.f l0 l1).bind fun t452 => (if t452 = true then (some true) else ((spec_DrawSpreadOfWalks.f l0).bind fun t453 => ((impl_SpreadOfWalks.f k t453).bind fun bt454 => ((spec_SpreadOfWalks.f k t453).bind fun bt458 => (if (bt454.2 != bt458.2) = true then (laws_FnAreaAndPairsAlike.j0 k l1 t453 bt454.1 bt458.2 true) else ((laws_wSameLists.f k bt454.1 bt458.1).bind fun t462 => (laws_FnAreaAndPairsAlike.j0 k l1 t453 bt454.1 bt458.2 (!t462))))))))) = some r := h
 clear h
 replace H := Option.bind_eq_some_iff.mp H
 obtain ⟨t452, A30, H⟩ := H
 replace H : (if t452 = true then (some true) else ((spec_DrawSpreadOfWalks.f l0).bind fun t453 => ((impl_SpreadOfWalks.f k t453).bind fun bt454 => ((spec_SpreadOfWalks.f k t453).bind fun bt458 => (if (bt454.2 != bt458.2) = true then (laws_FnAreaAndPairsAlike.j0 k l1 t453 bt454.1 bt458.2 true) else ((laws_wSameLists.f k bt454.1 bt458.1).bind fun t462 => (laws_FnAreaAndPairsAlike.j0 k l1 t453 bt454.1 bt458.2 (!t462)))))))) = some r := H
 have A3 := Aside0.mk A30
 clear A30
 by_cases c4 : t452 = true
 ·subst c4
  have H1 : (some true) = some r := by rw [if_pos rfl] at H; exact H
  clear H
  have H := H1
  clear H1
  obtain rfl := Option.some.inj H
  go_enter Try.func4, Try.ntmps4
  go_wp2_with (first | ((with_reducible refine gate_callee (f := 7) rfl ?_); refine goesL_ (some 43) rfl rfl Try.func7 (by kernel_rfl) rfl #[.slice A0 l0.length c0, .slice A1 l1.length c1] rfl (by (try simp only [List.map_toArray, List.map_cons, List.map_nil]); first | done | rfl | (simp only [List.length_drop, List.length_take]; rfl)) ?_; (with_reducible refine (laws_big.calls _ _ l0 _ _ l1 true _ ?side1 ?side2 ?side3 ?side4 A3.out).mono ?_); (case side1 => repeat (first | exact HR0.out | (with_reducible refine Kd.C_alloc ?_ _) | (with_reducible refine Kd.C_drewN ?_ _) | (with_reducible refine Kd.C_drew ?_))); (case side2 => exact HC0.out); (case side3 => repeat (first | exact HR1.out | (with_reducible refine Kd.C_alloc ?_ _) | (with_reducible refine Kd.C_drewN ?_ _) | (with_reducible refine Kd.C_drew ?_))); (case side4 => exact HC1.out); rintro e w' ⟨rfl, ⟨nd, rfl⟩⟩; refine ⟨_, rfl, ?_⟩))
  go_ret
  exact ⟨by first | rfl | (simp [errW_none, errW_some] <;> rfl) | (simp [*, errW_none, errW_some] <;> rfl), by repeat (first | (with_reducible first | exact HB.out | apply below_alloc | apply pw_below_drewN | apply below_drew1) | exact HB.out)⟩
 ·as_aux_lemma =>
   replace c4 := Bool.eq_false_iff.mpr c4
   subst c4
   have H1 : ((spec_DrawSpreadOfWalks.f l0).bind fun t453 => ((impl_SpreadOfWalks.f k t453).bind fun bt454 => ((spec_SpreadOfWalks.f k t453).bind fun bt458 => (if (bt454.2 != bt458.2) = true then (laws_FnAreaAndPairsAlike.j0 k l1 t453 bt454.1 bt458.2 true) else ((laws_wSameLists.f k bt454.1 bt458.1).bind fun t462 => (laws_FnAreaAndPairsAlike.j0 k l1 t453 bt454.1 bt458.2 (!t462))))))) = some r := by rw [if_neg (show ¬ (false = true) by decide)] at H; exact H
   clear H
   have H := H1
   clear H1
   replace H := Option.bind_eq_some_iff.mp H
   obtain ⟨t453, A50, H⟩ := H
   replace H : ((impl_SpreadOfWalks.f k t453).bind fun bt454 => ((spec_SpreadOfWalks.f k t453).bind fun bt458 => (if (bt454.2 != bt458.2) = true then (laws_FnAreaAndPairsAlike.j0 k l1 t453 bt454.1 bt458.2 true) else ((laws_wSameLists.f k bt454.1 bt458.1).bind fun t462 => (laws_FnAreaAndPairsAlike.j0 k l1 t453 bt454.1 bt458.2 (!t462)))))) = some r := H
   have A5 := Aside0.mk A50
   clear A50
   replace H := Option.bind_eq_some_iff.mp H
   obtain ⟨⟨t454, t455⟩, A60, H⟩ := H
   replace H : ((spec_SpreadOfWalks.f k t453).bind fun bt458 => (if (t455 != bt458.2) = true then (laws_FnAreaAndPairsAlike.j0 k l1 t453 t454 bt458.2 true) else ((laws_wSameLists.f k t454 bt458.1).bind fun t462 => (laws_FnAreaAndPairsAlike.j0 k l1 t453 t454 bt458.2 (!t462))))) = some r := H
   have A6 := Aside0.mk A60
   clear A60
   replace H := Option.bind_eq_some_iff.mp H
   obtain ⟨⟨t458, t459⟩, A70, H⟩ := H
   replace H : (if (t455 != t459) = true then (laws_FnAreaAndPairsAlike.j0 k l1 t453 t454 t459 true) else ((laws_wSameLists.f k t454 t458).bind fun t462 => (laws_FnAreaAndPairsAlike.j0 k l1 t453 t454 t459 (!t462)))) = some r := H
   have A7 := Aside0.mk A70
   clear A70
   have HC8 := Aside0.mk H
   clear H
   go_enter Try.func4, Try.ntmps4
   go_upto_region 6 with (first | ((with_reducible refine gate_callee (f := 7) rfl ?_); refine goesL_ (some 43) rfl rfl Try.func7 (by kernel_rfl) rfl #[.slice A0 l0.length c0, .slice A1 l1.length c1] rfl (by (try simp only [List.map_toArray, List.map_cons, List.map_nil]); first | done | rfl | (simp only [List.length_drop, List.length_take]; rfl)) ?_; (with_reducible refine (laws_big.calls _ _ l0 _ _ l1 false _ ?side1 ?side2 ?side3 ?side4 A3.out).mono ?_); (case side1 => repeat (first | exact HR0.out | (with_reducible refine Kd.C_alloc ?_ _) | (with_reducible refine Kd.C_drewN ?_ _) | (with_reducible refine Kd.C_drew ?_))); (case side2 => exact HC0.out); (case side3 => repeat (first | exact HR1.out | (with_reducible refine Kd.C_alloc ?_ _) | (with_reducible refine Kd.C_drewN ?_ _) | (with_reducible refine Kd.C_drew ?_))); (case side4 => exact HC1.out); rintro e w' ⟨rfl, ⟨nd, rfl⟩⟩; refine ⟨_, rfl, ?_⟩) | ((with_reducible refine gate_callee (f := 17) rfl ?_); refine goesL_ (some 45) rfl rfl Try.func17 (by kernel_rfl) rfl #[.slice A0 l0.length c0] rfl (by (try simp only [List.map_toArray, List.map_cons, List.map_nil]); first | done | rfl | (simp only [List.length_drop, List.length_take]; rfl)) ?_; (with_reducible refine (spec_DrawSpreadOfWalks.calls _ _ l0 t453 _ ?side1 ?side2 A5.out).mono ?_); (case side1 => repeat (first | exact HR0.out | (with_reducible refine Kd.C_alloc ?_ _) | (with_reducible refine Kd.C_drewN ?_ _) | (with_reducible refine Kd.C_drew ?_))); (case side2 => exact HC0.out); rintro e w9 ⟨rfl, hb⟩; refine ⟨_, rfl, ?_⟩; have n0_ := Aside0.mk (below_step (by repeat (first | (with_reducible first | exact HB.out | apply below_alloc | apply pw_below_drewN | apply below_drew1) | exact HB.out)) hb); clear HB; have HB := n0_; clear n0_; (try clear hb); (try clear hb2); (try clear hk); (try clear hi)) | ((with_reducible refine gate_callee (f := 18) rfl ?_); refine goesL_ (some 48) rfl rfl Try.func18 (by kernel_rfl) rfl #[.int .i64 t453] rfl (by (try simp only [List.map_toArray, List.map_cons, List.map_nil]); first | done | rfl | (simp only [List.length_drop, List.length_take]; rfl)) ?_; (with_reducible refine (impl_SpreadOfWalks.calls k t453 t454 t455 _ A6.out).mono ?_); rintro e w10 ⟨v456, rfl, ho0, hb⟩; refine ⟨_, rfl, ?_⟩; have n0_ := Aside0.mk (Kd.N_lower (Kd.N_mono (ok' := fun k_ => True) (Kd.S_N (Kd.S_bound ho0)) (fun k_ hk_ => trivial)) (below_size (by repeat (first | (with_reducible first | exact HB.out | apply below_alloc | apply pw_below_drewN | apply below_drew1) | exact HB.out)))); have n1_ := Aside0.mk (below_step (by repeat (first | (with_reducible first | exact HB.out | apply below_alloc | apply pw_below_drewN | apply below_drew1) | exact HB.out)) hb); clear HB; have HO457 := n0_; have HB := n1_; clear n0_ n1_; (try clear hb); (try clear hb2); (try clear hk); (try clear hi); (try clear ho0)) | ((with_reducible refine gate_callee (f := 19) rfl ?_); refine goesL_ (some 53) rfl rfl Try.func19 (by kernel_rfl) rfl #[.int .i64 t453] rfl (by (try simp only [List.map_toArray, List.map_cons, List.map_nil]); first | done | rfl | (simp only [List.length_drop, List.length_take]; rfl)) ?_; (with_reducible refine (spec_SpreadOfWalks.calls k t453 t458 t459 _ A7.out).mono ?_); rintro e w11 ⟨v460, rfl, ho0, hb⟩; refine ⟨_, rfl, ?_⟩; have n0_ := Aside0.mk (Kd.N_elder' (by (with_reducible repeat (first | apply Kd.N_alloc | apply Kd.N_drewN | apply Kd.N_drew)); exact HO457.out) (Kd.S_base ho0) hb); have n1_ := Aside0.mk (Kd.N_lower (Kd.N_mono (ok' := fun k_ => some k_ ≠ (v456 : Value).ownBlock) (Kd.S_N (Kd.S_bound ho0)) (fun k_ hk_ => (Kd.fresh' (Kd.N_lt (by (with_reducible repeat (first | apply Kd.N_alloc | apply Kd.N_drewN | apply Kd.N_drew)); exact HO457.out)) k_ hk_.2.1))) (below_size (by repeat (first | (with_reducible first | exact HB.out | apply below_alloc | apply pw_below_drewN | apply below_drew1) | exact HB.out)))); have n2_ := Aside0.mk (below_step (by repeat (first | (with_reducible first | exact HB.out | apply below_alloc | apply pw_below_drewN | apply below_drew1) | exact HB.out)) hb); clear HO457; clear HB; have HO457 := n0_; have HO461 := n1_; have HB := n2_; clear n0_ n1_ n2_; (try clear hb); (try clear hb2); (try clear hk); (try clear hi); (try clear ho0)))
   (try simp only [Act.put, List.setIfInBounds_toArray, List.set_cons_zero, List.set_cons_succ])
   go_cut [64] (fun v64 wc => ∃ (kq : Nat) (x64_7 : Bool), v64 = .bool x64_7 ∧ Aside0 (laws_FnAreaAndPairsAlike.j0 kq l1 t453 t454 t459 x64_7 = some r) ∧ Aside0 (kq ≤ k) ∧ Aside0 (Kd.N (Kd.slice 3 (Kd.int .i64)) 24 wc w.heap.size (fun _ => True) v456 t454) ∧ Aside0 (Below w.heap.size w wc))
   case first =>
    have H := HC8.out
    clear HC8
    by_cases c12 : (t455 != t459) = true
    ·rw [if_pos c12] at H
     have c12b0 : (t455 != t459) = true := c12
     (try (have c12b1 : decide (t455 = t459) = false := by simpa using c12))
     (try (have c12b2 : (t455 == t459) = false := by simpa using c12))
     (try (have c12b3 : ¬ (t455 = t459) := by simpa using c12))
     clear c12
     (first | rw [c12b0] | (simp only [i64_w, i32_w]; rw [c12b0]) | rw [c12b1] | skip)
     have H' := Aside0.mk H
     clear H
     go_wp2
     go_meet
     case rel => exact ⟨_, (true), (by first | rfl | (simp; done) | (simp [*]; done)), H', ⟨by first | omega | exact Nat.le_refl _⟩, ⟨by (with_reducible repeat (first | apply Kd.N_alloc | apply Kd.N_drewN | apply Kd.N_drew)); exact Kd.N_mono HO457.out (fun _ hk => trivial)⟩, ⟨by repeat (first | (with_reducible first | exact HB.out | apply below_alloc | apply pw_below_drewN | apply below_drew1) | exact HB.out)⟩⟩
    ·rw [if_neg c12] at H
     have c12b0 : (t455 != t459) = false := by simpa using c12
     (try (have c12b1 : decide (t455 = t459) = true := by simpa using c12))
     (try (have c12b2 : (t455 == t459) = true := by simpa using c12))
     clear c12
     (first | rw [c12b0] | (simp only [i64_w, i32_w]; rw [c12b0]) | rw [c12b1] | skip)
     replace H := Option.bind_eq_some_iff.mp H
     obtain ⟨t462, A130, H⟩ := H
     replace H : (laws_FnAreaAndPairsAlike.j0 k l1 t453 t454 t459 (!t462)) = some r := H
     have A13 := Aside0.mk A130
     clear A130
     have H' := Aside0.mk H
     clear H
     obtain ⟨Ao14, co14, eo14⟩ := Kd.N_slice HO457.out
     subst eo14
     obtain ⟨Ao15, co15, eo15⟩ := Kd.N_slice HO461.out
     subst eo15
     go_wp2_with (first | (go_at_call 14; (with_reducible refine (laws_wSameLists.calls k _ _ t454 _ _ t458 t462 _ ?side1 ?side2 ?side3 ?side4 A13.out).mono ?_); (case side1 => repeat (first | exact (Kd.N_reads' HO457.out).2.2 | (with_reducible refine Kd.C_alloc ?_ _) | (with_reducible refine Kd.C_drewN ?_ _) | (with_reducible refine Kd.C_drew ?_))); (case side2 => exact (Kd.N_reads' HO457.out).2.1); (case side3 => repeat (first | exact (Kd.N_reads' HO461.out).2.2 | (with_reducible refine Kd.C_alloc ?_ _) | (with_reducible refine Kd.C_drewN ?_ _) | (with_reducible refine Kd.C_drew ?_))); (case side4 => exact (Kd.N_reads' HO461.out).2.1); rintro e w' ⟨rfl, ⟨nd, rfl⟩⟩))
     go_meet
     case rel => exact ⟨_, (!t462), (by first | rfl | (simp; done) | (simp [*]; done)), H', ⟨by first | omega | exact Nat.le_refl _⟩, ⟨by (with_reducible repeat (first | apply Kd.N_alloc | apply Kd.N_drewN | apply Kd.N_drew)); exact Kd.N_mono HO457.out (fun _ hk => trivial)⟩, ⟨by repeat (first | (with_reducible first | exact HB.out | apply below_alloc | apply pw_below_drewN | apply below_drew1) | exact HB.out)⟩⟩
   case rest =>
    clear HC8
    try clear c1
    try clear p2
    try clear c4
    try clear c7
    try clear c12
    try clear c12b0
    try clear c12b1
    try clear c12b2
    obtain ⟨kq, x64_7, rfl, HA, HJ7, HO_6, HB⟩ := hcut
    cases kq with
    | zero => exact absurd HA.out (by simp [laws_FnAreaAndPairsAlike.j0])
    | succ kj7 =>
     have H := HA.out
     clear HA
     simp only [laws_FnAreaAndPairsAlike.j0] at H
     by_cases c16 : x64_7 = true
     ·subst c16
      have H1 : (some false) = some r := by rw [if_pos rfl] at H; exact H
      clear H
      have H := H1
      clear H1
      obtain rfl := Option.some.inj H
      go_wp2
      go_ret
      exact ⟨by first | rfl | (simp [errW_none, errW_some] <;> rfl) | (simp [*, errW_none, errW_some] <;> rfl), by repeat (first | (with_reducible first | exact HB.out | apply below_alloc | apply pw_below_drewN | apply below_drew1) | exact HB.out)⟩
     ·as_aux_lemma =>
       replace c16 := Bool.eq_false_iff.mpr c16
       subst c16
       have H1 : ((spec_DrawAllHeights.f l1).bind fun t463 => ((impl_AllHeights.f kj7 t463).bind fun bt464 => ((spec_AllHeights.f kj7 t463).bind fun bt468 => ((impl_CountHeights.f kj7 t463).bind fun bt472 => ((spec_CountHeights.f kj7 t463).bind fun bt474 => (if (bt464.2 != bt468.2) = true then (laws_FnAreaAndPairsAlike.j1 kj7 t453 t454 t459 t463 bt464.1 bt464.2 true) else ((laws_wSameLists.f kj7 bt464.1 bt468.1).bind fun t476 => (if t476 = true then (if (bt472.2 != bt474.2) = true then (laws_FnAreaAndPairsAlike.j1 kj7 t453 t454 t459 t463 bt464.1 bt464.2 true) else (if bt472.1 = bt474.1 then (if bt464.2 = true then (laws_FnAreaAndPairsAlike.j1 kj7 t453 t454 t459 t463 bt464.1 bt464.2 (bt472.1 != (bt464.1.length : Int))) else (laws_FnAreaAndPairsAlike.j1 kj7 t453 t454 t459 t463 bt464.1 bt464.2 false)) else (laws_FnAreaAndPairsAlike.j1 kj7 t453 t454 t459 t463 bt464.1 bt464.2 true))) else (laws_FnAreaAndPairsAlike.j1 kj7 t453 t454 t459 t463 bt464.1 bt464.2 true))))))))) = some r := by rw [if_neg (show ¬ (false = true) by decide)] at H; exact H
       clear H
       have H := H1
       clear H1
       replace H := Option.bind_eq_some_iff.mp H
       obtain ⟨t463, A170, H⟩ := H
       replace H : ((impl_AllHeights.f kj7 t463).bind fun bt464 => ((spec_AllHeights.f kj7 t463).bind fun bt468 => ((impl_CountHeights.f kj7 t463).bind fun bt472 => ((spec_CountHeights.f kj7 t463).bind fun bt474 => (if (bt464.2 != bt468.2) = true then (laws_FnAreaAndPairsAlike.j1 kj7 t453 t454 t459 t463 bt464.1 bt464.2 true) else ((laws_wSameLists.f kj7 bt464.1 bt468.1).bind fun t476 => (if t476 = true then (if (bt472.2 != bt474.2) = true then (laws_FnAreaAndPairsAlike.j1 kj7 t453 t454 t459 t463 bt464.1 bt464.2 true) else (if bt472.1 = bt474.1 then (if bt464.2 = true then (laws_FnAreaAndPairsAlike.j1 kj7 t453 t454 t459 t463 bt464.1 bt464.2 (bt472.1 != (bt464.1.length : Int))) else (laws_FnAreaAndPairsAlike.j1 kj7 t453 t454 t459 t463 bt464.1 bt464.2 false)) else (laws_FnAreaAndPairsAlike.j1 kj7 t453 t454 t459 t463 bt464.1 bt464.2 true))) else (laws_FnAreaAndPairsAlike.j1 kj7 t453 t454 t459 t463 bt464.1 bt464.2 true)))))))) = some r := H
       have A17 := Aside0.mk A170
       clear A170
       replace H := Option.bind_eq_some_iff.mp H
       obtain ⟨⟨t464, t465⟩, A180, H⟩ := H
       replace H : ((spec_AllHeights.f kj7 t463).bind fun bt468 => ((impl_CountHeights.f kj7 t463).bind fun bt472 => ((spec_CountHeights.f kj7 t463).bind fun bt474 => (if (t465 != bt468.2) = true then (laws_FnAreaAndPairsAlike.j1 kj7 t453 t454 t459 t463 t464 t465 true) else ((laws_wSameLists.f kj7 t464 bt468.1).bind fun t476 => (if t476 = true then (if (bt472.2 != bt474.2) = true then (laws_FnAreaAndPairsAlike.j1 kj7 t453 t454 t459 t463 t464 t465 true) else (if bt472.1 = bt474.1 then (if t465 = true then (laws_FnAreaAndPairsAlike.j1 kj7 t453 t454 t459 t463 t464 t465 (bt472.1 != (t464.length : Int))) else (laws_FnAreaAndPairsAlike.j1 kj7 t453 t454 t459 t463 t464 t465 false)) else (laws_FnAreaAndPairsAlike.j1 kj7 t453 t454 t459 t463 t464 t465 true))) else (laws_FnAreaAndPairsAlike.j1 kj7 t453 t454 t459 t463 t464 t465 true))))))) = some r := H
       have A18 := Aside0.mk A180
       clear A180
       replace H := Option.bind_eq_some_iff.mp H
       obtain ⟨⟨t468, t471⟩, A190, H⟩ := H
       replace H : ((impl_CountHeights.f kj7 t463).bind fun bt472 => ((spec_CountHeights.f kj7 t463).bind fun bt474 => (if (t465 != t471) = true then (laws_FnAreaAndPairsAlike.j1 kj7 t453 t454 t459 t463 t464 t465 true) else ((laws_wSameLists.f kj7 t464 t468).bind fun t476 => (if t476 = true then (if (bt472.2 != bt474.2) = true then (laws_FnAreaAndPairsAlike.j1 kj7 t453 t454 t459 t463 t464 t465 true) else (if bt472.1 = bt474.1 then (if t465 = true then (laws_FnAreaAndPairsAlike.j1 kj7 t453 t454 t459 t463 t464 t465 (bt472.1 != (t464.length : Int))) else (laws_FnAreaAndPairsAlike.j1 kj7 t453 t454 t459 t463 t464 t465 false)) else (laws_FnAreaAndPairsAlike.j1 kj7 t453 t454 t459 t463 t464 t465 true))) else (laws_FnAreaAndPairsAlike.j1 kj7 t453 t454 t459 t463 t464 t465 true)))))) = some r := H
       have A19 := Aside0.mk A190
       clear A190
       replace H := Option.bind_eq_some_iff.mp H
       obtain ⟨⟨t472, t473⟩, A200, H⟩ := H
       replace H : ((spec_CountHeights.f kj7 t463).bind fun bt474 => (if (t465 != t471) = true then (laws_FnAreaAndPairsAlike.j1 kj7 t453 t454 t459 t463 t464 t465 true) else ((laws_wSameLists.f kj7 t464 t468).bind fun t476 => (if t476 = true then (if (t473 != bt474.2) = true then (laws_FnAreaAndPairsAlike.j1 kj7 t453 t454 t459 t463 t464 t465 true) else (if t472 = bt474.1 then (if t465 = true then (laws_FnAreaAndPairsAlike.j1 kj7 t453 t454 t459 t463 t464 t465 (t472 != (t464.length : Int))) else (laws_FnAreaAndPairsAlike.j1 kj7 t453 t454 t459 t463 t464 t465 false)) else (laws_FnAreaAndPairsAlike.j1 kj7 t453 t454 t459 t463 t464 t465 true))) else (laws_FnAreaAndPairsAlike.j1 kj7 t453 t454 t459 t463 t464 t465 true))))) = some r := H
       have A20 := Aside0.mk A200
       clear A200
       replace H := Option.bind_eq_some_iff.mp H
       obtain ⟨⟨t474, t475⟩, A210, H⟩ := H
       replace H : (if (t465 != t471) = true then (laws_FnAreaAndPairsAlike.j1 kj7 t453 t454 t459 t463 t464 t465 true) else ((laws_wSameLists.f kj7 t464 t468).bind fun t476 => (if t476 = true then (if (t473 != t475) = true then (laws_FnAreaAndPairsAlike.j1 kj7 t453 t454 t459 t463 t464 t465 true) else (if t472 = t474 then (if t465 = true then (laws_FnAreaAndPairsAlike.j1 kj7 t453 t454 t459 t463 t464 t465 (t472 != (t464.length : Int))) else (laws_FnAreaAndPairsAlike.j1 kj7 t453 t454 t459 t463 t464 t465 false)) else (laws_FnAreaAndPairsAlike.j1 kj7 t453 t454 t459 t463 t464 t465 true))) else (laws_FnAreaAndPairsAlike.j1 kj7 t453 t454 t459 t463 t464 t465 true)))) = some r := H
       have A21 := Aside0.mk A210
       clear A210
       have HC22 := Aside0.mk H
       clear H
       go_upto_region 13 with (first | ((with_reducible refine gate_callee (f := 20) rfl ?_); refine goesL_ (some 66) rfl rfl Try.func20 (by kernel_rfl) rfl #[.slice A1 l1.length c1] rfl (by (try simp only [List.map_toArray, List.map_cons, List.map_nil]); first | done | rfl | (simp only [List.length_drop, List.length_take]; rfl)) ?_; (with_reducible refine (spec_DrawAllHeights.calls _ _ l1 t463 _ ?side1 ?side2 A17.out).mono ?_); (case side1 => repeat (first | exact (Kd.C_below HR1.out HB.out) | (with_reducible refine Kd.C_alloc ?_ _) | (with_reducible refine Kd.C_drewN ?_ _) | (with_reducible refine Kd.C_drew ?_))); (case side2 => exact HC1.out); rintro e w23 ⟨rfl, hb⟩; refine ⟨_, rfl, ?_⟩; have n0_ := Aside0.mk (Kd.N_below (by (with_reducible repeat (first | apply Kd.N_alloc | apply Kd.N_drewN | apply Kd.N_drew)); exact HO_6.out) hb); have n1_ := Aside0.mk (below_step (by repeat (first | (with_reducible first | exact HB.out | apply below_alloc | apply pw_below_drewN | apply below_drew1) | exact HB.out)) hb); clear HO_6; clear HB; have HO_6 := n0_; have HB := n1_; clear n0_ n1_; (try clear hb); (try clear hb2); (try clear hk); (try clear hi)) | ((with_reducible refine gate_callee (f := 21) rfl ?_); refine goesL_ (some 69) rfl rfl Try.func21 (by kernel_rfl) rfl #[.int .i64 t463] rfl (by (try simp only [List.map_toArray, List.map_cons, List.map_nil]); first | done | rfl | (simp only [List.length_drop, List.length_take]; rfl)) ?_; (with_reducible refine (impl_AllHeights.calls kj7 t463 t464 t465 _ A18.out).mono ?_); rintro e w24 ⟨v466, rfl, ho0, hb⟩; refine ⟨_, rfl, ?_⟩; have n0_ := Aside0.mk (Kd.N_elder' (by (with_reducible repeat (first | apply Kd.N_alloc | apply Kd.N_drewN | apply Kd.N_drew)); exact HO_6.out) (Kd.S_base ho0) hb); have n1_ := Aside0.mk (Kd.N_lower (Kd.N_mono (ok' := fun k_ => some k_ ≠ (v456 : Value).ownBlock) (Kd.S_N (Kd.S_bound ho0)) (fun k_ hk_ => (Kd.fresh' (Kd.N_lt (by (with_reducible repeat (first | apply Kd.N_alloc | apply Kd.N_drewN | apply Kd.N_drew)); exact HO_6.out)) k_ hk_.2.1))) (below_size (by repeat (first | (with_reducible first | exact HB.out | apply below_alloc | apply pw_below_drewN | apply below_drew1) | exact HB.out)))); have n2_ := Aside0.mk (below_step (by repeat (first | (with_reducible first | exact HB.out | apply below_alloc | apply pw_below_drewN | apply below_drew1) | exact HB.out)) hb); clear HO_6; clear HB; have HO_6 := n0_; have HO467 := n1_; have HB := n2_; clear n0_ n1_ n2_; (try clear hb); (try clear hb2); (try clear hk); (try clear hi); (try clear ho0)) | ((with_reducible refine gate_callee (f := 22) rfl ?_); refine goesL_ (some 74) rfl rfl Try.func22 (by kernel_rfl) rfl #[.int .i64 t463] rfl (by (try simp only [List.map_toArray, List.map_cons, List.map_nil]); first | done | rfl | (simp only [List.length_drop, List.length_take]; rfl)) ?_; (with_reducible refine (spec_AllHeights.calls kj7 t463 t468 t471 _ A19.out).mono ?_); rintro e w25 ⟨v469, rfl, ho0, hb⟩; refine ⟨_, rfl, ?_⟩; have n0_ := Aside0.mk (Kd.N_elder' (by (with_reducible repeat (first | apply Kd.N_alloc | apply Kd.N_drewN | apply Kd.N_drew)); exact HO_6.out) (Kd.N_base ho0) hb); have n1_ := Aside0.mk (Kd.N_elder' (by (with_reducible repeat (first | apply Kd.N_alloc | apply Kd.N_drewN | apply Kd.N_drew)); exact HO467.out) (Kd.N_base ho0) hb); have n2_ := Aside0.mk (Kd.N_lower (Kd.N_mono (ok' := fun k_ => some k_ ≠ (v456 : Value).ownBlock ∧ some k_ ≠ (v466 : Value).ownBlock) ho0 (fun k_ hk_ => ⟨(Kd.fresh' (Kd.N_lt (by (with_reducible repeat (first | apply Kd.N_alloc | apply Kd.N_drewN | apply Kd.N_drew)); exact HO_6.out)) k_ hk_), (Kd.fresh' (Kd.N_lt (by (with_reducible repeat (first | apply Kd.N_alloc | apply Kd.N_drewN | apply Kd.N_drew)); exact HO467.out)) k_ hk_)⟩)) (below_size (by repeat (first | (with_reducible first | exact HB.out | apply below_alloc | apply pw_below_drewN | apply below_drew1) | exact HB.out)))); have n3_ := Aside0.mk (below_step (by repeat (first | (with_reducible first | exact HB.out | apply below_alloc | apply pw_below_drewN | apply below_drew1) | exact HB.out)) hb); clear HO_6; clear HO467; clear HB; have HO_6 := n0_; have HO467 := n1_; have HO470 := n2_; have HB := n3_; clear n0_ n1_ n2_ n3_; (try clear hb); (try clear hb2); (try clear hk); (try clear hi); (try clear ho0)) | ((with_reducible refine gate_callee (f := 23) rfl ?_); refine goesL_ (some 79) rfl rfl Try.func23 (by kernel_rfl) rfl #[.int .i64 t463] rfl (by (try simp only [List.map_toArray, List.map_cons, List.map_nil]); first | done | rfl | (simp only [List.length_drop, List.length_take]; rfl)) ?_; (with_reducible refine (impl_CountHeights.calls kj7 t463 t472 t473 _ A20.out).mono ?_); rintro e w' ⟨rfl, ⟨nd, rfl⟩⟩; refine ⟨_, rfl, ?_⟩) | ((with_reducible refine gate_callee (f := 24) rfl ?_); refine goesL_ (some 84) rfl rfl Try.func24 (by kernel_rfl) rfl #[.int .i64 t463] rfl (by (try simp only [List.map_toArray, List.map_cons, List.map_nil]); first | done | rfl | (simp only [List.length_drop, List.length_take]; rfl)) ?_; (with_reducible refine (spec_CountHeights.calls kj7 t463 t474 t475 _ A21.out).mono ?_); rintro e w' ⟨rfl, ⟨nd, rfl⟩⟩; refine ⟨_, rfl, ?_⟩))
       (try simp only [Act.put, List.setIfInBounds_toArray, List.set_cons_zero, List.set_cons_succ])
       go_cut [114] (fun v114 wc => ∃ (kq : Nat) (x114_21 : Bool), v114 = .bool x114_21 ∧ Aside0 (laws_FnAreaAndPairsAlike.j1 kq t453 t454 t459 t463 t464 t465 x114_21 = some r) ∧ Aside0 (kq ≤ kj7) ∧ Aside0 (Kd.N (Kd.slice 3 (Kd.int .i64)) 24 wc w.heap.size (fun k_ => some k_ ≠ (v466 : Value).ownBlock) v456 t454) ∧ Aside0 (Kd.N (Kd.slice 3 (Kd.int .i64)) 24 wc w.heap.size (fun k_ => some k_ ≠ (v456 : Value).ownBlock) v466 t464) ∧ Aside0 (Below w.heap.size w wc))
       case first =>
        have H := HC22.out
        clear HC22
        by_cases c26 : (t465 != t471) = true
        ·rw [if_pos c26] at H
         have c26b0 : (t465 != t471) = true := c26
         (try (have c26b1 : decide (t465 = t471) = false := by simpa using c26))
         (try (have c26b2 : (t465 == t471) = false := by simpa using c26))
         (try (have c26b3 : ¬ (t465 = t471) := by simpa using c26))
         clear c26
         (first | rw [c26b0] | (simp only [i64_w, i32_w]; rw [c26b0]) | rw [c26b1] | skip)
         have H' := Aside0.mk H
         clear H
         go_wp2
         go_meet
         case rel => exact ⟨_, (true), (by first | rfl | (simp; done) | (simp [*]; done)), H', ⟨by have := HJ7.out; first | omega | exact Nat.le_refl _⟩, ⟨by (with_reducible repeat (first | apply Kd.N_alloc | apply Kd.N_drewN | apply Kd.N_drew)); exact Kd.N_mono HO_6.out (fun _ hk => hk.1.2)⟩, ⟨by (with_reducible repeat (first | apply Kd.N_alloc | apply Kd.N_drewN | apply Kd.N_drew)); exact Kd.N_mono HO467.out (fun _ hk => hk.1)⟩, ⟨by repeat (first | (with_reducible first | exact HB.out | apply below_alloc | apply pw_below_drewN | apply below_drew1) | exact HB.out)⟩⟩
        ·rw [if_neg c26] at H
         have c26b0 : (t465 != t471) = false := by simpa using c26
         (try (have c26b1 : decide (t465 = t471) = true := by simpa using c26))
         (try (have c26b2 : (t465 == t471) = true := by simpa using c26))
         clear c26
         (first | rw [c26b0] | (simp only [i64_w, i32_w]; rw [c26b0]) | rw [c26b1] | skip)
         replace H := Option.bind_eq_some_iff.mp H
         obtain ⟨t476, A270, H⟩ := H
         replace H : (if t476 = true then (if (t473 != t475) = true then (laws_FnAreaAndPairsAlike.j1 kj7 t453 t454 t459 t463 t464 t465 true) else (if t472 = t474 then (if t465 = true then (laws_FnAreaAndPairsAlike.j1 kj7 t453 t454 t459 t463 t464 t465 (t472 != (t464.length : Int))) else (laws_FnAreaAndPairsAlike.j1 kj7 t453 t454 t459 t463 t464 t465 false)) else (laws_FnAreaAndPairsAlike.j1 kj7 t453 t454 t459 t463 t464 t465 true))) else (laws_FnAreaAndPairsAlike.j1 kj7 t453 t454 t459 t463 t464 t465 true)) = some r := H
         have A27 := Aside0.mk A270
         clear A270
         by_cases c28 : t476 = true
         ·subst c28
          have H1 : (if (t473 != t475) = true then (laws_FnAreaAndPairsAlike.j1 kj7 t453 t454 t459 t463 t464 t465 true) else (if t472 = t474 then (if t465 = true then (laws_FnAreaAndPairsAlike.j1 kj7 t453 t454 t459 t463 t464 t465 (t472 != (t464.length : Int))) else (laws_FnAreaAndPairsAlike.j1 kj7 t453 t454 t459 t463 t464 t465 false)) else (laws_FnAreaAndPairsAlike.j1 kj7 t453 t454 t459 t463 t464 t465 true))) = some r := by rw [if_pos rfl] at H; exact H
          clear H
          have H := H1
          clear H1
          by_cases c29 : (t473 != t475) = true
          ·rw [if_pos c29] at H
           have c29b0 : (t473 != t475) = true := c29
           (try (have c29b1 : decide (t473 = t475) = false := by simpa using c29))
           (try (have c29b2 : (t473 == t475) = false := by simpa using c29))
           (try (have c29b3 : ¬ (t473 = t475) := by simpa using c29))
           clear c29
           have H' := Aside0.mk H
           clear H
           obtain ⟨Ao30, co30, eo30⟩ := Kd.N_slice HO467.out
           subst eo30
           obtain ⟨Ao31, co31, eo31⟩ := Kd.N_slice HO470.out
           subst eo31
           go_wp2_with (first | (go_at_call 14; (with_reducible refine (laws_wSameLists.calls kj7 _ _ t464 _ _ t468 true _ ?side1 ?side2 ?side3 ?side4 A27.out).mono ?_); (case side1 => repeat (first | exact (Kd.N_reads' HO467.out).2.2 | (with_reducible refine Kd.C_alloc ?_ _) | (with_reducible refine Kd.C_drewN ?_ _) | (with_reducible refine Kd.C_drew ?_))); (case side2 => exact (Kd.N_reads' HO467.out).2.1); (case side3 => repeat (first | exact (Kd.N_reads' HO470.out).2.2 | (with_reducible refine Kd.C_alloc ?_ _) | (with_reducible refine Kd.C_drewN ?_ _) | (with_reducible refine Kd.C_drew ?_))); (case side4 => exact (Kd.N_reads' HO470.out).2.1); rintro e w' ⟨rfl, ⟨nd, rfl⟩⟩))
           go_meet
           case rel => exact ⟨_, (true), (by first | rfl | (simp; done) | (simp [*]; done)), H', ⟨by have := HJ7.out; first | omega | exact Nat.le_refl _⟩, ⟨by (with_reducible repeat (first | apply Kd.N_alloc | apply Kd.N_drewN | apply Kd.N_drew)); exact Kd.N_mono HO_6.out (fun _ hk => hk.1.2)⟩, ⟨by (with_reducible repeat (first | apply Kd.N_alloc | apply Kd.N_drewN | apply Kd.N_drew)); exact Kd.N_mono HO467.out (fun _ hk => hk.1)⟩, ⟨by repeat (first | (with_reducible first | exact HB.out | apply below_alloc | apply pw_below_drewN | apply below_drew1) | exact HB.out)⟩⟩
          ·rw [if_neg c29] at H
           have c29b0 : (t473 != t475) = false := by simpa using c29
           (try (have c29b1 : decide (t473 = t475) = true := by simpa using c29))
           (try (have c29b2 : (t473 == t475) = true := by simpa using c29))
           clear c29
           by_cases c32 : t472 = t474
           ·rw [if_pos c32] at H
            have c32b0 : (t472 == t474) = true := beq_iff_eq.mpr c32
            have c32b1 : (t472 != t474) = false := bne_eq_false_iff_eq.mpr c32
            clear c32
            by_cases c33 : t465 = true
            ·subst c33
             have H1 : (laws_FnAreaAndPairsAlike.j1 kj7 t453 t454 t459 t463 t464 true (t472 != (t464.length : Int))) = some r := by rw [if_pos rfl] at H; exact H
             clear H
             have H := H1
             clear H1
             have H' := Aside0.mk H
             clear H
             obtain ⟨Ao34, co34, eo34⟩ := Kd.N_slice HO467.out
             subst eo34
             obtain ⟨Ao35, co35, eo35⟩ := Kd.N_slice HO470.out
             subst eo35
             go_wp2_with (first | (go_at_call 14; (with_reducible refine (laws_wSameLists.calls kj7 _ _ t464 _ _ t468 true _ ?side1 ?side2 ?side3 ?side4 A27.out).mono ?_); (case side1 => repeat (first | exact (Kd.N_reads' HO467.out).2.2 | (with_reducible refine Kd.C_alloc ?_ _) | (with_reducible refine Kd.C_drewN ?_ _) | (with_reducible refine Kd.C_drew ?_))); (case side2 => exact (Kd.N_reads' HO467.out).2.1); (case side3 => repeat (first | exact (Kd.N_reads' HO470.out).2.2 | (with_reducible refine Kd.C_alloc ?_ _) | (with_reducible refine Kd.C_drewN ?_ _) | (with_reducible refine Kd.C_drew ?_))); (case side4 => exact (Kd.N_reads' HO470.out).2.1); rintro e w' ⟨rfl, ⟨nd, rfl⟩⟩))
             go_meet
             case rel => exact ⟨_, ((t472 != (t464.length : Int))), (by first | rfl | (simp; done) | (simp [*]; done)), H', ⟨by have := HJ7.out; first | omega | exact Nat.le_refl _⟩, ⟨by (with_reducible repeat (first | apply Kd.N_alloc | apply Kd.N_drewN | apply Kd.N_drew)); exact Kd.N_mono HO_6.out (fun _ hk => hk.1.2)⟩, ⟨by (with_reducible repeat (first | apply Kd.N_alloc | apply Kd.N_drewN | apply Kd.N_drew)); exact Kd.N_mono HO467.out (fun _ hk => hk.1)⟩, ⟨by repeat (first | (with_reducible first | exact HB.out | apply below_alloc | apply pw_below_drewN | apply below_drew1) | exact HB.out)⟩⟩
            ·replace c33 := Bool.eq_false_iff.mpr c33
             subst c33
             have H1 : (laws_FnAreaAndPairsAlike.j1 kj7 t453 t454 t459 t463 t464 false false) = some r := by rw [if_neg (show ¬ (false = true) by decide)] at H; exact H
             clear H
             have H := H1
             clear H1
             have H' := Aside0.mk H
             clear H
             obtain ⟨Ao36, co36, eo36⟩ := Kd.N_slice HO467.out
             subst eo36
             obtain ⟨Ao37, co37, eo37⟩ := Kd.N_slice HO470.out
             subst eo37
             go_wp2_with (first | (go_at_call 14; (with_reducible refine (laws_wSameLists.calls kj7 _ _ t464 _ _ t468 true _ ?side1 ?side2 ?side3 ?side4 A27.out).mono ?_); (case side1 => repeat (first | exact (Kd.N_reads' HO467.out).2.2 | (with_reducible refine Kd.C_alloc ?_ _) | (with_reducible refine Kd.C_drewN ?_ _) | (with_reducible refine Kd.C_drew ?_))); (case side2 => exact (Kd.N_reads' HO467.out).2.1); (case side3 => repeat (first | exact (Kd.N_reads' HO470.out).2.2 | (with_reducible refine Kd.C_alloc ?_ _) | (with_reducible refine Kd.C_drewN ?_ _) | (with_reducible refine Kd.C_drew ?_))); (case side4 => exact (Kd.N_reads' HO470.out).2.1); rintro e w' ⟨rfl, ⟨nd, rfl⟩⟩))
             go_meet
             case rel => exact ⟨_, (false), (by first | rfl | (simp; done) | (simp [*]; done)), H', ⟨by have := HJ7.out; first | omega | exact Nat.le_refl _⟩, ⟨by (with_reducible repeat (first | apply Kd.N_alloc | apply Kd.N_drewN | apply Kd.N_drew)); exact Kd.N_mono HO_6.out (fun _ hk => hk.1.2)⟩, ⟨by (with_reducible repeat (first | apply Kd.N_alloc | apply Kd.N_drewN | apply Kd.N_drew)); exact Kd.N_mono HO467.out (fun _ hk => hk.1)⟩, ⟨by repeat (first | (with_reducible first | exact HB.out | apply below_alloc | apply pw_below_drewN | apply below_drew1) | exact HB.out)⟩⟩
           ·rw [if_neg c32] at H
            have c32b0 : (t472 == t474) = false := beq_eq_false_iff_ne.mpr c32
            have c32b1 : (t472 != t474) = true := bne_iff_ne.mpr c32
            have H' := Aside0.mk H
            clear H
            obtain ⟨Ao38, co38, eo38⟩ := Kd.N_slice HO467.out
            subst eo38
            obtain ⟨Ao39, co39, eo39⟩ := Kd.N_slice HO470.out
            subst eo39
            go_wp2_with (first | (go_at_call 14; (with_reducible refine (laws_wSameLists.calls kj7 _ _ t464 _ _ t468 true _ ?side1 ?side2 ?side3 ?side4 A27.out).mono ?_); (case side1 => repeat (first | exact (Kd.N_reads' HO467.out).2.2 | (with_reducible refine Kd.C_alloc ?_ _) | (with_reducible refine Kd.C_drewN ?_ _) | (with_reducible refine Kd.C_drew ?_))); (case side2 => exact (Kd.N_reads' HO467.out).2.1); (case side3 => repeat (first | exact (Kd.N_reads' HO470.out).2.2 | (with_reducible refine Kd.C_alloc ?_ _) | (with_reducible refine Kd.C_drewN ?_ _) | (with_reducible refine Kd.C_drew ?_))); (case side4 => exact (Kd.N_reads' HO470.out).2.1); rintro e w' ⟨rfl, ⟨nd, rfl⟩⟩))
            go_meet
            case rel => exact ⟨_, (true), (by first | rfl | (simp; done) | (simp [*]; done)), H', ⟨by have := HJ7.out; first | omega | exact Nat.le_refl _⟩, ⟨by (with_reducible repeat (first | apply Kd.N_alloc | apply Kd.N_drewN | apply Kd.N_drew)); exact Kd.N_mono HO_6.out (fun _ hk => hk.1.2)⟩, ⟨by (with_reducible repeat (first | apply Kd.N_alloc | apply Kd.N_drewN | apply Kd.N_drew)); exact Kd.N_mono HO467.out (fun _ hk => hk.1)⟩, ⟨by repeat (first | (with_reducible first | exact HB.out | apply below_alloc | apply pw_below_drewN | apply below_drew1) | exact HB.out)⟩⟩
         ·replace c28 := Bool.eq_false_iff.mpr c28
          subst c28
          have H1 : (laws_FnAreaAndPairsAlike.j1 kj7 t453 t454 t459 t463 t464 t465 true) = some r := by rw [if_neg (show ¬ (false = true) by decide)] at H; exact H
          clear H
          have H := H1
          clear H1
          have H' := Aside0.mk H
          clear H
          obtain ⟨Ao40, co40, eo40⟩ := Kd.N_slice HO467.out
          subst eo40
          obtain ⟨Ao41, co41, eo41⟩ := Kd.N_slice HO470.out
          subst eo41
          go_wp2_with (first | (go_at_call 14; (with_reducible refine (laws_wSameLists.calls kj7 _ _ t464 _ _ t468 false _ ?side1 ?side2 ?side3 ?side4 A27.out).mono ?_); (case side1 => repeat (first | exact (Kd.N_reads' HO467.out).2.2 | (with_reducible refine Kd.C_alloc ?_ _) | (with_reducible refine Kd.C_drewN ?_ _) | (with_reducible refine Kd.C_drew ?_))); (case side2 => exact (Kd.N_reads' HO467.out).2.1); (case side3 => repeat (first | exact (Kd.N_reads' HO470.out).2.2 | (with_reducible refine Kd.C_alloc ?_ _) | (with_reducible refine Kd.C_drewN ?_ _) | (with_reducible refine Kd.C_drew ?_))); (case side4 => exact (Kd.N_reads' HO470.out).2.1); rintro e w' ⟨rfl, ⟨nd, rfl⟩⟩))
          go_meet
          case rel => exact ⟨_, (true), (by first | rfl | (simp; done) | (simp [*]; done)), H', ⟨by have := HJ7.out; first | omega | exact Nat.le_refl _⟩, ⟨by (with_reducible repeat (first | apply Kd.N_alloc | apply Kd.N_drewN | apply Kd.N_drew)); exact Kd.N_mono HO_6.out (fun _ hk => hk.1.2)⟩, ⟨by (with_reducible repeat (first | apply Kd.N_alloc | apply Kd.N_drewN | apply Kd.N_drew)); exact Kd.N_mono HO467.out (fun _ hk => hk.1)⟩, ⟨by repeat (first | (with_reducible first | exact HB.out | apply below_alloc | apply pw_below_drewN | apply below_drew1) | exact HB.out)⟩⟩
       case rest =>
        clear HC22
        try clear c1
        try clear c2
        try clear p2
        try clear c3
        try clear c4
        try clear c7
        try clear c12
        try clear c12b0
        try clear c12b1
        try clear c12b2
        try clear c16
        try clear c17
        try clear c18
        try clear c19
        try clear c20
        try clear c21
        try clear c22
        try clear c23
        try clear c24
        try clear c26
        try clear c26b0
        try clear c26b1
        try clear c26b2
        try clear c28
        try clear c29
        try clear c29b0
        try clear c29b1
        try clear c29b2
        try clear c32
        try clear c32b0
        try clear c32b1
        try clear c33
        try clear p2
        obtain ⟨kq, x114_21, rfl, HA, HJ21, HO_6, HO_11, HB⟩ := hcut
        cases kq with
        | zero => exact absurd HA.out (by simp [laws_FnAreaAndPairsAlike.j1])
        | succ kj21 =>
         have H := HA.out
         clear HA
         simp only [laws_FnAreaAndPairsAlike.j1] at H
         by_cases c42 : x114_21 = true
         ·subst c42
          have H1 : (some false) = some r := by rw [if_pos rfl] at H; exact H
          clear H
          have H := H1
          clear H1
          obtain rfl := Option.some.inj H
          go_wp2
          go_ret
          exact ⟨by first | rfl | (simp [errW_none, errW_some] <;> rfl) | (simp [*, errW_none, errW_some] <;> rfl), by repeat (first | (with_reducible first | exact HB.out | apply below_alloc | apply pw_below_drewN | apply below_drew1) | exact HB.out)⟩
         ·as_aux_lemma =>
           replace c42 := Bool.eq_false_iff.mpr c42
           subst c42
           have H1 : (if t465 = true then (if 30 ≤ 35184372088832 then (laws_FnAreaAndPairsAlike.l0 kj21 t453 t454 t459 t463 t464 (List.replicate 30 0) (List.replicate 30 0) 0 t464 (t464.length : Int) 0) else (none)) else (laws_FnAreaAndPairsAlike.j3 kj21 t453 t454 t459)) = some r := by rw [if_neg (show ¬ (false = true) by decide)] at H; exact H
           clear H
           have H := H1
           clear H1
           have HC43 := Aside0.mk H
           clear H
           go_upto_if 115 with (fail)
           go_cut [] (fun wc => ∃ (kq : Nat), Aside0 (laws_FnAreaAndPairsAlike.j3 kq t453 t454 t459 = some r) ∧ Aside0 (kq ≤ kj21) ∧ Aside0 (Kd.N (Kd.slice 3 (Kd.int .i64)) 24 wc w.heap.size (fun _ => True) v456 t454) ∧ Aside0 (Below w.heap.size w wc))
           case first =>
            have H := HC43.out
            clear HC43
            by_cases c44 : t465 = true
            ·as_aux_lemma =>
              subst c44
              have H1 : (if 30 ≤ 35184372088832 then (laws_FnAreaAndPairsAlike.l0 kj21 t453 t454 t459 t463 t464 (List.replicate 30 0) (List.replicate 30 0) 0 t464 (t464.length : Int) 0) else (none)) = some r := by rw [if_pos rfl] at H; exact H
              clear H
              have H := H1
              clear H1
              by_cases c45 : 30 ≤ 35184372088832
              ·as_aux_lemma =>
                rw [if_pos c45] at H
                have c45b0 := eq_true c45
                have c45b1 : decide (30 ≤ 35184372088832) = true := decide_eq_true c45
                clear c45
                obtain ⟨y477, hy477⟩ : ∃ y_ : List Int, y_ = (List.replicate 30 0) := ⟨_, rfl⟩
                replace H : (laws_FnAreaAndPairsAlike.l0 kj21 t453 t454 t459 t463 t464 y477 (List.replicate 30 0) 0 t464 (t464.length : Int) 0) = some r := by first | (rw [hy477]; with_reducible exact H) | (have H2_ := (Option.bind_some _ _).symm.trans H; rw [hy477]; with_reducible exact H2_) | (have H2_ := (Option.bind_some _ _).symm.trans H; with_reducible exact H2_) | with_reducible exact H | (rw [hy477]; exact H) | exact H
                have Ny477 := Aside0.mk hy477
                clear hy477
                obtain ⟨y480, hy480⟩ : ∃ y_ : List Int, y_ = (List.replicate 30 0) := ⟨_, rfl⟩
                replace H : (laws_FnAreaAndPairsAlike.l0 kj21 t453 t454 t459 t463 t464 y477 y480 0 t464 (t464.length : Int) 0) = some r := by first | (rw [hy480]; with_reducible exact H) | (have H2_ := (Option.bind_some _ _).symm.trans H; rw [hy480]; with_reducible exact H2_) | (have H2_ := (Option.bind_some _ _).symm.trans H; with_reducible exact H2_) | with_reducible exact H | (rw [hy480]; exact H) | exact H
                have Ny480 := Aside0.mk hy480
                clear hy480
                have H' := Aside0.mk H
                clear H
                try go_wp2
                have n0_ := Aside0.mk (Kd.N_drew HO_6.out)
                have n1_ := Aside0.mk (Kd.N_drew HO_11.out)
                have n2_ := Aside0.mk (below_drew1 HB.out)
                clear HO_6
                clear HO_11
                clear HB
                have HO_6 := n0_
                have HO_11 := n1_
                have HB := n2_
                clear n0_ n1_ n2_
                refine start_ (n := 4) (S := fun w' => True) (ds := []) #[false, false, false, false] (by kernel_rfl) rfl rfl trivial (fun hHeld => ?_)
                generalize wc.drew = w46 at HO_6 HO_11 HB hHeld ⊢
                refine join_ (σ := Value × Value) 1 #[true, true, true, false] (fun s_ => [(116, s_.1), (117, s_.2), (19, s_.1)]) (fun s_ w' => (Kd.R (Kd.int .i64) 3 w' w.heap.size (fun k_ => some k_ ≠ (s_.2 : Value).ownBlock) s_.1 y477) ∧ (Kd.R (Kd.int .i64) 3 w' w.heap.size (fun k_ => some k_ ≠ (s_.1 : Value).ownBlock) s_.2 y480) ∧ (Kd.N (Kd.slice 3 (Kd.int .i64)) 24 w' w.heap.size (fun k_ => some k_ ≠ (s_.1 : Value).ownBlock ∧ some k_ ≠ (s_.2 : Value).ownBlock ∧ some k_ ≠ (v456 : Value).ownBlock) v466 t464) ∧ (Kd.N (Kd.slice 3 (Kd.int .i64)) 24 w' w.heap.size (fun k_ => some k_ ≠ (s_.1 : Value).ownBlock ∧ some k_ ≠ (s_.2 : Value).ownBlock ∧ some k_ ≠ (v466 : Value).ownBlock) v456 t454) ∧ (Below w.heap.size w w')) ?_ ?_
                rotate_left
                ·as_aux_lemma =>
                  intro hCont
                  refine two_ (i := 0) (j := 1) (Ni := some 116) (Nj := some 117) #[true, false, false, false] #[false, true, false, false] rfl rfl rfl rfl (by kernel_rfl) (by decide) (by decide) (fun K hK => ?_) (fun K hK => ?_)
                  ·skip
                   refine Kd.R_make_step (Kd.int .i64) _ 3 (by rfl) (N := 116) rfl 24 _ _ rfl 30 rfl rfl Try.underlying24 (.int .i64 0) 8 info3 rfl (by decide) (by omega) 0 (ok := fun _ => True) (okp := fun _ => True) rfl (fun _ hk => hk) trivial (by omega) (by omega) (Below.refl _ _) (Nat.le_refl _) ?_
                   intro v478 w47 ho48 hb hg_ hnew_
                   clear hg_ hnew_
                   (first | rw [← Ny477.out] at ho48 | (simp only [Int.reduceToNat] at ho48; rw [← Ny477.out] at ho48))
                   have n0_ := Aside0.mk (Kd.N_elder' (by (with_reducible repeat (first | apply Kd.N_alloc | apply Kd.N_drewN | apply Kd.N_drew)); exact HO_6.out) (Kd.R_base ho48) hb)
                   have n1_ := Aside0.mk (Kd.N_elder' (by (with_reducible repeat (first | apply Kd.N_alloc | apply Kd.N_drewN | apply Kd.N_drew)); exact HO_11.out) (Kd.R_base ho48) hb)
                   have n2_ := Aside0.mk (Kd.R_lower ho48 (below_size (by repeat (first | (with_reducible first | exact HB.out | apply below_alloc | apply pw_below_drewN | apply below_drew1) | exact HB.out))))
                   have n3_ := Aside0.mk (below_step (by repeat (first | (with_reducible first | exact HB.out | apply below_alloc | apply pw_below_drewN | apply below_drew1) | exact HB.out)) hb)
                   clear HO_6
                   clear HO_11
                   clear HB
                   have HO_6 := n0_
                   have HO_11 := n1_
                   have HO479 := n2_
                   have HB := n3_
                   clear n0_ n1_ n2_ n3_
                   clear hb ho48
                   refine hK.out _ _ trivial (fun hHeld => ?_)
                   clear hK K
                   refine norm_ (a' := ?_) ?_ ?_
                   rotate_left
                   ·show Act.put _ (some 116) _ = _
                    simp only [Act.put, List.setIfInBounds_toArray, List.set_cons_zero, List.set_cons_succ, i64_w, i32_w]
                    rfl
                   refine pure_ (i := 2) (N := some 19) (v := ?_) (a' := ?_) #[true, false, true, false] rfl rfl (by kernel_rfl) (fun _ _ _ h => h) (Or.inl ⟨by rfl, ?_⟩) ?_ ?_
                   rotate_left
                   ·intro w'
                    go_simp
                    with_reducible rfl
                   rotate_left
                   ·simp only [Act.put, List.setIfInBounds_toArray, List.set_cons_zero, List.set_cons_succ, i64_w, i32_w]
                    rfl
                   refine one_ (i := 1) (N := some 117) #[true, true, true, false] rfl rfl (by kernel_rfl) (by decide) (fun K hK => ?_)
                   refine Kd.R_make_step (Kd.int .i64) _ 3 (by rfl) (N := 117) rfl 24 _ _ rfl 30 rfl rfl Try.underlying24 (.int .i64 0) 8 info3 rfl (by decide) (by omega) 0 (ok := fun _ => True) (okp := fun _ => True) rfl (fun _ hk => hk) trivial (by omega) (by omega) (Below.refl _ _) (Nat.le_refl _) ?_
                   intro v481 w49 ho50 hb hg_ hnew_
                   clear hg_ hnew_
                   (first | rw [← Ny480.out] at ho50 | (simp only [Int.reduceToNat] at ho50; rw [← Ny480.out] at ho50))
                   have n0_ := Aside0.mk (Kd.N_elder' (by (with_reducible repeat (first | apply Kd.N_alloc | apply Kd.N_drewN | apply Kd.N_drew)); exact HO_6.out) (Kd.R_base ho50) hb)
                   have n1_ := Aside0.mk (Kd.N_elder' (by (with_reducible repeat (first | apply Kd.N_alloc | apply Kd.N_drewN | apply Kd.N_drew)); exact HO_11.out) (Kd.R_base ho50) hb)
                   have n2_ := Aside0.mk (Kd.R_elder' (by (with_reducible repeat (first | apply Kd.R_alloc | apply Kd.R_drewN | apply Kd.R_drew)); exact HO479.out) (Kd.R_base ho50) hb)
                   have n3_ := Aside0.mk (Kd.R_lower (Kd.R_new' ho50 (Kd.R_lt (by (with_reducible repeat (first | apply Kd.R_alloc | apply Kd.R_drewN | apply Kd.R_drew)); exact HO479.out))) (below_size (by repeat (first | (with_reducible first | exact HB.out | apply below_alloc | apply pw_below_drewN | apply below_drew1) | exact HB.out))))
                   have n4_ := Aside0.mk (below_step (by repeat (first | (with_reducible first | exact HB.out | apply below_alloc | apply pw_below_drewN | apply below_drew1) | exact HB.out)) hb)
                   clear HO_6
                   clear HO_11
                   clear HO479
                   clear HB
                   have HO_6 := n0_
                   have HO_11 := n1_
                   have HO479 := n2_
                   have HO482 := n3_
                   have HB := n4_
                   clear n0_ n1_ n2_ n3_ n4_
                   clear hb ho50
                   refine hK.out _ _ trivial (fun hHeld => ?_)
                   clear hK K
                   refine norm_ (a' := ?_) ?_ ?_
                   rotate_left
                   ·show Act.put _ (some 117) _ = _
                    simp only [Act.put, List.setIfInBounds_toArray, List.set_cons_zero, List.set_cons_succ, i64_w, i32_w]
                    rfl
                   exact norm_ (by simp only [putAll, Act.put, List.setIfInBounds_toArray, List.set_cons_zero, List.set_cons_succ]) (hCont (v478, v481) _ ⟨(by (with_reducible repeat (first | apply Kd.R_alloc | apply Kd.R_drewN | apply Kd.R_drew)); exact Kd.R_mono HO479.out (fun _ hk => hk.2)), (by (with_reducible repeat (first | apply Kd.R_alloc | apply Kd.R_drewN | apply Kd.R_drew)); exact Kd.R_mono HO482.out (fun _ hk => hk.2)), (by (with_reducible repeat (first | apply Kd.N_alloc | apply Kd.N_drewN | apply Kd.N_drew)); exact Kd.N_mono HO_11.out (fun _ hk => ⟨hk.1.2, ⟨hk.2, hk.1.1⟩⟩)), (by (with_reducible repeat (first | apply Kd.N_alloc | apply Kd.N_drewN | apply Kd.N_drew)); exact Kd.N_mono HO_6.out (fun _ hk => ⟨hk.1.2, ⟨hk.2, hk.1.1⟩⟩)), (by repeat (first | (with_reducible first | exact HB.out | apply below_alloc | apply pw_below_drewN | apply below_drew1) | exact HB.out))⟩)
                  ·skip
                   refine Kd.R_make_step (Kd.int .i64) _ 3 (by rfl) (N := 117) rfl 24 _ _ rfl 30 rfl rfl Try.underlying24 (.int .i64 0) 8 info3 rfl (by decide) (by omega) 0 (ok := fun _ => True) (okp := fun _ => True) rfl (fun _ hk => hk) trivial (by omega) (by omega) (Below.refl _ _) (Nat.le_refl _) ?_
                   intro v481 w47 ho48 hb hg_ hnew_
                   clear hg_ hnew_
                   (first | rw [← Ny480.out] at ho48 | (simp only [Int.reduceToNat] at ho48; rw [← Ny480.out] at ho48))
                   have n0_ := Aside0.mk (Kd.N_elder' (by (with_reducible repeat (first | apply Kd.N_alloc | apply Kd.N_drewN | apply Kd.N_drew)); exact HO_6.out) (Kd.R_base ho48) hb)
                   have n1_ := Aside0.mk (Kd.N_elder' (by (with_reducible repeat (first | apply Kd.N_alloc | apply Kd.N_drewN | apply Kd.N_drew)); exact HO_11.out) (Kd.R_base ho48) hb)
                   have n2_ := Aside0.mk (Kd.R_lower ho48 (below_size (by repeat (first | (with_reducible first | exact HB.out | apply below_alloc | apply pw_below_drewN | apply below_drew1) | exact HB.out))))
                   have n3_ := Aside0.mk (below_step (by repeat (first | (with_reducible first | exact HB.out | apply below_alloc | apply pw_below_drewN | apply below_drew1) | exact HB.out)) hb)
                   clear HO_6
                   clear HO_11
                   clear HB
                   have HO_6 := n0_
                   have HO_11 := n1_
                   have HO482 := n2_
                   have HB := n3_
                   clear n0_ n1_ n2_ n3_
                   clear hb ho48
                   refine hK.out _ _ trivial (fun hHeld => ?_)
                   clear hK K
                   refine norm_ (a' := ?_) ?_ ?_
                   rotate_left
                   ·show Act.put _ (some 117) _ = _
                    simp only [Act.put, List.setIfInBounds_toArray, List.set_cons_zero, List.set_cons_succ, i64_w, i32_w]
                    rfl
                   refine one_ (i := 0) (N := some 116) #[true, true, false, false] rfl rfl (by kernel_rfl) (by decide) (fun K hK => ?_)
                   refine Kd.R_make_step (Kd.int .i64) _ 3 (by rfl) (N := 116) rfl 24 _ _ rfl 30 rfl rfl Try.underlying24 (.int .i64 0) 8 info3 rfl (by decide) (by omega) 0 (ok := fun _ => True) (okp := fun _ => True) rfl (fun _ hk => hk) trivial (by omega) (by omega) (Below.refl _ _) (Nat.le_refl _) ?_
                   intro v478 w49 ho50 hb hg_ hnew_
                   clear hg_ hnew_
                   (first | rw [← Ny477.out] at ho50 | (simp only [Int.reduceToNat] at ho50; rw [← Ny477.out] at ho50))
                   have n0_ := Aside0.mk (Kd.N_elder' (by (with_reducible repeat (first | apply Kd.N_alloc | apply Kd.N_drewN | apply Kd.N_drew)); exact HO_6.out) (Kd.R_base ho50) hb)
                   have n1_ := Aside0.mk (Kd.N_elder' (by (with_reducible repeat (first | apply Kd.N_alloc | apply Kd.N_drewN | apply Kd.N_drew)); exact HO_11.out) (Kd.R_base ho50) hb)
                   have n2_ := Aside0.mk (Kd.R_elder' (by (with_reducible repeat (first | apply Kd.R_alloc | apply Kd.R_drewN | apply Kd.R_drew)); exact HO482.out) (Kd.R_base ho50) hb)
                   have n3_ := Aside0.mk (Kd.R_lower (Kd.R_new' ho50 (Kd.R_lt (by (with_reducible repeat (first | apply Kd.R_alloc | apply Kd.R_drewN | apply Kd.R_drew)); exact HO482.out))) (below_size (by repeat (first | (with_reducible first | exact HB.out | apply below_alloc | apply pw_below_drewN | apply below_drew1) | exact HB.out))))
                   have n4_ := Aside0.mk (below_step (by repeat (first | (with_reducible first | exact HB.out | apply below_alloc | apply pw_below_drewN | apply below_drew1) | exact HB.out)) hb)
                   clear HO_6
                   clear HO_11
                   clear HO482
                   clear HB
                   have HO_6 := n0_
                   have HO_11 := n1_
                   have HO482 := n2_
                   have HO479 := n3_
                   have HB := n4_
                   clear n0_ n1_ n2_ n3_ n4_
                   clear hb ho50
                   refine hK.out _ _ trivial (fun hHeld => ?_)
                   clear hK K
                   refine norm_ (a' := ?_) ?_ ?_
                   rotate_left
                   ·show Act.put _ (some 116) _ = _
                    simp only [Act.put, List.setIfInBounds_toArray, List.set_cons_zero, List.set_cons_succ, i64_w, i32_w]
                    rfl
                   refine pure_ (i := 2) (N := some 19) (v := ?_) (a' := ?_) #[true, true, true, false] rfl rfl (by kernel_rfl) (fun _ _ _ h => h) (Or.inl ⟨by rfl, ?_⟩) ?_ ?_
                   rotate_left
                   ·intro w'
                    go_simp
                    with_reducible rfl
                   rotate_left
                   ·simp only [Act.put, List.setIfInBounds_toArray, List.set_cons_zero, List.set_cons_succ, i64_w, i32_w]
                    rfl
                   exact norm_ (by simp only [putAll, Act.put, List.setIfInBounds_toArray, List.set_cons_zero, List.set_cons_succ]) (hCont (v478, v481) _ ⟨(by (with_reducible repeat (first | apply Kd.R_alloc | apply Kd.R_drewN | apply Kd.R_drew)); exact Kd.R_mono HO479.out (fun _ hk => hk.2)), (by (with_reducible repeat (first | apply Kd.R_alloc | apply Kd.R_drewN | apply Kd.R_drew)); exact Kd.R_mono HO482.out (fun _ hk => hk.2)), (by (with_reducible repeat (first | apply Kd.N_alloc | apply Kd.N_drewN | apply Kd.N_drew)); exact Kd.N_mono HO_11.out (fun _ hk => ⟨hk.2, ⟨hk.1.2, hk.1.1⟩⟩)), (by (with_reducible repeat (first | apply Kd.N_alloc | apply Kd.N_drewN | apply Kd.N_drew)); exact Kd.N_mono HO_6.out (fun _ hk => ⟨hk.2, ⟨hk.1.2, hk.1.1⟩⟩)), (by repeat (first | (with_reducible first | exact HB.out | apply below_alloc | apply pw_below_drewN | apply below_drew1) | exact HB.out))⟩)
                rintro ⟨v478, v481⟩ w51 ⟨h0_, h1_, h2_, h3_, h4_⟩
                have n0_ : Aside0 (Kd.R (Kd.int .i64) 3 w51 w.heap.size (fun k_ => some k_ ≠ (v481 : Value).ownBlock) v478 y477) := ⟨h0_⟩
                have n1_ : Aside0 (Kd.R (Kd.int .i64) 3 w51 w.heap.size (fun k_ => some k_ ≠ (v478 : Value).ownBlock) v481 y480) := ⟨h1_⟩
                have n2_ : Aside0 (Kd.N (Kd.slice 3 (Kd.int .i64)) 24 w51 w.heap.size (fun k_ => some k_ ≠ (v478 : Value).ownBlock ∧ some k_ ≠ (v481 : Value).ownBlock ∧ some k_ ≠ (v456 : Value).ownBlock) v466 t464) := ⟨h2_⟩
                have n3_ : Aside0 (Kd.N (Kd.slice 3 (Kd.int .i64)) 24 w51 w.heap.size (fun k_ => some k_ ≠ (v478 : Value).ownBlock ∧ some k_ ≠ (v481 : Value).ownBlock ∧ some k_ ≠ (v466 : Value).ownBlock) v456 t454) := ⟨h3_⟩
                have n4_ : Aside0 (Below w.heap.size w w51) := ⟨h4_⟩
                clear HO_6
                clear HO_11
                clear HB
                clear h0_ h1_ h2_ h3_ h4_
                have HO479 := n0_
                have HO482 := n1_
                have HO_11 := n2_
                have HO_6 := n3_
                have HB := n4_
                clear n0_ n1_ n2_ n3_ n4_
                have hHeld := trivial
                refine norm_ (a' := ?_) ?_ ?_
                rotate_left
                ·simp only [putAll, Act.put, List.setIfInBounds_toArray, List.set_cons_zero, List.set_cons_succ]
                 rfl
                refine pure_ (i := 3) (N := some 20) (v := ?_) (a' := ?_) #[true, true, true, true] rfl rfl (by kernel_rfl) (fun _ _ _ h => h) (Or.inl ⟨by rfl, ?_⟩) ?_ ?_
                rotate_left
                ·intro w'
                 go_simp
                 with_reducible rfl
                rotate_left
                ·simp only [Act.put, List.setIfInBounds_toArray, List.set_cons_zero, List.set_cons_succ, i64_w, i32_w]
                 rfl
                refine done_ (by kernel_rfl) ?_
                obtain ⟨Ao52, co52, eo52⟩ := Kd.N_slice HO_11.out
                subst eo52
                try go_wp2
                go_loopg [21, 120] kj21 (fun kq v21 v120 w' => ∃ (x19_3 : List Int) (x20_3 : List Int) (x21_3 : Int) (x120_3 : Int), v21 = .int .i64 x21_3 ∧ v120 = .int .i64 x120_3 ∧ Aside0 (laws_FnAreaAndPairsAlike.l0 kq t453 t454 t459 t463 t464 x19_3 x20_3 x21_3 t464 (t464.length : Int) x120_3 = some r) ∧ Aside0 (kq ≤ kj21) ∧ Aside0 (Kd.N (Kd.slice 3 (Kd.int .i64)) 24 w' w.heap.size (fun k_ => some k_ ≠ ((.slice Ao52 t464.length co52) : Value).ownBlock ∧ some k_ ≠ (v478 : Value).ownBlock ∧ some k_ ≠ (v481 : Value).ownBlock ∧ some k_ ≠ ((.slice Ao52 t464.length co52) : Value).ownBlock) v456 t454) ∧ Aside0 (Kd.N (Kd.slice 3 (Kd.int .i64)) 24 w' w.heap.size (fun k_ => some k_ ≠ (v456 : Value).ownBlock ∧ some k_ ≠ (v478 : Value).ownBlock ∧ some k_ ≠ (v481 : Value).ownBlock) (.slice Ao52 t464.length co52) t464) ∧ Aside0 (Kd.R (Kd.int .i64) 3 w' w.heap.size (fun k_ => some k_ ≠ (v481 : Value).ownBlock) v478 x19_3) ∧ Aside0 (Kd.R (Kd.int .i64) 3 w' w.heap.size (fun k_ => some k_ ≠ (v478 : Value).ownBlock) v481 x20_3) ∧ Aside0 (Kd.N (Kd.slice 3 (Kd.int .i64)) 24 w' w.heap.size (fun k_ => some k_ ≠ (v456 : Value).ownBlock ∧ some k_ ≠ (v478 : Value).ownBlock ∧ some k_ ≠ (v481 : Value).ownBlock) (.slice Ao52 t464.length co52) t464) ∧ Aside0 (Below w.heap.size w w'))
                case atStart => exact ⟨(y477), (y480), (0), (0), (by first | rfl | (simp; done) | (simp [*]; done)), (by first | rfl | (simp; done) | (simp [*]; done)), H', ⟨Nat.le_refl _⟩, ⟨by (with_reducible repeat (first | apply Kd.N_alloc | apply Kd.N_drewN | apply Kd.N_drew)); exact Kd.N_mono HO_6.out (fun _ hk => ⟨hk.2.2, ⟨hk.1, ⟨hk.2.1, hk.2.2⟩⟩⟩)⟩, ⟨by (with_reducible repeat (first | apply Kd.N_alloc | apply Kd.N_drewN | apply Kd.N_drew)); exact Kd.N_mono HO_11.out (fun _ hk => ⟨hk.2.2, ⟨hk.1, hk.2.1⟩⟩)⟩, ⟨by (with_reducible repeat (first | apply Kd.R_alloc | apply Kd.R_drewN | apply Kd.R_drew)); exact HO479.out⟩, ⟨by (with_reducible repeat (first | apply Kd.R_alloc | apply Kd.R_drewN | apply Kd.R_drew)); exact HO482.out⟩, ⟨by (with_reducible repeat (first | apply Kd.N_alloc | apply Kd.N_drewN | apply Kd.N_drew)); exact Kd.N_mono HO_11.out (fun _ hk => ⟨hk.2.2, ⟨hk.1, hk.2.1⟩⟩)⟩, ⟨by repeat (first | (with_reducible first | exact HB.out | apply below_alloc | apply pw_below_drewN | apply below_drew1) | exact HB.out)⟩⟩
                case round =>
                 clear H'
                 try clear c1
                 try clear c2
                 try clear p2
                 try clear c3
                 try clear c4
                 try clear c7
                 try clear c12
                 try clear c12b0
                 try clear c12b1
                 try clear c12b2
                 try clear c16
                 try clear c17
                 try clear c18
                 try clear c19
                 try clear c20
                 try clear c21
                 try clear c22
                 try clear c23
                 try clear c24
                 try clear c26
                 try clear c26b0
                 try clear c26b1
                 try clear c26b2
                 try clear c28
                 try clear c29
                 try clear c29b0
                 try clear c29b1
                 try clear c29b2
                 try clear c32
                 try clear c32b0
                 try clear c32b1
                 try clear c33
                 try clear c42
                 try clear c44
                 try clear c45
                 try clear c45b0
                 try clear c45b1
                 try clear p2
                 obtain ⟨x19_3, x20_3, x21_3, x120_3, rfl, rfl, HA, HK3, HO_6, HO_11, HO_19, HO_20, HO_118, HB⟩ := hrel
                 cases gk with
                 | zero => exact absurd HA.out (by simp [laws_FnAreaAndPairsAlike.l0])
                 | succ k3 =>
                  have H := HA.out
                  clear HA
                  simp only [laws_FnAreaAndPairsAlike.l0] at H
                  by_cases c53 : x120_3 < (t464.length : Int)
                  ·as_aux_lemma =>
                    rw [if_pos c53] at H
                    have c53b0 : decide (x120_3 < (t464.length : Int)) = true := decide_eq_true c53
                    clear c53
                    (first | rw [c53b0] | (simp only [i64_w, i32_w]; rw [c53b0]) | rw [c53b1] | skip)
                    by_cases c54 : 0 ≤ x120_3
                    ·as_aux_lemma =>
                      rw [if_pos c54] at H
                      have c54b0 : decide (0 ≤ x120_3) = true := decide_eq_true c54
                      clear c54
                      by_cases c55 : x120_3 < (t464.length : Int)
                      ·as_aux_lemma =>
                        rw [if_pos c55] at H
                        have c55b0 : decide (x120_3 < (t464.length : Int)) = true := decide_eq_true c55
                        clear c55
                        replace H := Option.bind_eq_some_iff.mp H
                        obtain ⟨⟨t484, t485⟩, A560, H⟩ := H
                        replace H : ((impl_CountLabels.f k3 (rd_L2 t464 x120_3)).bind fun bt486 => (if t485 = true then (if bt486.2 = true then (if t484 < 0 then (some false) else (if t484 ≥ 30 then (some false) else (if x120_3 > 0 then (if 0 ≤ (wrap64 (x120_3 - 1)) then (if (wrap64 (x120_3 - 1)) < (t464.length : Int) then ((laws_wLess.f k3 (rd_L2 t464 (wrap64 (x120_3 - 1))) (rd_L2 t464 x120_3)).bind fun t489 => (if t489 = true then ((laws_wSum.f k3 (rd_L2 t464 x120_3)).bind fun t490 => (if 0 ≤ t490 then (if t490 < (x19_3.length : Int) then (if 0 ≤ t484 then (if t484 < (x20_3.length : Int) then (laws_FnAreaAndPairsAlike.l0 k3 t453 t454 t459 t463 t464 (x19_3.set (t490 : Int).toNat (wrap64 ((rd x19_3 t490) + 1))) (x20_3.set (t484 : Int).toNat (wrap64 ((rd x20_3 t484) + 1))) (wrap64 (x21_3 + bt486.1)) t464 (t464.length : Int) (wrap64 (x120_3 + 1))) else (none)) else (none)) else (none)) else (none))) else (some false))) else (none)) else (none)) else ((laws_wSum.f k3 (rd_L2 t464 x120_3)).bind fun t495 => (if 0 ≤ t495 then (if t495 < (x19_3.length : Int) then (if 0 ≤ t484 then (if t484 < (x20_3.length : Int) then (laws_FnAreaAndPairsAlike.l0 k3 t453 t454 t459 t463 t464 (x19_3.set (t495 : Int).toNat (wrap64 ((rd x19_3 t495) + 1))) (x20_3.set (t484 : Int).toNat (wrap64 ((rd x20_3 t484) + 1))) (wrap64 (x21_3 + bt486.1)) t464 (t464.length : Int) (wrap64 (x120_3 + 1))) else (none)) else (none)) else (none)) else (none)))))) else (some false)) else (some false))) = some r := H
                        have A56 := Aside0.mk A560
                        clear A560
                        replace H := Option.bind_eq_some_iff.mp H
                        obtain ⟨⟨t486, t487⟩, A570, H⟩ := H
                        replace H : (if t485 = true then (if t487 = true then (if t484 < 0 then (some false) else (if t484 ≥ 30 then (some false) else (if x120_3 > 0 then (if 0 ≤ (wrap64 (x120_3 - 1)) then (if (wrap64 (x120_3 - 1)) < (t464.length : Int) then ((laws_wLess.f k3 (rd_L2 t464 (wrap64 (x120_3 - 1))) (rd_L2 t464 x120_3)).bind fun t489 => (if t489 = true then ((laws_wSum.f k3 (rd_L2 t464 x120_3)).bind fun t490 => (if 0 ≤ t490 then (if t490 < (x19_3.length : Int) then (if 0 ≤ t484 then (if t484 < (x20_3.length : Int) then (laws_FnAreaAndPairsAlike.l0 k3 t453 t454 t459 t463 t464 (x19_3.set (t490 : Int).toNat (wrap64 ((rd x19_3 t490) + 1))) (x20_3.set (t484 : Int).toNat (wrap64 ((rd x20_3 t484) + 1))) (wrap64 (x21_3 + t486)) t464 (t464.length : Int) (wrap64 (x120_3 + 1))) else (none)) else (none)) else (none)) else (none))) else (some false))) else (none)) else (none)) else ((laws_wSum.f k3 (rd_L2 t464 x120_3)).bind fun t495 => (if 0 ≤ t495 then (if t495 < (x19_3.length : Int) then (if 0 ≤ t484 then (if t484 < (x20_3.length : Int) then (laws_FnAreaAndPairsAlike.l0 k3 t453 t454 t459 t463 t464 (x19_3.set (t495 : Int).toNat (wrap64 ((rd x19_3 t495) + 1))) (x20_3.set (t484 : Int).toNat (wrap64 ((rd x20_3 t484) + 1))) (wrap64 (x21_3 + t486)) t464 (t464.length : Int) (wrap64 (x120_3 + 1))) else (none)) else (none)) else (none)) else (none)))))) else (some false)) else (some false)) = some r := H
                        have A57 := Aside0.mk A570
                        clear A570
                        by_cases c58 : t485 = true
                        ·as_aux_lemma =>
                          subst c58
                          have H1 : (if t487 = true then (if t484 < 0 then (some false) else (if t484 ≥ 30 then (some false) else (if x120_3 > 0 then (if 0 ≤ (wrap64 (x120_3 - 1)) then (if (wrap64 (x120_3 - 1)) < (t464.length : Int) then ((laws_wLess.f k3 (rd_L2 t464 (wrap64 (x120_3 - 1))) (rd_L2 t464 x120_3)).bind fun t489 => (if t489 = true then ((laws_wSum.f k3 (rd_L2 t464 x120_3)).bind fun t490 => (if 0 ≤ t490 then (if t490 < (x19_3.length : Int) then (if 0 ≤ t484 then (if t484 < (x20_3.length : Int) then (laws_FnAreaAndPairsAlike.l0 k3 t453 t454 t459 t463 t464 (x19_3.set (t490 : Int).toNat (wrap64 ((rd x19_3 t490) + 1))) (x20_3.set (t484 : Int).toNat (wrap64 ((rd x20_3 t484) + 1))) (wrap64 (x21_3 + t486)) t464 (t464.length : Int) (wrap64 (x120_3 + 1))) else (none)) else (none)) else (none)) else (none))) else (some false))) else (none)) else (none)) else ((laws_wSum.f k3 (rd_L2 t464 x120_3)).bind fun t495 => (if 0 ≤ t495 then (if t495 < (x19_3.length : Int) then (if 0 ≤ t484 then (if t484 < (x20_3.length : Int) then (laws_FnAreaAndPairsAlike.l0 k3 t453 t454 t459 t463 t464 (x19_3.set (t495 : Int).toNat (wrap64 ((rd x19_3 t495) + 1))) (x20_3.set (t484 : Int).toNat (wrap64 ((rd x20_3 t484) + 1))) (wrap64 (x21_3 + t486)) t464 (t464.length : Int) (wrap64 (x120_3 + 1))) else (none)) else (none)) else (none)) else (none)))))) else (some false)) = some r := by rw [if_pos rfl] at H; exact H
                          clear H
                          have H := H1
                          clear H1
                          by_cases c59 : t487 = true
                          ·as_aux_lemma =>
                            subst c59
                            have H1 : (if t484 < 0 then (some false) else (if t484 ≥ 30 then (some false) else (if x120_3 > 0 then (if 0 ≤ (wrap64 (x120_3 - 1)) then (if (wrap64 (x120_3 - 1)) < (t464.length : Int) then ((laws_wLess.f k3 (rd_L2 t464 (wrap64 (x120_3 - 1))) (rd_L2 t464 x120_3)).bind fun t489 => (if t489 = true then ((laws_wSum.f k3 (rd_L2 t464 x120_3)).bind fun t490 => (if 0 ≤ t490 then (if t490 < (x19_3.length : Int) then (if 0 ≤ t484 then (if t484 < (x20_3.length : Int) then (laws_FnAreaAndPairsAlike.l0 k3 t453 t454 t459 t463 t464 (x19_3.set (t490 : Int).toNat (wrap64 ((rd x19_3 t490) + 1))) (x20_3.set (t484 : Int).toNat (wrap64 ((rd x20_3 t484) + 1))) (wrap64 (x21_3 + t486)) t464 (t464.length : Int) (wrap64 (x120_3 + 1))) else (none)) else (none)) else (none)) else (none))) else (some false))) else (none)) else (none)) else ((laws_wSum.f k3 (rd_L2 t464 x120_3)).bind fun t495 => (if 0 ≤ t495 then (if t495 < (x19_3.length : Int) then (if 0 ≤ t484 then (if t484 < (x20_3.length : Int) then (laws_FnAreaAndPairsAlike.l0 k3 t453 t454 t459 t463 t464 (x19_3.set (t495 : Int).toNat (wrap64 ((rd x19_3 t495) + 1))) (x20_3.set (t484 : Int).toNat (wrap64 ((rd x20_3 t484) + 1))) (wrap64 (x21_3 + t486)) t464 (t464.length : Int) (wrap64 (x120_3 + 1))) else (none)) else (none)) else (none)) else (none)))))) = some r := by rw [if_pos rfl] at H; exact H
                            clear H
                            have H := H1
                            clear H1
                            by_cases c60 : t484 < 0
                            ·rw [if_pos c60] at H
                             have c60b0 : decide (t484 < 0) = true := decide_eq_true c60
                             clear c60
                             obtain rfl := Option.some.inj H
                             have p483 : 0 ≤ (x120_3 : Int) := of_decide_eq_true (by first | (with_reducible assumption) | assumption)
                             have q483 : x120_3 < (t464.length : Int) := of_decide_eq_true (by first | (with_reducible assumption) | assumption)
                             obtain ⟨ad483, A483_0, c483_0, e483, hx483_0, hl483_0, hi483_0⟩ := at_L2 (Kd.N_reads' HO_118.out).2.2 x120_3 p483 q483
                             cases e483
                             obtain ⟨ce483, hce483, hMe483, hcc483⟩ := Kd.N_get HO_118.out [] x120_3 p483 (by first | exact q483 | exact of_decide_eq_true (by first | (with_reducible assumption) | assumption) | (have e_ := (Kd.N_reads' HO_118.out).1; omega))
                             obtain ⟨ua483_0, uc483_0, rfl, ul483_0, ge483_0⟩ := Kd.FK_slice_open hMe483
                             have hv483_0 := hcc483 0 _ rfl
                             rw [Nat.add_zero, show ((Kd.slice 3 (Kd.int .i64))).sz = 1 from rfl, Nat.mul_one] at hv483_0
                             replace hv483_0 := Option.some.inj (hv483_0.symm.trans hx483_0)
                             injection hv483_0 with hva_ hvn_ hvc_
                             rw [hva_] at ge483_0
                             rw [hvc_] at ul483_0
                             have HL483_0 := Aside0.mk (show Kd.V (Kd.int .i64) 3 _ w.heap.size _ _ (rd_L2 t464 x120_3) from Kd.V_mk ul483_0 ge483_0)
                             clear hva_ hvn_ hvc_ ge483_0 ul483_0
                             clear hcc483 hce483
                             have HR483_0 := Aside0.mk hi483_0
                             have HC483_0 := Aside0.mk hl483_0
                             clear hi483_0 hl483_0
                             replace p483 := eq_true p483
                             replace q483 := eq_true q483
                             go_wp2_with (first | ((with_reducible refine gate_callee (f := 25) rfl ?_); refine goesL_ (some 127) rfl rfl Try.func25 (by kernel_rfl) rfl #[.slice A483_0 (rd_L2 t464 x120_3).length c483_0] rfl (by (try simp only [List.map_toArray, List.map_cons, List.map_nil]); first | done | rfl | (simp only [List.length_drop, List.length_take]; rfl)) ?_; (with_reducible refine (impl_BounceOf.calls k3 _ _ (rd_L2 t464 x120_3) t484 true _ ?side1 ?side2 A56.out).mono ?_); (case side1 => repeat (first | exact (by repeat (first | (with_reducible exact HR483_0.out) | (with_reducible refine Kd.C_alloc ?_ _) | (with_reducible refine Kd.C_drewN ?_ _) | (with_reducible refine Kd.C_drew ?_) | exact HR483_0.out)) | (with_reducible refine Kd.C_alloc ?_ _) | (with_reducible refine Kd.C_drewN ?_ _) | (with_reducible refine Kd.C_drew ?_))); (case side2 => exact HC483_0.out); rintro e w' ⟨rfl, ⟨nd, rfl⟩⟩; refine ⟨_, rfl, ?_⟩) | ((with_reducible refine gate_callee (f := 26) rfl ?_); refine goesL_ (some 132) rfl rfl Try.func26 (by kernel_rfl) rfl #[.slice A483_0 (rd_L2 t464 x120_3).length c483_0] rfl (by (try simp only [List.map_toArray, List.map_cons, List.map_nil]); first | done | rfl | (simp only [List.length_drop, List.length_take]; rfl)) ?_; (with_reducible refine (impl_CountLabels.calls k3 _ _ (rd_L2 t464 x120_3) t486 true _ ?side1 ?side2 A57.out).mono ?_); (case side1 => repeat (first | exact (by repeat (first | (with_reducible exact HR483_0.out) | (with_reducible refine Kd.C_alloc ?_ _) | (with_reducible refine Kd.C_drewN ?_ _) | (with_reducible refine Kd.C_drew ?_) | exact HR483_0.out)) | (with_reducible refine Kd.C_alloc ?_ _) | (with_reducible refine Kd.C_drewN ?_ _) | (with_reducible refine Kd.C_drew ?_))); (case side2 => exact HC483_0.out); rintro e w' ⟨rfl, ⟨nd, rfl⟩⟩; refine ⟨_, rfl, ?_⟩))
                             go_ret
                             exact ⟨by first | rfl | (simp [errW_none, errW_some] <;> rfl) | (simp [*, errW_none, errW_some] <;> rfl), by repeat (first | (with_reducible first | exact HB.out | apply below_alloc | apply pw_below_drewN | apply below_drew1) | exact HB.out)⟩
                            ·as_aux_lemma =>
                              rw [if_neg c60] at H
                              have c60b0 : decide (t484 < 0) = false := decide_eq_false c60
                              clear c60
                              by_cases c61 : t484 ≥ 30
                              ·rw [if_pos c61] at H
                               have c61b0 : decide (30 ≤ t484) = true := decide_eq_true c61
                               clear c61
                               obtain rfl := Option.some.inj H
                               have p483 : 0 ≤ (x120_3 : Int) := of_decide_eq_true (by first | (with_reducible assumption) | assumption)
                               have q483 : x120_3 < (t464.length : Int) := of_decide_eq_true (by first | (with_reducible assumption) | assumption)
                               obtain ⟨ad483, A483_0, c483_0, e483, hx483_0, hl483_0, hi483_0⟩ := at_L2 (Kd.N_reads' HO_118.out).2.2 x120_3 p483 q483
                               cases e483
                               obtain ⟨ce483, hce483, hMe483, hcc483⟩ := Kd.N_get HO_118.out [] x120_3 p483 (by first | exact q483 | exact of_decide_eq_true (by first | (with_reducible assumption) | assumption) | (have e_ := (Kd.N_reads' HO_118.out).1; omega))
                               obtain ⟨ua483_0, uc483_0, rfl, ul483_0, ge483_0⟩ := Kd.FK_slice_open hMe483
                               have hv483_0 := hcc483 0 _ rfl
                               rw [Nat.add_zero, show ((Kd.slice 3 (Kd.int .i64))).sz = 1 from rfl, Nat.mul_one] at hv483_0
                               replace hv483_0 := Option.some.inj (hv483_0.symm.trans hx483_0)
                               injection hv483_0 with hva_ hvn_ hvc_
                               rw [hva_] at ge483_0
                               rw [hvc_] at ul483_0
                               have HL483_0 := Aside0.mk (show Kd.V (Kd.int .i64) 3 _ w.heap.size _ _ (rd_L2 t464 x120_3) from Kd.V_mk ul483_0 ge483_0)
                               clear hva_ hvn_ hvc_ ge483_0 ul483_0
                               clear hcc483 hce483
                               have HR483_0 := Aside0.mk hi483_0
                               have HC483_0 := Aside0.mk hl483_0
                               clear hi483_0 hl483_0
                               replace p483 := eq_true p483
                               replace q483 := eq_true q483
                               go_wp2_with (first | ((with_reducible refine gate_callee (f := 25) rfl ?_); refine goesL_ (some 127) rfl rfl Try.func25 (by kernel_rfl) rfl #[.slice A483_0 (rd_L2 t464 x120_3).length c483_0] rfl (by (try simp only [List.map_toArray, List.map_cons, List.map_nil]); first | done | rfl | (simp only [List.length_drop, List.length_take]; rfl)) ?_; (with_reducible refine (impl_BounceOf.calls k3 _ _ (rd_L2 t464 x120_3) t484 true _ ?side1 ?side2 A56.out).mono ?_); (case side1 => repeat (first | exact (by repeat (first | (with_reducible exact HR483_0.out) | (with_reducible refine Kd.C_alloc ?_ _) | (with_reducible refine Kd.C_drewN ?_ _) | (with_reducible refine Kd.C_drew ?_) | exact HR483_0.out)) | (with_reducible refine Kd.C_alloc ?_ _) | (with_reducible refine Kd.C_drewN ?_ _) | (with_reducible refine Kd.C_drew ?_))); (case side2 => exact HC483_0.out); rintro e w' ⟨rfl, ⟨nd, rfl⟩⟩; refine ⟨_, rfl, ?_⟩) | ((with_reducible refine gate_callee (f := 26) rfl ?_); refine goesL_ (some 132) rfl rfl Try.func26 (by kernel_rfl) rfl #[.slice A483_0 (rd_L2 t464 x120_3).length c483_0] rfl (by (try simp only [List.map_toArray, List.map_cons, List.map_nil]); first | done | rfl | (simp only [List.length_drop, List.length_take]; rfl)) ?_; (with_reducible refine (impl_CountLabels.calls k3 _ _ (rd_L2 t464 x120_3) t486 true _ ?side1 ?side2 A57.out).mono ?_); (case side1 => repeat (first | exact (by repeat (first | (with_reducible exact HR483_0.out) | (with_reducible refine Kd.C_alloc ?_ _) | (with_reducible refine Kd.C_drewN ?_ _) | (with_reducible refine Kd.C_drew ?_) | exact HR483_0.out)) | (with_reducible refine Kd.C_alloc ?_ _) | (with_reducible refine Kd.C_drewN ?_ _) | (with_reducible refine Kd.C_drew ?_))); (case side2 => exact HC483_0.out); rintro e w' ⟨rfl, ⟨nd, rfl⟩⟩; refine ⟨_, rfl, ?_⟩))
                               go_ret
                               exact ⟨by first | rfl | (simp [errW_none, errW_some] <;> rfl) | (simp [*, errW_none, errW_some] <;> rfl), by repeat (first | (with_reducible first | exact HB.out | apply below_alloc | apply pw_below_drewN | apply below_drew1) | exact HB.out)⟩
                              ·as_aux_lemma =>
                                rw [if_neg c61] at H
                                have c61b0 : decide (30 ≤ t484) = false := decide_eq_false c61
                                clear c61
                                by_cases c62 : x120_3 > 0
                                ·as_aux_lemma =>
                                  rw [if_pos c62] at H
                                  have c62b0 : decide (0 < x120_3) = true := decide_eq_true c62
                                  clear c62
                                  obtain ⟨ji63, hji63⟩ : ∃ j_ : Int, (wrap64 (x120_3 - 1)) = j_ := ⟨_, rfl⟩
                                  replace H : (if 0 ≤ (ji63) then (if (ji63) < (t464.length : Int) then ((laws_wLess.f k3 (rd_L2 t464 (ji63)) (rd_L2 t464 x120_3)).bind fun t489 => (if t489 = true then ((laws_wSum.f k3 (rd_L2 t464 x120_3)).bind fun t490 => (if 0 ≤ t490 then (if t490 < (x19_3.length : Int) then (if 0 ≤ t484 then (if t484 < (x20_3.length : Int) then (laws_FnAreaAndPairsAlike.l0 k3 t453 t454 t459 t463 t464 (x19_3.set (t490 : Int).toNat (wrap64 ((rd x19_3 t490) + 1))) (x20_3.set (t484 : Int).toNat (wrap64 ((rd x20_3 t484) + 1))) (wrap64 (x21_3 + t486)) t464 (t464.length : Int) (wrap64 (x120_3 + 1))) else (none)) else (none)) else (none)) else (none))) else (some false))) else (none)) else (none)) = some r := by first | (rw [hji63] at H; exact H) | (simp only [hji63] at H ⊢; exact H)
                                  (try rw [hji63] at A56)
                                  (try rw [hji63] at A57)
                                  have hji63w : (IntKind.i64.wrap (x120_3 - 1)) = ji63 := (i64_w _).trans hji63
                                  by_cases c64 : 0 ≤ (ji63)
                                  ·as_aux_lemma =>
                                    rw [if_pos c64] at H
                                    have c64b0 : decide (0 ≤ (ji63)) = true := decide_eq_true c64
                                    clear c64
                                    by_cases c65 : (ji63) < (t464.length : Int)
                                    ·as_aux_lemma =>
                                      rw [if_pos c65] at H
                                      have c65b0 : decide ((ji63) < (t464.length : Int)) = true := decide_eq_true c65
                                      clear c65
                                      replace H := Option.bind_eq_some_iff.mp H
                                      obtain ⟨t489, A660, H⟩ := H
                                      replace H : (if t489 = true then ((laws_wSum.f k3 (rd_L2 t464 x120_3)).bind fun t490 => (if 0 ≤ t490 then (if t490 < (x19_3.length : Int) then (if 0 ≤ t484 then (if t484 < (x20_3.length : Int) then (laws_FnAreaAndPairsAlike.l0 k3 t453 t454 t459 t463 t464 (x19_3.set (t490 : Int).toNat (wrap64 ((rd x19_3 t490) + 1))) (x20_3.set (t484 : Int).toNat (wrap64 ((rd x20_3 t484) + 1))) (wrap64 (x21_3 + t486)) t464 (t464.length : Int) (wrap64 (x120_3 + 1))) else (none)) else (none)) else (none)) else (none))) else (some false)) = some r := H
                                      have A66 := Aside0.mk A660
                                      clear A660
                                      by_cases c67 : t489 = true
                                      ·subst c67
                                       have H1 : ((laws_wSum.f k3 (rd_L2 t464 x120_3)).bind fun t490 => (if 0 ≤ t490 then (if t490 < (x19_3.length : Int) then (if 0 ≤ t484 then (if t484 < (x20_3.length : Int) then (laws_FnAreaAndPairsAlike.l0 k3 t453 t454 t459 t463 t464 (x19_3.set (t490 : Int).toNat (wrap64 ((rd x19_3 t490) + 1))) (x20_3.set (t484 : Int).toNat (wrap64 ((rd x20_3 t484) + 1))) (wrap64 (x21_3 + t486)) t464 (t464.length : Int) (wrap64 (x120_3 + 1))) else (none)) else (none)) else (none)) else (none))) = some r := by rw [if_pos rfl] at H; exact H
                                       clear H
                                       have H := H1
                                       clear H1
                                       replace H := Option.bind_eq_some_iff.mp H
                                       obtain ⟨t490, A680, H⟩ := H
                                       replace H : (if 0 ≤ t490 then (if t490 < (x19_3.length : Int) then (if 0 ≤ t484 then (if t484 < (x20_3.length : Int) then (laws_FnAreaAndPairsAlike.l0 k3 t453 t454 t459 t463 t464 (x19_3.set (t490 : Int).toNat (wrap64 ((rd x19_3 t490) + 1))) (x20_3.set (t484 : Int).toNat (wrap64 ((rd x20_3 t484) + 1))) (wrap64 (x21_3 + t486)) t464 (t464.length : Int) (wrap64 (x120_3 + 1))) else (none)) else (none)) else (none)) else (none)) = some r := H
                                       have A68 := Aside0.mk A680
                                       clear A680
                                       by_cases c69 : 0 ≤ t490
                                       ·rw [if_pos c69] at H
                                        have c69b0 : decide (0 ≤ t490) = true := decide_eq_true c69
                                        clear c69
                                        by_cases c70 : t490 < (x19_3.length : Int)
                                        ·rw [if_pos c70] at H
                                         have c70b0 : decide (t490 < (x19_3.length : Int)) = true := decide_eq_true c70
                                         clear c70
                                         obtain ⟨y492, hy492⟩ : ∃ y_ : List Int, y_ = (x19_3.set (t490 : Int).toNat (wrap64 ((rd x19_3 t490) + 1))) := ⟨_, rfl⟩
                                         replace H : (if 0 ≤ t484 then (if t484 < (x20_3.length : Int) then (laws_FnAreaAndPairsAlike.l0 k3 t453 t454 t459 t463 t464 y492 (x20_3.set (t484 : Int).toNat (wrap64 ((rd x20_3 t484) + 1))) (wrap64 (x21_3 + t486)) t464 (t464.length : Int) (wrap64 (x120_3 + 1))) else (none)) else (none)) = some r := by first | (rw [hy492]; with_reducible exact H) | (have H2_ := (Option.bind_some _ _).symm.trans H; rw [hy492]; with_reducible exact H2_) | (have H2_ := (Option.bind_some _ _).symm.trans H; with_reducible exact H2_) | with_reducible exact H | (rw [hy492]; exact H) | exact H
                                         have Ny492 := Aside0.mk hy492
                                         clear hy492
                                         by_cases c72 : 0 ≤ t484
                                         ·rw [if_pos c72] at H
                                          have c72b0 : decide (0 ≤ t484) = true := decide_eq_true c72
                                          clear c72
                                          by_cases c73 : t484 < (x20_3.length : Int)
                                          ·rw [if_pos c73] at H
                                           have c73b0 : decide (t484 < (x20_3.length : Int)) = true := decide_eq_true c73
                                           clear c73
                                           obtain ⟨y494, hy494⟩ : ∃ y_ : List Int, y_ = (x20_3.set (t484 : Int).toNat (wrap64 ((rd x20_3 t484) + 1))) := ⟨_, rfl⟩
                                           replace H : (laws_FnAreaAndPairsAlike.l0 k3 t453 t454 t459 t463 t464 y492 y494 (wrap64 (x21_3 + t486)) t464 (t464.length : Int) (wrap64 (x120_3 + 1))) = some r := by first | (rw [hy494]; with_reducible exact H) | (have H2_ := (Option.bind_some _ _).symm.trans H; rw [hy494]; with_reducible exact H2_) | (have H2_ := (Option.bind_some _ _).symm.trans H; with_reducible exact H2_) | with_reducible exact H | (rw [hy494]; exact H) | exact H
                                           have Ny494 := Aside0.mk hy494
                                           clear hy494
                                           have H' := Aside0.mk H
                                           clear H
                                           have p483 : 0 ≤ (x120_3 : Int) := of_decide_eq_true (by first | (with_reducible assumption) | assumption)
                                           have q483 : x120_3 < (t464.length : Int) := of_decide_eq_true (by first | (with_reducible assumption) | assumption)
                                           obtain ⟨ad483, A483_0, c483_0, e483, hx483_0, hl483_0, hi483_0⟩ := at_L2 (Kd.N_reads' HO_118.out).2.2 x120_3 p483 q483
                                           cases e483
                                           obtain ⟨ce483, hce483, hMe483, hcc483⟩ := Kd.N_get HO_118.out [] x120_3 p483 (by first | exact q483 | exact of_decide_eq_true (by first | (with_reducible assumption) | assumption) | (have e_ := (Kd.N_reads' HO_118.out).1; omega))
                                           obtain ⟨ua483_0, uc483_0, rfl, ul483_0, ge483_0⟩ := Kd.FK_slice_open hMe483
                                           have hv483_0 := hcc483 0 _ rfl
                                           rw [Nat.add_zero, show ((Kd.slice 3 (Kd.int .i64))).sz = 1 from rfl, Nat.mul_one] at hv483_0
                                           replace hv483_0 := Option.some.inj (hv483_0.symm.trans hx483_0)
                                           injection hv483_0 with hva_ hvn_ hvc_
                                           rw [hva_] at ge483_0
                                           rw [hvc_] at ul483_0
                                           have HL483_0 := Aside0.mk (show Kd.V (Kd.int .i64) 3 _ w.heap.size _ _ (rd_L2 t464 x120_3) from Kd.V_mk ul483_0 ge483_0)
                                           clear hva_ hvn_ hvc_ ge483_0 ul483_0
                                           clear hcc483 hce483
                                           have HR483_0 := Aside0.mk hi483_0
                                           have HC483_0 := Aside0.mk hl483_0
                                           clear hi483_0 hl483_0
                                           replace p483 := eq_true p483
                                           replace q483 := eq_true q483
                                           go_wp2_with (first | ((with_reducible refine gate_callee (f := 25) rfl ?_); refine goesL_ (some 127) rfl rfl Try.func25 (by kernel_rfl) rfl #[.slice A483_0 (rd_L2 t464 x120_3).length c483_0] rfl (by (try simp only [List.map_toArray, List.map_cons, List.map_nil]); first | done | rfl | (simp only [List.length_drop, List.length_take]; rfl)) ?_; (with_reducible refine (impl_BounceOf.calls k3 _ _ (rd_L2 t464 x120_3) t484 true _ ?side1 ?side2 A56.out).mono ?_); (case side1 => repeat (first | exact (by repeat (first | (with_reducible exact HR483_0.out) | (with_reducible refine Kd.C_alloc ?_ _) | (with_reducible refine Kd.C_drewN ?_ _) | (with_reducible refine Kd.C_drew ?_) | exact HR483_0.out)) | (with_reducible refine Kd.C_alloc ?_ _) | (with_reducible refine Kd.C_drewN ?_ _) | (with_reducible refine Kd.C_drew ?_))); (case side2 => exact HC483_0.out); rintro e w' ⟨rfl, ⟨nd, rfl⟩⟩; refine ⟨_, rfl, ?_⟩; (try (rw [drewN_self wr]; generalize hq_ : World.drewN wr _ = wr; have n0_ : Aside0 (Kd.V (Kd.int .i64) 3 wr w.heap.size _ (.slice A483_0 (rd_L2 t464 x120_3).length c483_0) (rd_L2 t464 x120_3)) := ⟨by rw [← hq_]; exact (by (with_reducible repeat (first | apply Kd.V_alloc | apply Kd.V_drewN | apply Kd.V_drew)); exact HL483_0.out)⟩; have n1_ : Aside0 (Kd.N (Kd.slice 3 (Kd.int .i64)) 24 wr w.heap.size _ (.slice (some ad483) t464.length co52) t464) := ⟨by rw [← hq_]; exact (by (with_reducible repeat (first | apply Kd.N_alloc | apply Kd.N_drewN | apply Kd.N_drew)); exact HO_11.out)⟩; have n2_ : Aside0 (Kd.N (Kd.slice 3 (Kd.int .i64)) 24 wr w.heap.size _ (.slice (some ad483) t464.length co52) t464) := ⟨by rw [← hq_]; exact (by (with_reducible repeat (first | apply Kd.N_alloc | apply Kd.N_drewN | apply Kd.N_drew)); exact HO_118.out)⟩; have n3_ : Aside0 (Kd.R (Kd.int .i64) 3 wr w.heap.size (fun k_ => some k_ ≠ (v481 : Value).ownBlock) v478 x19_3) := ⟨by rw [← hq_]; exact (by (with_reducible repeat (first | apply Kd.R_alloc | apply Kd.R_drewN | apply Kd.R_drew)); exact HO_19.out)⟩; have n4_ : Aside0 (Kd.R (Kd.int .i64) 3 wr w.heap.size (fun k_ => some k_ ≠ (v478 : Value).ownBlock) v481 x20_3) := ⟨by rw [← hq_]; exact (by (with_reducible repeat (first | apply Kd.R_alloc | apply Kd.R_drewN | apply Kd.R_drew)); exact HO_20.out)⟩; have n5_ : Aside0 (Kd.N (Kd.slice 3 (Kd.int .i64)) 24 wr w.heap.size _ v456 t454) := ⟨by rw [← hq_]; exact (by (with_reducible repeat (first | apply Kd.N_alloc | apply Kd.N_drewN | apply Kd.N_drew)); exact HO_6.out)⟩; have n6_ : Aside0 (Below w.heap.size w wr) := ⟨by rw [← hq_]; exact (by repeat (first | (with_reducible first | exact HB.out | apply below_alloc | apply pw_below_drewN | apply below_drew1) | exact HB.out))⟩; have n7_ : Aside0 (Kd.C (Kd.int .i64) wr A483_0 (rd_L2 t464 x120_3).length (rd_L2 t464 x120_3)) := ⟨by rw [← hq_]; exact (by repeat (first | (with_reducible exact HR483_0.out) | (with_reducible refine Kd.C_alloc ?_ _) | (with_reducible refine Kd.C_drewN ?_ _) | (with_reducible refine Kd.C_drew ?_) | exact HR483_0.out))⟩; clear HL483_0 HO_11 HO_118 HO_19 HO_20 HO_6 HB HR483_0 hq_; have HL483_0 := n0_; have HO_11 := n1_; have HO_118 := n2_; have HO_19 := n3_; have HO_20 := n4_; have HO_6 := n5_; have HB := n6_; have HR483_0 := n7_; clear n0_ n1_ n2_ n3_ n4_ n5_ n6_ n7_))) | ((with_reducible refine gate_callee (f := 26) rfl ?_); refine goesL_ (some 132) rfl rfl Try.func26 (by kernel_rfl) rfl #[.slice A483_0 (rd_L2 t464 x120_3).length c483_0] rfl (by (try simp only [List.map_toArray, List.map_cons, List.map_nil]); first | done | rfl | (simp only [List.length_drop, List.length_take]; rfl)) ?_; (with_reducible refine (impl_CountLabels.calls k3 _ _ (rd_L2 t464 x120_3) t486 true _ ?side1 ?side2 A57.out).mono ?_); (case side1 => repeat (first | exact (by repeat (first | (with_reducible exact HR483_0.out) | (with_reducible refine Kd.C_alloc ?_ _) | (with_reducible refine Kd.C_drewN ?_ _) | (with_reducible refine Kd.C_drew ?_) | exact HR483_0.out)) | (with_reducible refine Kd.C_alloc ?_ _) | (with_reducible refine Kd.C_drewN ?_ _) | (with_reducible refine Kd.C_drew ?_))); (case side2 => exact HC483_0.out); rintro e w' ⟨rfl, ⟨nd, rfl⟩⟩; refine ⟨_, rfl, ?_⟩; (try (rw [drewN_self wr]; generalize hq_ : World.drewN wr _ = wr; have n0_ : Aside0 (Kd.V (Kd.int .i64) 3 wr w.heap.size _ (.slice A483_0 (rd_L2 t464 x120_3).length c483_0) (rd_L2 t464 x120_3)) := ⟨by rw [← hq_]; exact (by (with_reducible repeat (first | apply Kd.V_alloc | apply Kd.V_drewN | apply Kd.V_drew)); exact HL483_0.out)⟩; have n1_ : Aside0 (Kd.N (Kd.slice 3 (Kd.int .i64)) 24 wr w.heap.size _ (.slice (some ad483) t464.length co52) t464) := ⟨by rw [← hq_]; exact (by (with_reducible repeat (first | apply Kd.N_alloc | apply Kd.N_drewN | apply Kd.N_drew)); exact HO_11.out)⟩; have n2_ : Aside0 (Kd.N (Kd.slice 3 (Kd.int .i64)) 24 wr w.heap.size _ (.slice (some ad483) t464.length co52) t464) := ⟨by rw [← hq_]; exact (by (with_reducible repeat (first | apply Kd.N_alloc | apply Kd.N_drewN | apply Kd.N_drew)); exact HO_118.out)⟩; have n3_ : Aside0 (Kd.R (Kd.int .i64) 3 wr w.heap.size (fun k_ => some k_ ≠ (v481 : Value).ownBlock) v478 x19_3) := ⟨by rw [← hq_]; exact (by (with_reducible repeat (first | apply Kd.R_alloc | apply Kd.R_drewN | apply Kd.R_drew)); exact HO_19.out)⟩; have n4_ : Aside0 (Kd.R (Kd.int .i64) 3 wr w.heap.size (fun k_ => some k_ ≠ (v478 : Value).ownBlock) v481 x20_3) := ⟨by rw [← hq_]; exact (by (with_reducible repeat (first | apply Kd.R_alloc | apply Kd.R_drewN | apply Kd.R_drew)); exact HO_20.out)⟩; have n5_ : Aside0 (Kd.N (Kd.slice 3 (Kd.int .i64)) 24 wr w.heap.size _ v456 t454) := ⟨by rw [← hq_]; exact (by (with_reducible repeat (first | apply Kd.N_alloc | apply Kd.N_drewN | apply Kd.N_drew)); exact HO_6.out)⟩; have n6_ : Aside0 (Below w.heap.size w wr) := ⟨by rw [← hq_]; exact (by repeat (first | (with_reducible first | exact HB.out | apply below_alloc | apply pw_below_drewN | apply below_drew1) | exact HB.out))⟩; have n7_ : Aside0 (Kd.C (Kd.int .i64) wr A483_0 (rd_L2 t464 x120_3).length (rd_L2 t464 x120_3)) := ⟨by rw [← hq_]; exact (by repeat (first | (with_reducible exact HR483_0.out) | (with_reducible refine Kd.C_alloc ?_ _) | (with_reducible refine Kd.C_drewN ?_ _) | (with_reducible refine Kd.C_drew ?_) | exact HR483_0.out))⟩; clear HL483_0 HO_11 HO_118 HO_19 HO_20 HO_6 HB HR483_0 hq_; have HL483_0 := n0_; have HO_11 := n1_; have HO_118 := n2_; have HO_19 := n3_; have HO_20 := n4_; have HO_6 := n5_; have HB := n6_; have HR483_0 := n7_; clear n0_ n1_ n2_ n3_ n4_ n5_ n6_ n7_)); have p488 : 0 ≤ ((ji63) : Int) := of_decide_eq_true (by first | (with_reducible assumption) | assumption); have q488 : (ji63) < (t464.length : Int) := of_decide_eq_true (by first | (with_reducible assumption) | assumption); obtain ⟨ad488, A488_0, c488_0, e488, hx488_0, hl488_0, hi488_0⟩ := at_L2 (Kd.N_reads' HO_11.out).2.2 (ji63) p488 q488; obtain rfl : ad483 = ad488 := (by injection e488); obtain ⟨ce488, hce488, hMe488, hcc488⟩ := Kd.N_get HO_11.out [] (ji63) p488 (by first | exact q488 | exact of_decide_eq_true (by first | (with_reducible assumption) | assumption) | (have e_ := (Kd.N_reads' HO_11.out).1; omega)); obtain ⟨ua488_0, uc488_0, rfl, ul488_0, ge488_0⟩ := Kd.FK_slice_open hMe488; have hv488_0 := hcc488 0 _ rfl; rw [Nat.add_zero, show ((Kd.slice 3 (Kd.int .i64))).sz = 1 from rfl, Nat.mul_one] at hv488_0; replace hv488_0 := Option.some.inj (hv488_0.symm.trans hx488_0); injection hv488_0 with hva_ hvn_ hvc_; rw [hva_] at ge488_0; rw [hvc_] at ul488_0; have HL488_0 := Aside0.mk (show Kd.V (Kd.int .i64) 3 _ w.heap.size _ _ (rd_L2 t464 (ji63)) from Kd.V_mk ul488_0 ge488_0); clear hva_ hvn_ hvc_ ge488_0 ul488_0; clear hcc488 hce488; have HR488_0 := Aside0.mk hi488_0; have HC488_0 := Aside0.mk hl488_0; clear hi488_0 hl488_0; replace p488 := eq_true p488; replace q488 := eq_true q488) | (go_at_call 27; (with_reducible refine (laws_wLess.calls k3 _ _ (rd_L2 t464 (ji63)) _ _ (rd_L2 t464 x120_3) true _ ?side1 ?side2 ?side3 ?side4 A66.out).mono ?_); (case side1 => repeat (first | exact (by repeat (first | (with_reducible exact HR488_0.out) | (with_reducible refine Kd.C_alloc ?_ _) | (with_reducible refine Kd.C_drewN ?_ _) | (with_reducible refine Kd.C_drew ?_) | exact HR488_0.out)) | (with_reducible refine Kd.C_alloc ?_ _) | (with_reducible refine Kd.C_drewN ?_ _) | (with_reducible refine Kd.C_drew ?_))); (case side2 => exact HC488_0.out); (case side3 => repeat (first | exact (by repeat (first | (with_reducible exact HR483_0.out) | (with_reducible refine Kd.C_alloc ?_ _) | (with_reducible refine Kd.C_drewN ?_ _) | (with_reducible refine Kd.C_drew ?_) | exact HR483_0.out)) | (with_reducible refine Kd.C_alloc ?_ _) | (with_reducible refine Kd.C_drewN ?_ _) | (with_reducible refine Kd.C_drew ?_))); (case side4 => exact HC483_0.out); rintro e w' ⟨rfl, ⟨nd, rfl⟩⟩; (try (rw [drewN_self wr]; generalize hq_ : World.drewN wr _ = wr; have n0_ : Aside0 (Kd.V (Kd.int .i64) 3 wr w.heap.size _ (.slice A483_0 (rd_L2 t464 x120_3).length c483_0) (rd_L2 t464 x120_3)) := ⟨by rw [← hq_]; exact (by (with_reducible repeat (first | apply Kd.V_alloc | apply Kd.V_drewN | apply Kd.V_drew)); exact HL483_0.out)⟩; have n1_ : Aside0 (Kd.V (Kd.int .i64) 3 wr w.heap.size _ (.slice A488_0 (rd_L2 t464 (ji63)).length c488_0) (rd_L2 t464 (ji63))) := ⟨by rw [← hq_]; exact (by (with_reducible repeat (first | apply Kd.V_alloc | apply Kd.V_drewN | apply Kd.V_drew)); exact HL488_0.out)⟩; have n2_ : Aside0 (Kd.N (Kd.slice 3 (Kd.int .i64)) 24 wr w.heap.size _ (.slice (some ad483) t464.length co52) t464) := ⟨by rw [← hq_]; exact (by (with_reducible repeat (first | apply Kd.N_alloc | apply Kd.N_drewN | apply Kd.N_drew)); exact HO_11.out)⟩; have n3_ : Aside0 (Kd.N (Kd.slice 3 (Kd.int .i64)) 24 wr w.heap.size _ (.slice (some ad483) t464.length co52) t464) := ⟨by rw [← hq_]; exact (by (with_reducible repeat (first | apply Kd.N_alloc | apply Kd.N_drewN | apply Kd.N_drew)); exact HO_118.out)⟩; have n4_ : Aside0 (Kd.R (Kd.int .i64) 3 wr w.heap.size (fun k_ => some k_ ≠ (v481 : Value).ownBlock) v478 x19_3) := ⟨by rw [← hq_]; exact (by (with_reducible repeat (first | apply Kd.R_alloc | apply Kd.R_drewN | apply Kd.R_drew)); exact HO_19.out)⟩; have n5_ : Aside0 (Kd.R (Kd.int .i64) 3 wr w.heap.size (fun k_ => some k_ ≠ (v478 : Value).ownBlock) v481 x20_3) := ⟨by rw [← hq_]; exact (by (with_reducible repeat (first | apply Kd.R_alloc | apply Kd.R_drewN | apply Kd.R_drew)); exact HO_20.out)⟩; have n6_ : Aside0 (Kd.N (Kd.slice 3 (Kd.int .i64)) 24 wr w.heap.size _ v456 t454) := ⟨by rw [← hq_]; exact (by (with_reducible repeat (first | apply Kd.N_alloc | apply Kd.N_drewN | apply Kd.N_drew)); exact HO_6.out)⟩; have n7_ : Aside0 (Below w.heap.size w wr) := ⟨by rw [← hq_]; exact (by repeat (first | (with_reducible first | exact HB.out | apply below_alloc | apply pw_below_drewN | apply below_drew1) | exact HB.out))⟩; have n8_ : Aside0 (Kd.C (Kd.int .i64) wr A483_0 (rd_L2 t464 x120_3).length (rd_L2 t464 x120_3)) := ⟨by rw [← hq_]; exact (by repeat (first | (with_reducible exact HR483_0.out) | (with_reducible refine Kd.C_alloc ?_ _) | (with_reducible refine Kd.C_drewN ?_ _) | (with_reducible refine Kd.C_drew ?_) | exact HR483_0.out))⟩; have n9_ : Aside0 (Kd.C (Kd.int .i64) wr A488_0 (rd_L2 t464 (ji63)).length (rd_L2 t464 (ji63))) := ⟨by rw [← hq_]; exact (by repeat (first | (with_reducible exact HR488_0.out) | (with_reducible refine Kd.C_alloc ?_ _) | (with_reducible refine Kd.C_drewN ?_ _) | (with_reducible refine Kd.C_drew ?_) | exact HR488_0.out))⟩; clear HL483_0 HL488_0 HO_11 HO_118 HO_19 HO_20 HO_6 HB HR483_0 HR488_0 hq_; have HL483_0 := n0_; have HL488_0 := n1_; have HO_11 := n2_; have HO_118 := n3_; have HO_19 := n4_; have HO_20 := n5_; have HO_6 := n6_; have HB := n7_; have HR483_0 := n8_; have HR488_0 := n9_; clear n0_ n1_ n2_ n3_ n4_ n5_ n6_ n7_ n8_ n9_))) | ((with_reducible refine gate_callee (f := 28) rfl ?_); refine goesL_ (some 165) rfl rfl Try.func28 (by kernel_rfl) rfl #[.slice A483_0 (rd_L2 t464 x120_3).length c483_0] rfl (by (try simp only [List.map_toArray, List.map_cons, List.map_nil]); first | done | rfl | (simp only [List.length_drop, List.length_take]; rfl)) ?_; (with_reducible refine (laws_wSum.calls k3 _ _ (rd_L2 t464 x120_3) t490 _ ?side1 ?side2 A68.out).mono ?_); (case side1 => repeat (first | exact (by repeat (first | (with_reducible exact HR483_0.out) | (with_reducible refine Kd.C_alloc ?_ _) | (with_reducible refine Kd.C_drewN ?_ _) | (with_reducible refine Kd.C_drew ?_) | exact HR483_0.out)) | (with_reducible refine Kd.C_alloc ?_ _) | (with_reducible refine Kd.C_drewN ?_ _) | (with_reducible refine Kd.C_drew ?_))); (case side2 => exact HC483_0.out); rintro e w' ⟨rfl, ⟨nd, rfl⟩⟩; refine ⟨_, rfl, ?_⟩; (try (rw [drewN_self wr]; generalize hq_ : World.drewN wr _ = wr; have n0_ : Aside0 (Kd.V (Kd.int .i64) 3 wr w.heap.size _ (.slice A483_0 (rd_L2 t464 x120_3).length c483_0) (rd_L2 t464 x120_3)) := ⟨by rw [← hq_]; exact (by (with_reducible repeat (first | apply Kd.V_alloc | apply Kd.V_drewN | apply Kd.V_drew)); exact HL483_0.out)⟩; have n1_ : Aside0 (Kd.V (Kd.int .i64) 3 wr w.heap.size _ (.slice A488_0 (rd_L2 t464 (ji63)).length c488_0) (rd_L2 t464 (ji63))) := ⟨by rw [← hq_]; exact (by (with_reducible repeat (first | apply Kd.V_alloc | apply Kd.V_drewN | apply Kd.V_drew)); exact HL488_0.out)⟩; have n2_ : Aside0 (Kd.N (Kd.slice 3 (Kd.int .i64)) 24 wr w.heap.size _ (.slice (some ad483) t464.length co52) t464) := ⟨by rw [← hq_]; exact (by (with_reducible repeat (first | apply Kd.N_alloc | apply Kd.N_drewN | apply Kd.N_drew)); exact HO_11.out)⟩; have n3_ : Aside0 (Kd.N (Kd.slice 3 (Kd.int .i64)) 24 wr w.heap.size _ (.slice (some ad483) t464.length co52) t464) := ⟨by rw [← hq_]; exact (by (with_reducible repeat (first | apply Kd.N_alloc | apply Kd.N_drewN | apply Kd.N_drew)); exact HO_118.out)⟩; have n4_ : Aside0 (Kd.R (Kd.int .i64) 3 wr w.heap.size (fun k_ => some k_ ≠ (v481 : Value).ownBlock) v478 x19_3) := ⟨by rw [← hq_]; exact (by (with_reducible repeat (first | apply Kd.R_alloc | apply Kd.R_drewN | apply Kd.R_drew)); exact HO_19.out)⟩; have n5_ : Aside0 (Kd.R (Kd.int .i64) 3 wr w.heap.size (fun k_ => some k_ ≠ (v478 : Value).ownBlock) v481 x20_3) := ⟨by rw [← hq_]; exact (by (with_reducible repeat (first | apply Kd.R_alloc | apply Kd.R_drewN | apply Kd.R_drew)); exact HO_20.out)⟩; have n6_ : Aside0 (Kd.N (Kd.slice 3 (Kd.int .i64)) 24 wr w.heap.size _ v456 t454) := ⟨by rw [← hq_]; exact (by (with_reducible repeat (first | apply Kd.N_alloc | apply Kd.N_drewN | apply Kd.N_drew)); exact HO_6.out)⟩; have n7_ : Aside0 (Below w.heap.size w wr) := ⟨by rw [← hq_]; exact (by repeat (first | (with_reducible first | exact HB.out | apply below_alloc | apply pw_below_drewN | apply below_drew1) | exact HB.out))⟩; have n8_ : Aside0 (Kd.C (Kd.int .i64) wr A483_0 (rd_L2 t464 x120_3).length (rd_L2 t464 x120_3)) := ⟨by rw [← hq_]; exact (by repeat (first | (with_reducible exact HR483_0.out) | (with_reducible refine Kd.C_alloc ?_ _) | (with_reducible refine Kd.C_drewN ?_ _) | (with_reducible refine Kd.C_drew ?_) | exact HR483_0.out))⟩; have n9_ : Aside0 (Kd.C (Kd.int .i64) wr A488_0 (rd_L2 t464 (ji63)).length (rd_L2 t464 (ji63))) := ⟨by rw [← hq_]; exact (by repeat (first | (with_reducible exact HR488_0.out) | (with_reducible refine Kd.C_alloc ?_ _) | (with_reducible refine Kd.C_drewN ?_ _) | (with_reducible refine Kd.C_drew ?_) | exact HR488_0.out))⟩; clear HL483_0 HL488_0 HO_11 HO_118 HO_19 HO_20 HO_6 HB HR483_0 HR488_0 hq_; have HL483_0 := n0_; have HL488_0 := n1_; have HO_11 := n2_; have HO_118 := n3_; have HO_19 := n4_; have HO_20 := n5_; have HO_6 := n6_; have HB := n7_; have HR483_0 := n8_; have HR488_0 := n9_; clear n0_ n1_ n2_ n3_ n4_ n5_ n6_ n7_ n8_ n9_)); obtain ⟨Ao75, co75, eo75⟩ := Kd.R_slice HO_19.out; subst eo75; have p491 : 0 ≤ (t490 : Int) := of_decide_eq_true (by first | (with_reducible assumption) | assumption); have q491 : t490 < (x19_3.length : Int) := of_decide_eq_true (by first | (with_reducible assumption) | assumption); obtain ⟨ad491, e491, hx491_0⟩ := Kd.at_int (Kd.R_reads' HO_19.out).2.2 t490 p491 q491; cases e491; replace p491 := eq_true p491; replace q491 := eq_true q491; have p71 : 0 ≤ (t490 : Int) := of_decide_eq_true (by first | (with_reducible assumption) | assumption); have q71 : (t490 : Int) < ((x19_3.length : Int) : Int) := of_decide_eq_true (by first | (with_reducible assumption) | assumption); obtain ⟨go71, co71, eo71, gb71, gl71, cl71, HG71⟩ := Kd.R_form HO_19.out (by omega); (first | cases eo71 | (injection eo71 with ea_ en_ ec_; (first | subst ea_ | (injection ea_ with ea_; subst ea_)); subst ec_; clear en_)); have GB71 := Aside0.mk gb71; have GG71 := Aside0.mk HG71; clear gb71 gl71 HG71; (first | simp only [add_plain] at hx491_0 | skip); obtain ⟨hx71_0, hf71_0⟩ := Kd.R_celln 0 HO_19.out (t490 : Int) p71 q71; replace p71 := eq_true p71; replace q71 := eq_true q71; obtain ⟨hy76_, hz76_⟩ := Kd.R_celln 0 HO_19.out (t490 : Int) (of_decide_eq_true (by first | (with_reducible assumption) | assumption)) (of_decide_eq_true (by first | (with_reducible assumption) | assumption)); have HP76 := Kd.R_putg HO_19.out (t490 : Int) (wrap64 ((rd x19_3 t490) + 1))) | ((with_reducible refine gate_store (t := 3) (p := 169) rfl ?_); refine store_event (t := 3) (p := 169) (v := ?vo_w77) (w1 := (wr.setCell ⟨go71, (t490 : Int).toNat, none⟩ (.int .i64 (wrap64 ((rd x19_3 t490) + 1))))) ?hg ?ho ?hn ?hr ?_; (case ho => rfl); (case hg => rfl); (case hn => rfl); (case hr => first | (go_simp; done) | (go_simp; rfl)); intro w77 hw; have hg : wr.grownBy w77 (some go71) := (by rw [hw]; exact HP76.2); have hp_ : Kd.R (Kd.int .i64) 3 w77 w.heap.size (fun k_ => some k_ ≠ (v481 : Value).ownBlock) (.slice (some ⟨go71, 0, none⟩) x19_3.length co75) y492 := (by rw [hw, Ny492.out]; exact HP76.1); clear HP76; have n0_ := Aside0.mk (Kd.N_afterv (v := (.slice (some ⟨go71, 0, none⟩) x19_3.length co75)) (v1 := (.slice (some ⟨go71, 0, none⟩) x19_3.length co75)) (ok := (fun k_ => some k_ ≠ (.slice (some ad483) t464.length co52 : Value).ownBlock ∧ some k_ ≠ (v481 : Value).ownBlock ∧ some k_ ≠ (.slice (some ad483) t464.length co52 : Value).ownBlock)) (by (with_reducible repeat (first | apply Kd.N_alloc | apply Kd.N_drewN | apply Kd.N_drew)); exact Kd.N_mono HO_6.out (fun _ hk => ⟨⟨hk.1, ⟨hk.2.2.1, hk.2.2.2⟩⟩, hk.2.1⟩)) hg (.inl rfl)); have n1_ := Aside0.mk (Kd.N_afterv (v := (.slice (some ⟨go71, 0, none⟩) x19_3.length co75)) (v1 := (.slice (some ⟨go71, 0, none⟩) x19_3.length co75)) (ok := (fun k_ => some k_ ≠ (v456 : Value).ownBlock ∧ some k_ ≠ (v481 : Value).ownBlock)) (by (with_reducible repeat (first | apply Kd.N_alloc | apply Kd.N_drewN | apply Kd.N_drew)); exact Kd.N_mono HO_11.out (fun _ hk => ⟨⟨hk.1, hk.2.2⟩, hk.2.1⟩)) hg (.inl rfl)); have n2_ := Aside0.mk (hp_); have n3_ := Aside0.mk (Kd.R_after (v := (.slice (some ⟨go71, 0, none⟩) x19_3.length co75)) (v1 := (.slice (some ⟨go71, 0, none⟩) x19_3.length co75)) (ok := (fun _ => True)) (by (with_reducible repeat (first | apply Kd.R_alloc | apply Kd.R_drewN | apply Kd.R_drew)); exact Kd.R_mono HO_20.out (fun _ hk => ⟨trivial, hk⟩)) hg (.inl rfl)); have n4_ := Aside0.mk (Kd.N_afterv (v := (.slice (some ⟨go71, 0, none⟩) x19_3.length co75)) (v1 := (.slice (some ⟨go71, 0, none⟩) x19_3.length co75)) (ok := (fun k_ => some k_ ≠ (v456 : Value).ownBlock ∧ some k_ ≠ (v481 : Value).ownBlock)) (by (with_reducible repeat (first | apply Kd.N_alloc | apply Kd.N_drewN | apply Kd.N_drew)); exact Kd.N_mono HO_118.out (fun _ hk => ⟨⟨hk.1, hk.2.2⟩, hk.2.1⟩)) hg (.inl rfl)); have n5_ := Aside0.mk (Kd.V_afterv (v := (.slice (some ⟨go71, 0, none⟩) x19_3.length co75)) (v1 := (.slice (some ⟨go71, 0, none⟩) x19_3.length co75)) (ok := (fun k_ => some k_ ≠ (v456 : Value).ownBlock ∧ some k_ ≠ (v481 : Value).ownBlock ∧ some k_ ≠ (.slice (some ad483) t464.length co52 : Value).ownBlock)) (by (with_reducible repeat (first | apply Kd.V_alloc | apply Kd.V_drewN | apply Kd.V_drew)); exact Kd.V_mono HL483_0.out (fun _ hk => ⟨⟨hk.1.1, ⟨hk.1.2.2, hk.2⟩⟩, hk.1.2.1⟩)) hg (.inl rfl)); have n6_ := Aside0.mk (Kd.V_afterv (v := (.slice (some ⟨go71, 0, none⟩) x19_3.length co75)) (v1 := (.slice (some ⟨go71, 0, none⟩) x19_3.length co75)) (ok := (fun k_ => some k_ ≠ (v456 : Value).ownBlock ∧ some k_ ≠ (.slice (some ad483) t464.length co52 : Value).ownBlock ∧ some k_ ≠ (v481 : Value).ownBlock)) (by (with_reducible repeat (first | apply Kd.V_alloc | apply Kd.V_drewN | apply Kd.V_drew)); exact Kd.V_mono HL488_0.out (fun _ hk => ⟨⟨hk.1.1, ⟨hk.2, hk.1.2.2⟩⟩, hk.1.2.1⟩)) hg (.inl rfl)); have n7_ := Aside0.mk ((by rw [hw]; exact below_set (HB.out) GB71.out : Below w.heap.size w w77)); clear HO_6; clear HO_11; clear HO_19; clear HO_20; clear HO_118; clear HL483_0; clear HL488_0; clear HB; have HO_6 := n0_; have HO_11 := n1_; have HO_19 := n2_; have HO_20 := n3_; have HO_118 := n4_; have HL483_0 := n5_; have HL488_0 := n6_; have HB := n7_; clear n0_ n1_ n2_ n3_ n4_ n5_ n6_ n7_; clear hg hw hp_; obtain ⟨Ao78, co78, eo78⟩ := Kd.R_slice HO_20.out; subst eo78; have p493 : 0 ≤ (t484 : Int) := of_decide_eq_true (by first | (with_reducible assumption) | assumption); have q493 : t484 < (x20_3.length : Int) := of_decide_eq_true (by first | (with_reducible assumption) | assumption); obtain ⟨ad493, e493, hx493_0⟩ := Kd.at_int (Kd.R_reads' HO_20.out).2.2 t484 p493 q493; cases e493; replace p493 := eq_true p493; replace q493 := eq_true q493; have p74 : 0 ≤ (t484 : Int) := of_decide_eq_true (by first | (with_reducible assumption) | assumption); have q74 : (t484 : Int) < ((x20_3.length : Int) : Int) := of_decide_eq_true (by first | (with_reducible assumption) | assumption); obtain ⟨go74, co74, eo74, gb74, gl74, cl74, HG74⟩ := Kd.R_form HO_20.out (by omega); (first | cases eo74 | (injection eo74 with ea_ en_ ec_; (first | subst ea_ | (injection ea_ with ea_; subst ea_)); subst ec_; clear en_)); have GB74 := Aside0.mk gb74; have GG74 := Aside0.mk HG74; clear gb74 gl74 HG74; (first | simp only [add_plain] at hx493_0 | skip); obtain ⟨hx74_0, hf74_0⟩ := Kd.R_celln 0 HO_20.out (t484 : Int) p74 q74; replace p74 := eq_true p74; replace q74 := eq_true q74; have n_ := Aside0.mk (Kd.R_mono (ok' := (fun k_ => some k_ ≠ (.slice (some ⟨go71, 0, none⟩) x19_3.length co75 : Value).ownBlock)) HO_20.out (fun k_ hk => hk.2)); clear HO_20; have HO_20 := n_; clear n_; obtain ⟨hy79_, hz79_⟩ := Kd.R_celln 0 HO_20.out (t484 : Int) (of_decide_eq_true (by first | (with_reducible assumption) | assumption)) (of_decide_eq_true (by first | (with_reducible assumption) | assumption)); have HP79 := Kd.R_putg HO_20.out (t484 : Int) (wrap64 ((rd x20_3 t484) + 1))) | ((with_reducible refine gate_store (t := 3) (p := 175) rfl ?_); refine store_event (t := 3) (p := 175) (v := ?vo_w80) (w1 := (w77.setCell ⟨go74, (t484 : Int).toNat, none⟩ (.int .i64 (wrap64 ((rd x20_3 t484) + 1))))) ?hg ?ho ?hn ?hr ?_; (case ho => rfl); (case hg => rfl); (case hn => rfl); (case hr => first | (go_simp; done) | (go_simp; rfl)); intro w80 hw; have hg : w77.grownBy w80 (some go74) := (by rw [hw]; exact HP79.2); have hp_ : Kd.R (Kd.int .i64) 3 w80 w.heap.size (fun k_ => some k_ ≠ (.slice (some ⟨go71, 0, none⟩) x19_3.length co75 : Value).ownBlock) (.slice (some ⟨go74, 0, none⟩) x20_3.length co78) y494 := (by rw [hw, Ny494.out]; exact HP79.1); clear HP79; have n0_ := Aside0.mk (Kd.N_afterv (v := (.slice (some ⟨go74, 0, none⟩) x20_3.length co78)) (v1 := (.slice (some ⟨go74, 0, none⟩) x20_3.length co78)) (ok := (fun k_ => some k_ ≠ (.slice (some ad483) t464.length co52 : Value).ownBlock ∧ some k_ ≠ (.slice (some ⟨go71, 0, none⟩) x19_3.length co75 : Value).ownBlock ∧ some k_ ≠ (.slice (some ad483) t464.length co52 : Value).ownBlock)) (by (with_reducible repeat (first | apply Kd.N_alloc | apply Kd.N_drewN | apply Kd.N_drew)); exact Kd.N_mono HO_6.out (fun _ hk => ⟨⟨hk.1.1, ⟨hk.2, hk.1.2.2⟩⟩, hk.1.2.1⟩)) hg (.inl rfl)); have n1_ := Aside0.mk (Kd.N_afterv (v := (.slice (some ⟨go74, 0, none⟩) x20_3.length co78)) (v1 := (.slice (some ⟨go74, 0, none⟩) x20_3.length co78)) (ok := (fun k_ => some k_ ≠ (v456 : Value).ownBlock ∧ some k_ ≠ (.slice (some ⟨go71, 0, none⟩) x19_3.length co75 : Value).ownBlock)) (by (with_reducible repeat (first | apply Kd.N_alloc | apply Kd.N_drewN | apply Kd.N_drew)); exact Kd.N_mono HO_11.out (fun _ hk => ⟨⟨hk.1.1, hk.2⟩, hk.1.2⟩)) hg (.inl rfl)); have n2_ := Aside0.mk (Kd.R_after (v := (.slice (some ⟨go74, 0, none⟩) x20_3.length co78)) (v1 := (.slice (some ⟨go74, 0, none⟩) x20_3.length co78)) (ok := (fun _ => True)) (by (with_reducible repeat (first | apply Kd.R_alloc | apply Kd.R_drewN | apply Kd.R_drew)); exact Kd.R_mono HO_19.out (fun _ hk => ⟨trivial, hk⟩)) hg (.inl rfl)); have n3_ := Aside0.mk (hp_); have n4_ := Aside0.mk (Kd.N_afterv (v := (.slice (some ⟨go74, 0, none⟩) x20_3.length co78)) (v1 := (.slice (some ⟨go74, 0, none⟩) x20_3.length co78)) (ok := (fun k_ => some k_ ≠ (v456 : Value).ownBlock ∧ some k_ ≠ (.slice (some ⟨go71, 0, none⟩) x19_3.length co75 : Value).ownBlock)) (by (with_reducible repeat (first | apply Kd.N_alloc | apply Kd.N_drewN | apply Kd.N_drew)); exact Kd.N_mono HO_118.out (fun _ hk => ⟨⟨hk.1.1, hk.2⟩, hk.1.2⟩)) hg (.inl rfl)); have n5_ := Aside0.mk (Kd.V_afterv (v := (.slice (some ⟨go74, 0, none⟩) x20_3.length co78)) (v1 := (.slice (some ⟨go74, 0, none⟩) x20_3.length co78)) (ok := (fun k_ => some k_ ≠ (v456 : Value).ownBlock ∧ some k_ ≠ (.slice (some ⟨go71, 0, none⟩) x19_3.length co75 : Value).ownBlock ∧ some k_ ≠ (.slice (some ad483) t464.length co52 : Value).ownBlock)) (by (with_reducible repeat (first | apply Kd.V_alloc | apply Kd.V_drewN | apply Kd.V_drew)); exact Kd.V_mono HL483_0.out (fun _ hk => ⟨⟨hk.1.1, ⟨hk.2, hk.1.2.2⟩⟩, hk.1.2.1⟩)) hg (.inl rfl)); have n6_ := Aside0.mk (Kd.V_afterv (v := (.slice (some ⟨go74, 0, none⟩) x20_3.length co78)) (v1 := (.slice (some ⟨go74, 0, none⟩) x20_3.length co78)) (ok := (fun k_ => some k_ ≠ (v456 : Value).ownBlock ∧ some k_ ≠ (.slice (some ad483) t464.length co52 : Value).ownBlock ∧ some k_ ≠ (.slice (some ⟨go71, 0, none⟩) x19_3.length co75 : Value).ownBlock)) (by (with_reducible repeat (first | apply Kd.V_alloc | apply Kd.V_drewN | apply Kd.V_drew)); exact Kd.V_mono HL488_0.out (fun _ hk => ⟨⟨hk.1.1, ⟨hk.1.2.1, hk.2⟩⟩, hk.1.2.2⟩)) hg (.inl rfl)); have n7_ := Aside0.mk ((by rw [hw]; exact below_set (HB.out) GB74.out : Below w.heap.size w w80)); clear HO_6; clear HO_11; clear HO_19; clear HO_20; clear HO_118; clear HL483_0; clear HL488_0; clear HB; have HO_6 := n0_; have HO_11 := n1_; have HO_19 := n2_; have HO_20 := n3_; have HO_118 := n4_; have HL483_0 := n5_; have HL488_0 := n6_; have HB := n7_; clear n0_ n1_ n2_ n3_ n4_ n5_ n6_ n7_; clear hg hw hp_))
                                           go_roundg k3
                                           case measure => have := HJ7.out; have := HJ21.out; have := HK3.out; omega
                                           case rel => exact ⟨(y492), (y494), (wrap64 (x21_3 + t486)), (wrap64 (x120_3 + 1)), (by first | rfl | (simp; done) | (simp [*]; done)), (by first | rfl | (simp; done) | (simp [*]; done)), H', ⟨by have := HJ7.out; have := HJ21.out; have := HK3.out; omega⟩, ⟨by (with_reducible repeat (first | apply Kd.N_alloc | apply Kd.N_drewN | apply Kd.N_drew)); exact Kd.N_mono HO_6.out (fun _ hk => ⟨hk.1.1, ⟨hk.1.2.1, ⟨hk.2, hk.1.2.2⟩⟩⟩)⟩, ⟨by (with_reducible repeat (first | apply Kd.N_alloc | apply Kd.N_drewN | apply Kd.N_drew)); exact Kd.N_mono HO_11.out (fun _ hk => ⟨hk.1.1, ⟨hk.1.2, hk.2⟩⟩)⟩, ⟨by (with_reducible repeat (first | apply Kd.R_alloc | apply Kd.R_drewN | apply Kd.R_drew)); exact Kd.R_mono HO_19.out (fun _ hk => hk.2)⟩, ⟨by (with_reducible repeat (first | apply Kd.R_alloc | apply Kd.R_drewN | apply Kd.R_drew)); exact HO_20.out⟩, ⟨by (with_reducible repeat (first | apply Kd.N_alloc | apply Kd.N_drewN | apply Kd.N_drew)); exact Kd.N_mono HO_118.out (fun _ hk => ⟨hk.1.1, ⟨hk.1.2, hk.2⟩⟩)⟩, ⟨by repeat (first | (with_reducible first | exact HB.out | apply below_alloc | apply pw_below_drewN | apply below_drew1) | exact HB.out)⟩⟩
                                          ·rw [if_neg c73] at H
                                           exact absurd H (by simp)
                                         ·rw [if_neg c72] at H
                                          exact absurd H (by simp)
                                        ·rw [if_neg c70] at H
                                         exact absurd H (by simp)
                                       ·rw [if_neg c69] at H
                                        exact absurd H (by simp)
                                      ·replace c67 := Bool.eq_false_iff.mpr c67
                                       subst c67
                                       have H1 : (some false) = some r := by rw [if_neg (show ¬ (false = true) by decide)] at H; exact H
                                       clear H
                                       have H := H1
                                       clear H1
                                       obtain rfl := Option.some.inj H
                                       have p483 : 0 ≤ (x120_3 : Int) := of_decide_eq_true (by first | (with_reducible assumption) | assumption)
                                       have q483 : x120_3 < (t464.length : Int) := of_decide_eq_true (by first | (with_reducible assumption) | assumption)
                                       obtain ⟨ad483, A483_0, c483_0, e483, hx483_0, hl483_0, hi483_0⟩ := at_L2 (Kd.N_reads' HO_118.out).2.2 x120_3 p483 q483
                                       cases e483
                                       obtain ⟨ce483, hce483, hMe483, hcc483⟩ := Kd.N_get HO_118.out [] x120_3 p483 (by first | exact q483 | exact of_decide_eq_true (by first | (with_reducible assumption) | assumption) | (have e_ := (Kd.N_reads' HO_118.out).1; omega))
                                       obtain ⟨ua483_0, uc483_0, rfl, ul483_0, ge483_0⟩ := Kd.FK_slice_open hMe483
                                       have hv483_0 := hcc483 0 _ rfl
                                       rw [Nat.add_zero, show ((Kd.slice 3 (Kd.int .i64))).sz = 1 from rfl, Nat.mul_one] at hv483_0
                                       replace hv483_0 := Option.some.inj (hv483_0.symm.trans hx483_0)
                                       injection hv483_0 with hva_ hvn_ hvc_
                                       rw [hva_] at ge483_0
                                       rw [hvc_] at ul483_0
                                       have HL483_0 := Aside0.mk (show Kd.V (Kd.int .i64) 3 _ w.heap.size _ _ (rd_L2 t464 x120_3) from Kd.V_mk ul483_0 ge483_0)
                                       clear hva_ hvn_ hvc_ ge483_0 ul483_0
                                       clear hcc483 hce483
                                       have HR483_0 := Aside0.mk hi483_0
                                       have HC483_0 := Aside0.mk hl483_0
                                       clear hi483_0 hl483_0
                                       replace p483 := eq_true p483
                                       replace q483 := eq_true q483
                                       go_wp2_with (first | ((with_reducible refine gate_callee (f := 25) rfl ?_); refine goesL_ (some 127) rfl rfl Try.func25 (by kernel_rfl) rfl #[.slice A483_0 (rd_L2 t464 x120_3).length c483_0] rfl (by (try simp only [List.map_toArray, List.map_cons, List.map_nil]); first | done | rfl | (simp only [List.length_drop, List.length_take]; rfl)) ?_; (with_reducible refine (impl_BounceOf.calls k3 _ _ (rd_L2 t464 x120_3) t484 true _ ?side1 ?side2 A56.out).mono ?_); (case side1 => repeat (first | exact (by repeat (first | (with_reducible exact HR483_0.out) | (with_reducible refine Kd.C_alloc ?_ _) | (with_reducible refine Kd.C_drewN ?_ _) | (with_reducible refine Kd.C_drew ?_) | exact HR483_0.out)) | (with_reducible refine Kd.C_alloc ?_ _) | (with_reducible refine Kd.C_drewN ?_ _) | (with_reducible refine Kd.C_drew ?_))); (case side2 => exact HC483_0.out); rintro e w' ⟨rfl, ⟨nd, rfl⟩⟩; refine ⟨_, rfl, ?_⟩) | ((with_reducible refine gate_callee (f := 26) rfl ?_); refine goesL_ (some 132) rfl rfl Try.func26 (by kernel_rfl) rfl #[.slice A483_0 (rd_L2 t464 x120_3).length c483_0] rfl (by (try simp only [List.map_toArray, List.map_cons, List.map_nil]); first | done | rfl | (simp only [List.length_drop, List.length_take]; rfl)) ?_; (with_reducible refine (impl_CountLabels.calls k3 _ _ (rd_L2 t464 x120_3) t486 true _ ?side1 ?side2 A57.out).mono ?_); (case side1 => repeat (first | exact (by repeat (first | (with_reducible exact HR483_0.out) | (with_reducible refine Kd.C_alloc ?_ _) | (with_reducible refine Kd.C_drewN ?_ _) | (with_reducible refine Kd.C_drew ?_) | exact HR483_0.out)) | (with_reducible refine Kd.C_alloc ?_ _) | (with_reducible refine Kd.C_drewN ?_ _) | (with_reducible refine Kd.C_drew ?_))); (case side2 => exact HC483_0.out); rintro e w' ⟨rfl, ⟨nd, rfl⟩⟩; refine ⟨_, rfl, ?_⟩; have p488 : 0 ≤ ((ji63) : Int) := of_decide_eq_true (by first | (with_reducible assumption) | assumption); have q488 : (ji63) < (t464.length : Int) := of_decide_eq_true (by first | (with_reducible assumption) | assumption); obtain ⟨ad488, A488_0, c488_0, e488, hx488_0, hl488_0, hi488_0⟩ := at_L2 (Kd.N_reads' HO_11.out).2.2 (ji63) p488 q488; obtain rfl : ad483 = ad488 := (by injection e488); obtain ⟨ce488, hce488, hMe488, hcc488⟩ := Kd.N_get HO_11.out [] (ji63) p488 (by first | exact q488 | exact of_decide_eq_true (by first | (with_reducible assumption) | assumption) | (have e_ := (Kd.N_reads' HO_11.out).1; omega)); obtain ⟨ua488_0, uc488_0, rfl, ul488_0, ge488_0⟩ := Kd.FK_slice_open hMe488; have hv488_0 := hcc488 0 _ rfl; rw [Nat.add_zero, show ((Kd.slice 3 (Kd.int .i64))).sz = 1 from rfl, Nat.mul_one] at hv488_0; replace hv488_0 := Option.some.inj (hv488_0.symm.trans hx488_0); injection hv488_0 with hva_ hvn_ hvc_; rw [hva_] at ge488_0; rw [hvc_] at ul488_0; have HL488_0 := Aside0.mk (show Kd.V (Kd.int .i64) 3 _ w.heap.size _ _ (rd_L2 t464 (ji63)) from Kd.V_mk ul488_0 ge488_0); clear hva_ hvn_ hvc_ ge488_0 ul488_0; clear hcc488 hce488; have HR488_0 := Aside0.mk hi488_0; have HC488_0 := Aside0.mk hl488_0; clear hi488_0 hl488_0; replace p488 := eq_true p488; replace q488 := eq_true q488) | (go_at_call 27; (with_reducible refine (laws_wLess.calls k3 _ _ (rd_L2 t464 (ji63)) _ _ (rd_L2 t464 x120_3) false _ ?side1 ?side2 ?side3 ?side4 A66.out).mono ?_); (case side1 => repeat (first | exact (by repeat (first | (with_reducible exact HR488_0.out) | (with_reducible refine Kd.C_alloc ?_ _) | (with_reducible refine Kd.C_drewN ?_ _) | (with_reducible refine Kd.C_drew ?_) | exact HR488_0.out)) | (with_reducible refine Kd.C_alloc ?_ _) | (with_reducible refine Kd.C_drewN ?_ _) | (with_reducible refine Kd.C_drew ?_))); (case side2 => exact HC488_0.out); (case side3 => repeat (first | exact (by repeat (first | (with_reducible exact HR483_0.out) | (with_reducible refine Kd.C_alloc ?_ _) | (with_reducible refine Kd.C_drewN ?_ _) | (with_reducible refine Kd.C_drew ?_) | exact HR483_0.out)) | (with_reducible refine Kd.C_alloc ?_ _) | (with_reducible refine Kd.C_drewN ?_ _) | (with_reducible refine Kd.C_drew ?_))); (case side4 => exact HC483_0.out); rintro e w' ⟨rfl, ⟨nd, rfl⟩⟩))
                                       go_ret
                                       exact ⟨by first | rfl | (simp [errW_none, errW_some] <;> rfl) | (simp only [← hji63]; first | rfl | (simp [errW_none, errW_some] <;> rfl)) | (simp [*, errW_none, errW_some] <;> rfl), by repeat (first | (with_reducible first | exact HB.out | apply below_alloc | apply pw_below_drewN | apply below_drew1) | exact HB.out)⟩
                                    ·rw [if_neg c65] at H
                                     exact absurd H (by simp)
                                  ·rw [if_neg c64] at H
                                   exact absurd H (by simp)
                                ·rw [if_neg c62] at H
                                 have c62b0 : decide (0 < x120_3) = false := decide_eq_false c62
                                 clear c62
                                 replace H := Option.bind_eq_some_iff.mp H
                                 obtain ⟨t495, A810, H⟩ := H
                                 replace H : (if 0 ≤ t495 then (if t495 < (x19_3.length : Int) then (if 0 ≤ t484 then (if t484 < (x20_3.length : Int) then (laws_FnAreaAndPairsAlike.l0 k3 t453 t454 t459 t463 t464 (x19_3.set (t495 : Int).toNat (wrap64 ((rd x19_3 t495) + 1))) (x20_3.set (t484 : Int).toNat (wrap64 ((rd x20_3 t484) + 1))) (wrap64 (x21_3 + t486)) t464 (t464.length : Int) (wrap64 (x120_3 + 1))) else (none)) else (none)) else (none)) else (none)) = some r := H
                                 have A81 := Aside0.mk A810
                                 clear A810
                                 by_cases c82 : 0 ≤ t495
                                 ·rw [if_pos c82] at H
                                  have c82b0 : decide (0 ≤ t495) = true := decide_eq_true c82
                                  clear c82
                                  by_cases c83 : t495 < (x19_3.length : Int)
                                  ·rw [if_pos c83] at H
                                   have c83b0 : decide (t495 < (x19_3.length : Int)) = true := decide_eq_true c83
                                   clear c83
                                   obtain ⟨y497, hy497⟩ : ∃ y_ : List Int, y_ = (x19_3.set (t495 : Int).toNat (wrap64 ((rd x19_3 t495) + 1))) := ⟨_, rfl⟩
                                   replace H : (if 0 ≤ t484 then (if t484 < (x20_3.length : Int) then (laws_FnAreaAndPairsAlike.l0 k3 t453 t454 t459 t463 t464 y497 (x20_3.set (t484 : Int).toNat (wrap64 ((rd x20_3 t484) + 1))) (wrap64 (x21_3 + t486)) t464 (t464.length : Int) (wrap64 (x120_3 + 1))) else (none)) else (none)) = some r := by first | (rw [hy497]; with_reducible exact H) | (have H2_ := (Option.bind_some _ _).symm.trans H; rw [hy497]; with_reducible exact H2_) | (have H2_ := (Option.bind_some _ _).symm.trans H; with_reducible exact H2_) | with_reducible exact H | (rw [hy497]; exact H) | exact H
                                   have Ny497 := Aside0.mk hy497
                                   clear hy497
                                   by_cases c85 : 0 ≤ t484
                                   ·rw [if_pos c85] at H
                                    have c85b0 : decide (0 ≤ t484) = true := decide_eq_true c85
                                    clear c85
                                    by_cases c86 : t484 < (x20_3.length : Int)
                                    ·rw [if_pos c86] at H
                                     have c86b0 : decide (t484 < (x20_3.length : Int)) = true := decide_eq_true c86
                                     clear c86
                                     obtain ⟨y499, hy499⟩ : ∃ y_ : List Int, y_ = (x20_3.set (t484 : Int).toNat (wrap64 ((rd x20_3 t484) + 1))) := ⟨_, rfl⟩
                                     replace H : (laws_FnAreaAndPairsAlike.l0 k3 t453 t454 t459 t463 t464 y497 y499 (wrap64 (x21_3 + t486)) t464 (t464.length : Int) (wrap64 (x120_3 + 1))) = some r := by first | (rw [hy499]; with_reducible exact H) | (have H2_ := (Option.bind_some _ _).symm.trans H; rw [hy499]; with_reducible exact H2_) | (have H2_ := (Option.bind_some _ _).symm.trans H; with_reducible exact H2_) | with_reducible exact H | (rw [hy499]; exact H) | exact H
                                     have Ny499 := Aside0.mk hy499
                                     clear hy499
                                     have H' := Aside0.mk H
                                     clear H
                                     have p483 : 0 ≤ (x120_3 : Int) := of_decide_eq_true (by first | (with_reducible assumption) | assumption)
                                     have q483 : x120_3 < (t464.length : Int) := of_decide_eq_true (by first | (with_reducible assumption) | assumption)
                                     obtain ⟨ad483, A483_0, c483_0, e483, hx483_0, hl483_0, hi483_0⟩ := at_L2 (Kd.N_reads' HO_118.out).2.2 x120_3 p483 q483
                                     cases e483
                                     obtain ⟨ce483, hce483, hMe483, hcc483⟩ := Kd.N_get HO_118.out [] x120_3 p483 (by first | exact q483 | exact of_decide_eq_true (by first | (with_reducible assumption) | assumption) | (have e_ := (Kd.N_reads' HO_118.out).1; omega))
                                     obtain ⟨ua483_0, uc483_0, rfl, ul483_0, ge483_0⟩ := Kd.FK_slice_open hMe483
                                     have hv483_0 := hcc483 0 _ rfl
                                     rw [Nat.add_zero, show ((Kd.slice 3 (Kd.int .i64))).sz = 1 from rfl, Nat.mul_one] at hv483_0
                                     replace hv483_0 := Option.some.inj (hv483_0.symm.trans hx483_0)
                                     injection hv483_0 with hva_ hvn_ hvc_
                                     rw [hva_] at ge483_0
                                     rw [hvc_] at ul483_0
                                     have HL483_0 := Aside0.mk (show Kd.V (Kd.int .i64) 3 _ w.heap.size _ _ (rd_L2 t464 x120_3) from Kd.V_mk ul483_0 ge483_0)
                                     clear hva_ hvn_ hvc_ ge483_0 ul483_0
                                     clear hcc483 hce483
                                     have HR483_0 := Aside0.mk hi483_0
                                     have HC483_0 := Aside0.mk hl483_0
                                     clear hi483_0 hl483_0
                                     replace p483 := eq_true p483
                                     replace q483 := eq_true q483
                                     go_wp2_with (first | ((with_reducible refine gate_callee (f := 25) rfl ?_); refine goesL_ (some 127) rfl rfl Try.func25 (by kernel_rfl) rfl #[.slice A483_0 (rd_L2 t464 x120_3).length c483_0] rfl (by (try simp only [List.map_toArray, List.map_cons, List.map_nil]); first | done | rfl | (simp only [List.length_drop, List.length_take]; rfl)) ?_; (with_reducible refine (impl_BounceOf.calls k3 _ _ (rd_L2 t464 x120_3) t484 true _ ?side1 ?side2 A56.out).mono ?_); (case side1 => repeat (first | exact (by repeat (first | (with_reducible exact HR483_0.out) | (with_reducible refine Kd.C_alloc ?_ _) | (with_reducible refine Kd.C_drewN ?_ _) | (with_reducible refine Kd.C_drew ?_) | exact HR483_0.out)) | (with_reducible refine Kd.C_alloc ?_ _) | (with_reducible refine Kd.C_drewN ?_ _) | (with_reducible refine Kd.C_drew ?_))); (case side2 => exact HC483_0.out); rintro e w' ⟨rfl, ⟨nd, rfl⟩⟩; refine ⟨_, rfl, ?_⟩; (try (rw [drewN_self wr]; generalize hq_ : World.drewN wr _ = wr; have n0_ : Aside0 (Kd.V (Kd.int .i64) 3 wr w.heap.size _ (.slice A483_0 (rd_L2 t464 x120_3).length c483_0) (rd_L2 t464 x120_3)) := ⟨by rw [← hq_]; exact (by (with_reducible repeat (first | apply Kd.V_alloc | apply Kd.V_drewN | apply Kd.V_drew)); exact HL483_0.out)⟩; have n1_ : Aside0 (Kd.N (Kd.slice 3 (Kd.int .i64)) 24 wr w.heap.size _ (.slice (some ad483) t464.length co52) t464) := ⟨by rw [← hq_]; exact (by (with_reducible repeat (first | apply Kd.N_alloc | apply Kd.N_drewN | apply Kd.N_drew)); exact HO_11.out)⟩; have n2_ : Aside0 (Kd.N (Kd.slice 3 (Kd.int .i64)) 24 wr w.heap.size _ (.slice (some ad483) t464.length co52) t464) := ⟨by rw [← hq_]; exact (by (with_reducible repeat (first | apply Kd.N_alloc | apply Kd.N_drewN | apply Kd.N_drew)); exact HO_118.out)⟩; have n3_ : Aside0 (Kd.R (Kd.int .i64) 3 wr w.heap.size (fun k_ => some k_ ≠ (v481 : Value).ownBlock) v478 x19_3) := ⟨by rw [← hq_]; exact (by (with_reducible repeat (first | apply Kd.R_alloc | apply Kd.R_drewN | apply Kd.R_drew)); exact HO_19.out)⟩; have n4_ : Aside0 (Kd.R (Kd.int .i64) 3 wr w.heap.size (fun k_ => some k_ ≠ (v478 : Value).ownBlock) v481 x20_3) := ⟨by rw [← hq_]; exact (by (with_reducible repeat (first | apply Kd.R_alloc | apply Kd.R_drewN | apply Kd.R_drew)); exact HO_20.out)⟩; have n5_ : Aside0 (Kd.N (Kd.slice 3 (Kd.int .i64)) 24 wr w.heap.size _ v456 t454) := ⟨by rw [← hq_]; exact (by (with_reducible repeat (first | apply Kd.N_alloc | apply Kd.N_drewN | apply Kd.N_drew)); exact HO_6.out)⟩; have n6_ : Aside0 (Below w.heap.size w wr) := ⟨by rw [← hq_]; exact (by repeat (first | (with_reducible first | exact HB.out | apply below_alloc | apply pw_below_drewN | apply below_drew1) | exact HB.out))⟩; have n7_ : Aside0 (Kd.C (Kd.int .i64) wr A483_0 (rd_L2 t464 x120_3).length (rd_L2 t464 x120_3)) := ⟨by rw [← hq_]; exact (by repeat (first | (with_reducible exact HR483_0.out) | (with_reducible refine Kd.C_alloc ?_ _) | (with_reducible refine Kd.C_drewN ?_ _) | (with_reducible refine Kd.C_drew ?_) | exact HR483_0.out))⟩; clear HL483_0 HO_11 HO_118 HO_19 HO_20 HO_6 HB HR483_0 hq_; have HL483_0 := n0_; have HO_11 := n1_; have HO_118 := n2_; have HO_19 := n3_; have HO_20 := n4_; have HO_6 := n5_; have HB := n6_; have HR483_0 := n7_; clear n0_ n1_ n2_ n3_ n4_ n5_ n6_ n7_))) | ((with_reducible refine gate_callee (f := 26) rfl ?_); refine goesL_ (some 132) rfl rfl Try.func26 (by kernel_rfl) rfl #[.slice A483_0 (rd_L2 t464 x120_3).length c483_0] rfl (by (try simp only [List.map_toArray, List.map_cons, List.map_nil]); first | done | rfl | (simp only [List.length_drop, List.length_take]; rfl)) ?_; (with_reducible refine (impl_CountLabels.calls k3 _ _ (rd_L2 t464 x120_3) t486 true _ ?side1 ?side2 A57.out).mono ?_); (case side1 => repeat (first | exact (by repeat (first | (with_reducible exact HR483_0.out) | (with_reducible refine Kd.C_alloc ?_ _) | (with_reducible refine Kd.C_drewN ?_ _) | (with_reducible refine Kd.C_drew ?_) | exact HR483_0.out)) | (with_reducible refine Kd.C_alloc ?_ _) | (with_reducible refine Kd.C_drewN ?_ _) | (with_reducible refine Kd.C_drew ?_))); (case side2 => exact HC483_0.out); rintro e w' ⟨rfl, ⟨nd, rfl⟩⟩; refine ⟨_, rfl, ?_⟩; (try (rw [drewN_self wr]; generalize hq_ : World.drewN wr _ = wr; have n0_ : Aside0 (Kd.V (Kd.int .i64) 3 wr w.heap.size _ (.slice A483_0 (rd_L2 t464 x120_3).length c483_0) (rd_L2 t464 x120_3)) := ⟨by rw [← hq_]; exact (by (with_reducible repeat (first | apply Kd.V_alloc | apply Kd.V_drewN | apply Kd.V_drew)); exact HL483_0.out)⟩; have n1_ : Aside0 (Kd.N (Kd.slice 3 (Kd.int .i64)) 24 wr w.heap.size _ (.slice (some ad483) t464.length co52) t464) := ⟨by rw [← hq_]; exact (by (with_reducible repeat (first | apply Kd.N_alloc | apply Kd.N_drewN | apply Kd.N_drew)); exact HO_11.out)⟩; have n2_ : Aside0 (Kd.N (Kd.slice 3 (Kd.int .i64)) 24 wr w.heap.size _ (.slice (some ad483) t464.length co52) t464) := ⟨by rw [← hq_]; exact (by (with_reducible repeat (first | apply Kd.N_alloc | apply Kd.N_drewN | apply Kd.N_drew)); exact HO_118.out)⟩; have n3_ : Aside0 (Kd.R (Kd.int .i64) 3 wr w.heap.size (fun k_ => some k_ ≠ (v481 : Value).ownBlock) v478 x19_3) := ⟨by rw [← hq_]; exact (by (with_reducible repeat (first | apply Kd.R_alloc | apply Kd.R_drewN | apply Kd.R_drew)); exact HO_19.out)⟩; have n4_ : Aside0 (Kd.R (Kd.int .i64) 3 wr w.heap.size (fun k_ => some k_ ≠ (v478 : Value).ownBlock) v481 x20_3) := ⟨by rw [← hq_]; exact (by (with_reducible repeat (first | apply Kd.R_alloc | apply Kd.R_drewN | apply Kd.R_drew)); exact HO_20.out)⟩; have n5_ : Aside0 (Kd.N (Kd.slice 3 (Kd.int .i64)) 24 wr w.heap.size _ v456 t454) := ⟨by rw [← hq_]; exact (by (with_reducible repeat (first | apply Kd.N_alloc | apply Kd.N_drewN | apply Kd.N_drew)); exact HO_6.out)⟩; have n6_ : Aside0 (Below w.heap.size w wr) := ⟨by rw [← hq_]; exact (by repeat (first | (with_reducible first | exact HB.out | apply below_alloc | apply pw_below_drewN | apply below_drew1) | exact HB.out))⟩; have n7_ : Aside0 (Kd.C (Kd.int .i64) wr A483_0 (rd_L2 t464 x120_3).length (rd_L2 t464 x120_3)) := ⟨by rw [← hq_]; exact (by repeat (first | (with_reducible exact HR483_0.out) | (with_reducible refine Kd.C_alloc ?_ _) | (with_reducible refine Kd.C_drewN ?_ _) | (with_reducible refine Kd.C_drew ?_) | exact HR483_0.out))⟩; clear HL483_0 HO_11 HO_118 HO_19 HO_20 HO_6 HB HR483_0 hq_; have HL483_0 := n0_; have HO_11 := n1_; have HO_118 := n2_; have HO_19 := n3_; have HO_20 := n4_; have HO_6 := n5_; have HB := n6_; have HR483_0 := n7_; clear n0_ n1_ n2_ n3_ n4_ n5_ n6_ n7_))) | ((with_reducible refine gate_callee (f := 28) rfl ?_); refine goesL_ (some 165) rfl rfl Try.func28 (by kernel_rfl) rfl #[.slice A483_0 (rd_L2 t464 x120_3).length c483_0] rfl (by (try simp only [List.map_toArray, List.map_cons, List.map_nil]); first | done | rfl | (simp only [List.length_drop, List.length_take]; rfl)) ?_; (with_reducible refine (laws_wSum.calls k3 _ _ (rd_L2 t464 x120_3) t495 _ ?side1 ?side2 A81.out).mono ?_); (case side1 => repeat (first | exact (by repeat (first | (with_reducible exact HR483_0.out) | (with_reducible refine Kd.C_alloc ?_ _) | (with_reducible refine Kd.C_drewN ?_ _) | (with_reducible refine Kd.C_drew ?_) | exact HR483_0.out)) | (with_reducible refine Kd.C_alloc ?_ _) | (with_reducible refine Kd.C_drewN ?_ _) | (with_reducible refine Kd.C_drew ?_))); (case side2 => exact HC483_0.out); rintro e w' ⟨rfl, ⟨nd, rfl⟩⟩; refine ⟨_, rfl, ?_⟩; (try (rw [drewN_self wr]; generalize hq_ : World.drewN wr _ = wr; have n0_ : Aside0 (Kd.V (Kd.int .i64) 3 wr w.heap.size _ (.slice A483_0 (rd_L2 t464 x120_3).length c483_0) (rd_L2 t464 x120_3)) := ⟨by rw [← hq_]; exact (by (with_reducible repeat (first | apply Kd.V_alloc | apply Kd.V_drewN | apply Kd.V_drew)); exact HL483_0.out)⟩; have n1_ : Aside0 (Kd.N (Kd.slice 3 (Kd.int .i64)) 24 wr w.heap.size _ (.slice (some ad483) t464.length co52) t464) := ⟨by rw [← hq_]; exact (by (with_reducible repeat (first | apply Kd.N_alloc | apply Kd.N_drewN | apply Kd.N_drew)); exact HO_11.out)⟩; have n2_ : Aside0 (Kd.N (Kd.slice 3 (Kd.int .i64)) 24 wr w.heap.size _ (.slice (some ad483) t464.length co52) t464) := ⟨by rw [← hq_]; exact (by (with_reducible repeat (first | apply Kd.N_alloc | apply Kd.N_drewN | apply Kd.N_drew)); exact HO_118.out)⟩; have n3_ : Aside0 (Kd.R (Kd.int .i64) 3 wr w.heap.size (fun k_ => some k_ ≠ (v481 : Value).ownBlock) v478 x19_3) := ⟨by rw [← hq_]; exact (by (with_reducible repeat (first | apply Kd.R_alloc | apply Kd.R_drewN | apply Kd.R_drew)); exact HO_19.out)⟩; have n4_ : Aside0 (Kd.R (Kd.int .i64) 3 wr w.heap.size (fun k_ => some k_ ≠ (v478 : Value).ownBlock) v481 x20_3) := ⟨by rw [← hq_]; exact (by (with_reducible repeat (first | apply Kd.R_alloc | apply Kd.R_drewN | apply Kd.R_drew)); exact HO_20.out)⟩; have n5_ : Aside0 (Kd.N (Kd.slice 3 (Kd.int .i64)) 24 wr w.heap.size _ v456 t454) := ⟨by rw [← hq_]; exact (by (with_reducible repeat (first | apply Kd.N_alloc | apply Kd.N_drewN | apply Kd.N_drew)); exact HO_6.out)⟩; have n6_ : Aside0 (Below w.heap.size w wr) := ⟨by rw [← hq_]; exact (by repeat (first | (with_reducible first | exact HB.out | apply below_alloc | apply pw_below_drewN | apply below_drew1) | exact HB.out))⟩; have n7_ : Aside0 (Kd.C (Kd.int .i64) wr A483_0 (rd_L2 t464 x120_3).length (rd_L2 t464 x120_3)) := ⟨by rw [← hq_]; exact (by repeat (first | (with_reducible exact HR483_0.out) | (with_reducible refine Kd.C_alloc ?_ _) | (with_reducible refine Kd.C_drewN ?_ _) | (with_reducible refine Kd.C_drew ?_) | exact HR483_0.out))⟩; clear HL483_0 HO_11 HO_118 HO_19 HO_20 HO_6 HB HR483_0 hq_; have HL483_0 := n0_; have HO_11 := n1_; have HO_118 := n2_; have HO_19 := n3_; have HO_20 := n4_; have HO_6 := n5_; have HB := n6_; have HR483_0 := n7_; clear n0_ n1_ n2_ n3_ n4_ n5_ n6_ n7_)); obtain ⟨Ao88, co88, eo88⟩ := Kd.R_slice HO_19.out; subst eo88; have p496 : 0 ≤ (t495 : Int) := of_decide_eq_true (by first | (with_reducible assumption) | assumption); have q496 : t495 < (x19_3.length : Int) := of_decide_eq_true (by first | (with_reducible assumption) | assumption); obtain ⟨ad496, e496, hx496_0⟩ := Kd.at_int (Kd.R_reads' HO_19.out).2.2 t495 p496 q496; cases e496; replace p496 := eq_true p496; replace q496 := eq_true q496; have p84 : 0 ≤ (t495 : Int) := of_decide_eq_true (by first | (with_reducible assumption) | assumption); have q84 : (t495 : Int) < ((x19_3.length : Int) : Int) := of_decide_eq_true (by first | (with_reducible assumption) | assumption); obtain ⟨go84, co84, eo84, gb84, gl84, cl84, HG84⟩ := Kd.R_form HO_19.out (by omega); (first | cases eo84 | (injection eo84 with ea_ en_ ec_; (first | subst ea_ | (injection ea_ with ea_; subst ea_)); subst ec_; clear en_)); have GB84 := Aside0.mk gb84; have GG84 := Aside0.mk HG84; clear gb84 gl84 HG84; (first | simp only [add_plain] at hx496_0 | skip); obtain ⟨hx84_0, hf84_0⟩ := Kd.R_celln 0 HO_19.out (t495 : Int) p84 q84; replace p84 := eq_true p84; replace q84 := eq_true q84; obtain ⟨hy89_, hz89_⟩ := Kd.R_celln 0 HO_19.out (t495 : Int) (of_decide_eq_true (by first | (with_reducible assumption) | assumption)) (of_decide_eq_true (by first | (with_reducible assumption) | assumption)); have HP89 := Kd.R_putg HO_19.out (t495 : Int) (wrap64 ((rd x19_3 t495) + 1))) | ((with_reducible refine gate_store (t := 3) (p := 169) rfl ?_); refine store_event (t := 3) (p := 169) (v := ?vo_w90) (w1 := (wr.setCell ⟨go84, (t495 : Int).toNat, none⟩ (.int .i64 (wrap64 ((rd x19_3 t495) + 1))))) ?hg ?ho ?hn ?hr ?_; (case ho => rfl); (case hg => rfl); (case hn => rfl); (case hr => first | (go_simp; done) | (go_simp; rfl)); intro w90 hw; have hg : wr.grownBy w90 (some go84) := (by rw [hw]; exact HP89.2); have hp_ : Kd.R (Kd.int .i64) 3 w90 w.heap.size (fun k_ => some k_ ≠ (v481 : Value).ownBlock) (.slice (some ⟨go84, 0, none⟩) x19_3.length co88) y497 := (by rw [hw, Ny497.out]; exact HP89.1); clear HP89; have n0_ := Aside0.mk (Kd.N_afterv (v := (.slice (some ⟨go84, 0, none⟩) x19_3.length co88)) (v1 := (.slice (some ⟨go84, 0, none⟩) x19_3.length co88)) (ok := (fun k_ => some k_ ≠ (.slice (some ad483) t464.length co52 : Value).ownBlock ∧ some k_ ≠ (v481 : Value).ownBlock ∧ some k_ ≠ (.slice (some ad483) t464.length co52 : Value).ownBlock)) (by (with_reducible repeat (first | apply Kd.N_alloc | apply Kd.N_drewN | apply Kd.N_drew)); exact Kd.N_mono HO_6.out (fun _ hk => ⟨⟨hk.1, ⟨hk.2.2.1, hk.2.2.2⟩⟩, hk.2.1⟩)) hg (.inl rfl)); have n1_ := Aside0.mk (Kd.N_afterv (v := (.slice (some ⟨go84, 0, none⟩) x19_3.length co88)) (v1 := (.slice (some ⟨go84, 0, none⟩) x19_3.length co88)) (ok := (fun k_ => some k_ ≠ (v456 : Value).ownBlock ∧ some k_ ≠ (v481 : Value).ownBlock)) (by (with_reducible repeat (first | apply Kd.N_alloc | apply Kd.N_drewN | apply Kd.N_drew)); exact Kd.N_mono HO_11.out (fun _ hk => ⟨⟨hk.1, hk.2.2⟩, hk.2.1⟩)) hg (.inl rfl)); have n2_ := Aside0.mk (hp_); have n3_ := Aside0.mk (Kd.R_after (v := (.slice (some ⟨go84, 0, none⟩) x19_3.length co88)) (v1 := (.slice (some ⟨go84, 0, none⟩) x19_3.length co88)) (ok := (fun _ => True)) (by (with_reducible repeat (first | apply Kd.R_alloc | apply Kd.R_drewN | apply Kd.R_drew)); exact Kd.R_mono HO_20.out (fun _ hk => ⟨trivial, hk⟩)) hg (.inl rfl)); have n4_ := Aside0.mk (Kd.N_afterv (v := (.slice (some ⟨go84, 0, none⟩) x19_3.length co88)) (v1 := (.slice (some ⟨go84, 0, none⟩) x19_3.length co88)) (ok := (fun k_ => some k_ ≠ (v456 : Value).ownBlock ∧ some k_ ≠ (v481 : Value).ownBlock)) (by (with_reducible repeat (first | apply Kd.N_alloc | apply Kd.N_drewN | apply Kd.N_drew)); exact Kd.N_mono HO_118.out (fun _ hk => ⟨⟨hk.1, hk.2.2⟩, hk.2.1⟩)) hg (.inl rfl)); have n5_ := Aside0.mk (Kd.V_afterv (v := (.slice (some ⟨go84, 0, none⟩) x19_3.length co88)) (v1 := (.slice (some ⟨go84, 0, none⟩) x19_3.length co88)) (ok := (fun k_ => some k_ ≠ (v456 : Value).ownBlock ∧ some k_ ≠ (v481 : Value).ownBlock ∧ some k_ ≠ (.slice (some ad483) t464.length co52 : Value).ownBlock)) (by (with_reducible repeat (first | apply Kd.V_alloc | apply Kd.V_drewN | apply Kd.V_drew)); exact Kd.V_mono HL483_0.out (fun _ hk => ⟨⟨hk.1.1, ⟨hk.1.2.2, hk.2⟩⟩, hk.1.2.1⟩)) hg (.inl rfl)); have n6_ := Aside0.mk ((by rw [hw]; exact below_set (HB.out) GB84.out : Below w.heap.size w w90)); clear HO_6; clear HO_11; clear HO_19; clear HO_20; clear HO_118; clear HL483_0; clear HB; have HO_6 := n0_; have HO_11 := n1_; have HO_19 := n2_; have HO_20 := n3_; have HO_118 := n4_; have HL483_0 := n5_; have HB := n6_; clear n0_ n1_ n2_ n3_ n4_ n5_ n6_; clear hg hw hp_; obtain ⟨Ao91, co91, eo91⟩ := Kd.R_slice HO_20.out; subst eo91; have p498 : 0 ≤ (t484 : Int) := of_decide_eq_true (by first | (with_reducible assumption) | assumption); have q498 : t484 < (x20_3.length : Int) := of_decide_eq_true (by first | (with_reducible assumption) | assumption); obtain ⟨ad498, e498, hx498_0⟩ := Kd.at_int (Kd.R_reads' HO_20.out).2.2 t484 p498 q498; cases e498; replace p498 := eq_true p498; replace q498 := eq_true q498; have p87 : 0 ≤ (t484 : Int) := of_decide_eq_true (by first | (with_reducible assumption) | assumption); have q87 : (t484 : Int) < ((x20_3.length : Int) : Int) := of_decide_eq_true (by first | (with_reducible assumption) | assumption); obtain ⟨go87, co87, eo87, gb87, gl87, cl87, HG87⟩ := Kd.R_form HO_20.out (by omega); (first | cases eo87 | (injection eo87 with ea_ en_ ec_; (first | subst ea_ | (injection ea_ with ea_; subst ea_)); subst ec_; clear en_)); have GB87 := Aside0.mk gb87; have GG87 := Aside0.mk HG87; clear gb87 gl87 HG87; (first | simp only [add_plain] at hx498_0 | skip); obtain ⟨hx87_0, hf87_0⟩ := Kd.R_celln 0 HO_20.out (t484 : Int) p87 q87; replace p87 := eq_true p87; replace q87 := eq_true q87; have n_ := Aside0.mk (Kd.R_mono (ok' := (fun k_ => some k_ ≠ (.slice (some ⟨go84, 0, none⟩) x19_3.length co88 : Value).ownBlock)) HO_20.out (fun k_ hk => hk.2)); clear HO_20; have HO_20 := n_; clear n_; obtain ⟨hy92_, hz92_⟩ := Kd.R_celln 0 HO_20.out (t484 : Int) (of_decide_eq_true (by first | (with_reducible assumption) | assumption)) (of_decide_eq_true (by first | (with_reducible assumption) | assumption)); have HP92 := Kd.R_putg HO_20.out (t484 : Int) (wrap64 ((rd x20_3 t484) + 1))) | ((with_reducible refine gate_store (t := 3) (p := 175) rfl ?_); refine store_event (t := 3) (p := 175) (v := ?vo_w93) (w1 := (w90.setCell ⟨go87, (t484 : Int).toNat, none⟩ (.int .i64 (wrap64 ((rd x20_3 t484) + 1))))) ?hg ?ho ?hn ?hr ?_; (case ho => rfl); (case hg => rfl); (case hn => rfl); (case hr => first | (go_simp; done) | (go_simp; rfl)); intro w93 hw; have hg : w90.grownBy w93 (some go87) := (by rw [hw]; exact HP92.2); have hp_ : Kd.R (Kd.int .i64) 3 w93 w.heap.size (fun k_ => some k_ ≠ (.slice (some ⟨go84, 0, none⟩) x19_3.length co88 : Value).ownBlock) (.slice (some ⟨go87, 0, none⟩) x20_3.length co91) y499 := (by rw [hw, Ny499.out]; exact HP92.1); clear HP92; have n0_ := Aside0.mk (Kd.N_afterv (v := (.slice (some ⟨go87, 0, none⟩) x20_3.length co91)) (v1 := (.slice (some ⟨go87, 0, none⟩) x20_3.length co91)) (ok := (fun k_ => some k_ ≠ (.slice (some ad483) t464.length co52 : Value).ownBlock ∧ some k_ ≠ (.slice (some ⟨go84, 0, none⟩) x19_3.length co88 : Value).ownBlock ∧ some k_ ≠ (.slice (some ad483) t464.length co52 : Value).ownBlock)) (by (with_reducible repeat (first | apply Kd.N_alloc | apply Kd.N_drewN | apply Kd.N_drew)); exact Kd.N_mono HO_6.out (fun _ hk => ⟨⟨hk.1.1, ⟨hk.2, hk.1.2.2⟩⟩, hk.1.2.1⟩)) hg (.inl rfl)); have n1_ := Aside0.mk (Kd.N_afterv (v := (.slice (some ⟨go87, 0, none⟩) x20_3.length co91)) (v1 := (.slice (some ⟨go87, 0, none⟩) x20_3.length co91)) (ok := (fun k_ => some k_ ≠ (v456 : Value).ownBlock ∧ some k_ ≠ (.slice (some ⟨go84, 0, none⟩) x19_3.length co88 : Value).ownBlock)) (by (with_reducible repeat (first | apply Kd.N_alloc | apply Kd.N_drewN | apply Kd.N_drew)); exact Kd.N_mono HO_11.out (fun _ hk => ⟨⟨hk.1.1, hk.2⟩, hk.1.2⟩)) hg (.inl rfl)); have n2_ := Aside0.mk (Kd.R_after (v := (.slice (some ⟨go87, 0, none⟩) x20_3.length co91)) (v1 := (.slice (some ⟨go87, 0, none⟩) x20_3.length co91)) (ok := (fun _ => True)) (by (with_reducible repeat (first | apply Kd.R_alloc | apply Kd.R_drewN | apply Kd.R_drew)); exact Kd.R_mono HO_19.out (fun _ hk => ⟨trivial, hk⟩)) hg (.inl rfl)); have n3_ := Aside0.mk (hp_); have n4_ := Aside0.mk (Kd.N_afterv (v := (.slice (some ⟨go87, 0, none⟩) x20_3.length co91)) (v1 := (.slice (some ⟨go87, 0, none⟩) x20_3.length co91)) (ok := (fun k_ => some k_ ≠ (v456 : Value).ownBlock ∧ some k_ ≠ (.slice (some ⟨go84, 0, none⟩) x19_3.length co88 : Value).ownBlock)) (by (with_reducible repeat (first | apply Kd.N_alloc | apply Kd.N_drewN | apply Kd.N_drew)); exact Kd.N_mono HO_118.out (fun _ hk => ⟨⟨hk.1.1, hk.2⟩, hk.1.2⟩)) hg (.inl rfl)); have n5_ := Aside0.mk (Kd.V_afterv (v := (.slice (some ⟨go87, 0, none⟩) x20_3.length co91)) (v1 := (.slice (some ⟨go87, 0, none⟩) x20_3.length co91)) (ok := (fun k_ => some k_ ≠ (v456 : Value).ownBlock ∧ some k_ ≠ (.slice (some ⟨go84, 0, none⟩) x19_3.length co88 : Value).ownBlock ∧ some k_ ≠ (.slice (some ad483) t464.length co52 : Value).ownBlock)) (by (with_reducible repeat (first | apply Kd.V_alloc | apply Kd.V_drewN | apply Kd.V_drew)); exact Kd.V_mono HL483_0.out (fun _ hk => ⟨⟨hk.1.1, ⟨hk.2, hk.1.2.2⟩⟩, hk.1.2.1⟩)) hg (.inl rfl)); have n6_ := Aside0.mk ((by rw [hw]; exact below_set (HB.out) GB87.out : Below w.heap.size w w93)); clear HO_6; clear HO_11; clear HO_19; clear HO_20; clear HO_118; clear HL483_0; clear HB; have HO_6 := n0_; have HO_11 := n1_; have HO_19 := n2_; have HO_20 := n3_; have HO_118 := n4_; have HL483_0 := n5_; have HB := n6_; clear n0_ n1_ n2_ n3_ n4_ n5_ n6_; clear hg hw hp_))
                                     go_roundg k3
                                     case measure => have := HJ7.out; have := HJ21.out; have := HK3.out; omega
                                     case rel => exact ⟨(y497), (y499), (wrap64 (x21_3 + t486)), (wrap64 (x120_3 + 1)), (by first | rfl | (simp; done) | (simp [*]; done)), (by first | rfl | (simp; done) | (simp [*]; done)), H', ⟨by have := HJ7.out; have := HJ21.out; have := HK3.out; omega⟩, ⟨by (with_reducible repeat (first | apply Kd.N_alloc | apply Kd.N_drewN | apply Kd.N_drew)); exact Kd.N_mono HO_6.out (fun _ hk => ⟨hk.1.1, ⟨hk.1.2.1, ⟨hk.2, hk.1.2.2⟩⟩⟩)⟩, ⟨by (with_reducible repeat (first | apply Kd.N_alloc | apply Kd.N_drewN | apply Kd.N_drew)); exact Kd.N_mono HO_11.out (fun _ hk => ⟨hk.1.1, ⟨hk.1.2, hk.2⟩⟩)⟩, ⟨by (with_reducible repeat (first | apply Kd.R_alloc | apply Kd.R_drewN | apply Kd.R_drew)); exact Kd.R_mono HO_19.out (fun _ hk => hk.2)⟩, ⟨by (with_reducible repeat (first | apply Kd.R_alloc | apply Kd.R_drewN | apply Kd.R_drew)); exact HO_20.out⟩, ⟨by (with_reducible repeat (first | apply Kd.N_alloc | apply Kd.N_drewN | apply Kd.N_drew)); exact Kd.N_mono HO_118.out (fun _ hk => ⟨hk.1.1, ⟨hk.1.2, hk.2⟩⟩)⟩, ⟨by repeat (first | (with_reducible first | exact HB.out | apply below_alloc | apply pw_below_drewN | apply below_drew1) | exact HB.out)⟩⟩
                                    ·rw [if_neg c86] at H
                                     exact absurd H (by simp)
                                   ·rw [if_neg c85] at H
                                    exact absurd H (by simp)
                                  ·rw [if_neg c83] at H
                                   exact absurd H (by simp)
                                 ·rw [if_neg c82] at H
                                  exact absurd H (by simp)
                          ·replace c59 := Bool.eq_false_iff.mpr c59
                           subst c59
                           have H1 : (some false) = some r := by rw [if_neg (show ¬ (false = true) by decide)] at H; exact H
                           clear H
                           have H := H1
                           clear H1
                           obtain rfl := Option.some.inj H
                           have p483 : 0 ≤ (x120_3 : Int) := of_decide_eq_true (by first | (with_reducible assumption) | assumption)
                           have q483 : x120_3 < (t464.length : Int) := of_decide_eq_true (by first | (with_reducible assumption) | assumption)
                           obtain ⟨ad483, A483_0, c483_0, e483, hx483_0, hl483_0, hi483_0⟩ := at_L2 (Kd.N_reads' HO_118.out).2.2 x120_3 p483 q483
                           cases e483
                           obtain ⟨ce483, hce483, hMe483, hcc483⟩ := Kd.N_get HO_118.out [] x120_3 p483 (by first | exact q483 | exact of_decide_eq_true (by first | (with_reducible assumption) | assumption) | (have e_ := (Kd.N_reads' HO_118.out).1; omega))
                           obtain ⟨ua483_0, uc483_0, rfl, ul483_0, ge483_0⟩ := Kd.FK_slice_open hMe483
                           have hv483_0 := hcc483 0 _ rfl
                           rw [Nat.add_zero, show ((Kd.slice 3 (Kd.int .i64))).sz = 1 from rfl, Nat.mul_one] at hv483_0
                           replace hv483_0 := Option.some.inj (hv483_0.symm.trans hx483_0)
                           injection hv483_0 with hva_ hvn_ hvc_
                           rw [hva_] at ge483_0
                           rw [hvc_] at ul483_0
                           have HL483_0 := Aside0.mk (show Kd.V (Kd.int .i64) 3 _ w.heap.size _ _ (rd_L2 t464 x120_3) from Kd.V_mk ul483_0 ge483_0)
                           clear hva_ hvn_ hvc_ ge483_0 ul483_0
                           clear hcc483 hce483
                           have HR483_0 := Aside0.mk hi483_0
                           have HC483_0 := Aside0.mk hl483_0
                           clear hi483_0 hl483_0
                           replace p483 := eq_true p483
                           replace q483 := eq_true q483
                           go_wp2_with (first | ((with_reducible refine gate_callee (f := 25) rfl ?_); refine goesL_ (some 127) rfl rfl Try.func25 (by kernel_rfl) rfl #[.slice A483_0 (rd_L2 t464 x120_3).length c483_0] rfl (by (try simp only [List.map_toArray, List.map_cons, List.map_nil]); first | done | rfl | (simp only [List.length_drop, List.length_take]; rfl)) ?_; (with_reducible refine (impl_BounceOf.calls k3 _ _ (rd_L2 t464 x120_3) t484 true _ ?side1 ?side2 A56.out).mono ?_); (case side1 => repeat (first | exact (by repeat (first | (with_reducible exact HR483_0.out) | (with_reducible refine Kd.C_alloc ?_ _) | (with_reducible refine Kd.C_drewN ?_ _) | (with_reducible refine Kd.C_drew ?_) | exact HR483_0.out)) | (with_reducible refine Kd.C_alloc ?_ _) | (with_reducible refine Kd.C_drewN ?_ _) | (with_reducible refine Kd.C_drew ?_))); (case side2 => exact HC483_0.out); rintro e w' ⟨rfl, ⟨nd, rfl⟩⟩; refine ⟨_, rfl, ?_⟩) | ((with_reducible refine gate_callee (f := 26) rfl ?_); refine goesL_ (some 132) rfl rfl Try.func26 (by kernel_rfl) rfl #[.slice A483_0 (rd_L2 t464 x120_3).length c483_0] rfl (by (try simp only [List.map_toArray, List.map_cons, List.map_nil]); first | done | rfl | (simp only [List.length_drop, List.length_take]; rfl)) ?_; (with_reducible refine (impl_CountLabels.calls k3 _ _ (rd_L2 t464 x120_3) t486 false _ ?side1 ?side2 A57.out).mono ?_); (case side1 => repeat (first | exact (by repeat (first | (with_reducible exact HR483_0.out) | (with_reducible refine Kd.C_alloc ?_ _) | (with_reducible refine Kd.C_drewN ?_ _) | (with_reducible refine Kd.C_drew ?_) | exact HR483_0.out)) | (with_reducible refine Kd.C_alloc ?_ _) | (with_reducible refine Kd.C_drewN ?_ _) | (with_reducible refine Kd.C_drew ?_))); (case side2 => exact HC483_0.out); rintro e w' ⟨rfl, ⟨nd, rfl⟩⟩; refine ⟨_, rfl, ?_⟩))
                           go_ret
                           exact ⟨by first | rfl | (simp [errW_none, errW_some] <;> rfl) | (simp [*, errW_none, errW_some] <;> rfl), by repeat (first | (with_reducible first | exact HB.out | apply below_alloc | apply pw_below_drewN | apply below_drew1) | exact HB.out)⟩
                        ·replace c58 := Bool.eq_false_iff.mpr c58
                         subst c58
                         have H1 : (some false) = some r := by rw [if_neg (show ¬ (false = true) by decide)] at H; exact H
                         clear H
                         have H := H1
                         clear H1
                         obtain rfl := Option.some.inj H
                         have p483 : 0 ≤ (x120_3 : Int) := of_decide_eq_true (by first | (with_reducible assumption) | assumption)
                         have q483 : x120_3 < (t464.length : Int) := of_decide_eq_true (by first | (with_reducible assumption) | assumption)
                         obtain ⟨ad483, A483_0, c483_0, e483, hx483_0, hl483_0, hi483_0⟩ := at_L2 (Kd.N_reads' HO_118.out).2.2 x120_3 p483 q483
                         cases e483
                         obtain ⟨ce483, hce483, hMe483, hcc483⟩ := Kd.N_get HO_118.out [] x120_3 p483 (by first | exact q483 | exact of_decide_eq_true (by first | (with_reducible assumption) | assumption) | (have e_ := (Kd.N_reads' HO_118.out).1; omega))
                         obtain ⟨ua483_0, uc483_0, rfl, ul483_0, ge483_0⟩ := Kd.FK_slice_open hMe483
                         have hv483_0 := hcc483 0 _ rfl
                         rw [Nat.add_zero, show ((Kd.slice 3 (Kd.int .i64))).sz = 1 from rfl, Nat.mul_one] at hv483_0
                         replace hv483_0 := Option.some.inj (hv483_0.symm.trans hx483_0)
                         injection hv483_0 with hva_ hvn_ hvc_
                         rw [hva_] at ge483_0
                         rw [hvc_] at ul483_0
                         have HL483_0 := Aside0.mk (show Kd.V (Kd.int .i64) 3 _ w.heap.size _ _ (rd_L2 t464 x120_3) from Kd.V_mk ul483_0 ge483_0)
                         clear hva_ hvn_ hvc_ ge483_0 ul483_0
                         clear hcc483 hce483
                         have HR483_0 := Aside0.mk hi483_0
                         have HC483_0 := Aside0.mk hl483_0
                         clear hi483_0 hl483_0
                         replace p483 := eq_true p483
                         replace q483 := eq_true q483
                         go_wp2_with (first | ((with_reducible refine gate_callee (f := 25) rfl ?_); refine goesL_ (some 127) rfl rfl Try.func25 (by kernel_rfl) rfl #[.slice A483_0 (rd_L2 t464 x120_3).length c483_0] rfl (by (try simp only [List.map_toArray, List.map_cons, List.map_nil]); first | done | rfl | (simp only [List.length_drop, List.length_take]; rfl)) ?_; (with_reducible refine (impl_BounceOf.calls k3 _ _ (rd_L2 t464 x120_3) t484 false _ ?side1 ?side2 A56.out).mono ?_); (case side1 => repeat (first | exact (by repeat (first | (with_reducible exact HR483_0.out) | (with_reducible refine Kd.C_alloc ?_ _) | (with_reducible refine Kd.C_drewN ?_ _) | (with_reducible refine Kd.C_drew ?_) | exact HR483_0.out)) | (with_reducible refine Kd.C_alloc ?_ _) | (with_reducible refine Kd.C_drewN ?_ _) | (with_reducible refine Kd.C_drew ?_))); (case side2 => exact HC483_0.out); rintro e w' ⟨rfl, ⟨nd, rfl⟩⟩; refine ⟨_, rfl, ?_⟩) | ((with_reducible refine gate_callee (f := 26) rfl ?_); refine goesL_ (some 132) rfl rfl Try.func26 (by kernel_rfl) rfl #[.slice A483_0 (rd_L2 t464 x120_3).length c483_0] rfl (by (try simp only [List.map_toArray, List.map_cons, List.map_nil]); first | done | rfl | (simp only [List.length_drop, List.length_take]; rfl)) ?_; (with_reducible refine (impl_CountLabels.calls k3 _ _ (rd_L2 t464 x120_3) t486 t487 _ ?side1 ?side2 A57.out).mono ?_); (case side1 => repeat (first | exact (by repeat (first | (with_reducible exact HR483_0.out) | (with_reducible refine Kd.C_alloc ?_ _) | (with_reducible refine Kd.C_drewN ?_ _) | (with_reducible refine Kd.C_drew ?_) | exact HR483_0.out)) | (with_reducible refine Kd.C_alloc ?_ _) | (with_reducible refine Kd.C_drewN ?_ _) | (with_reducible refine Kd.C_drew ?_))); (case side2 => exact HC483_0.out); rintro e w' ⟨rfl, ⟨nd, rfl⟩⟩; refine ⟨_, rfl, ?_⟩))
                         go_ret
                         exact ⟨by first | rfl | (simp [errW_none, errW_some] <;> rfl) | (simp [*, errW_none, errW_some] <;> rfl), by repeat (first | (with_reducible first | exact HB.out | apply below_alloc | apply pw_below_drewN | apply below_drew1) | exact HB.out)⟩
                      ·rw [if_neg c55] at H
                       exact absurd H (by simp)
                    ·rw [if_neg c54] at H
                     exact absurd H (by simp)
                  ·rw [if_neg c53] at H
                   have c53b0 : decide (x120_3 < (t464.length : Int)) = false := decide_eq_false c53
                   clear c53
                   (first | rw [c53b0] | (simp only [i64_w, i32_w]; rw [c53b0]) | rw [c53b1] | skip)
                   replace H := Option.bind_eq_some_iff.mp H
                   obtain ⟨⟨t500, t501⟩, A940, H⟩ := H
                   replace H : (if t501 = true then (if x21_3 = t500 then ((laws_wSame.f k3 x19_3 x20_3).bind fun t502 => (if t502 = true then (laws_FnAreaAndPairsAlike.j3 k3 t453 t454 t459) else (some false))) else (some false)) else (some false)) = some r := H
                   have A94 := Aside0.mk A940
                   clear A940
                   by_cases c95 : t501 = true
                   ·subst c95
                    have H1 : (if x21_3 = t500 then ((laws_wSame.f k3 x19_3 x20_3).bind fun t502 => (if t502 = true then (laws_FnAreaAndPairsAlike.j3 k3 t453 t454 t459) else (some false))) else (some false)) = some r := by rw [if_pos rfl] at H; exact H
                    clear H
                    have H := H1
                    clear H1
                    by_cases c96 : x21_3 = t500
                    ·rw [if_pos c96] at H
                     have c96b0 : (x21_3 == t500) = true := beq_iff_eq.mpr c96
                     have c96b1 : (x21_3 != t500) = false := bne_eq_false_iff_eq.mpr c96
                     clear c96
                     replace H := Option.bind_eq_some_iff.mp H
                     obtain ⟨t502, A970, H⟩ := H
                     replace H : (if t502 = true then (laws_FnAreaAndPairsAlike.j3 k3 t453 t454 t459) else (some false)) = some r := H
                     have A97 := Aside0.mk A970
                     clear A970
                     by_cases c98 : t502 = true
                     ·subst c98
                      have H1 : (laws_FnAreaAndPairsAlike.j3 k3 t453 t454 t459) = some r := by rw [if_pos rfl] at H; exact H
                      clear H
                      have H := H1
                      clear H1
                      have H' := Aside0.mk H
                      clear H
                      go_wp2_with (first | ((with_reducible refine gate_callee (f := 29) rfl ?_); refine goesL_ (some 182) rfl rfl Try.func29 (by kernel_rfl) rfl #[.int .i64 t463] rfl (by (try simp only [List.map_toArray, List.map_cons, List.map_nil]); first | done | rfl | (simp only [List.length_drop, List.length_take]; rfl)) ?_; (with_reducible refine (impl_CountParking.calls k3 t463 t500 true _ A94.out).mono ?_); rintro e w99 ⟨rfl, hb⟩; refine ⟨_, rfl, ?_⟩; have n0_ := Aside0.mk (Kd.N_below (by (with_reducible repeat (first | apply Kd.N_alloc | apply Kd.N_drewN | apply Kd.N_drew)); exact HO_6.out) hb); have n1_ := Aside0.mk (Kd.N_below (by (with_reducible repeat (first | apply Kd.N_alloc | apply Kd.N_drewN | apply Kd.N_drew)); exact HO_11.out) hb); have n2_ := Aside0.mk (Kd.R_below (by (with_reducible repeat (first | apply Kd.R_alloc | apply Kd.R_drewN | apply Kd.R_drew)); exact HO_19.out) hb); have n3_ := Aside0.mk (Kd.R_below (by (with_reducible repeat (first | apply Kd.R_alloc | apply Kd.R_drewN | apply Kd.R_drew)); exact HO_20.out) hb); have n4_ := Aside0.mk (Kd.N_below (by (with_reducible repeat (first | apply Kd.N_alloc | apply Kd.N_drewN | apply Kd.N_drew)); exact HO_118.out) hb); have n5_ := Aside0.mk (below_step (by repeat (first | (with_reducible first | exact HB.out | apply below_alloc | apply pw_below_drewN | apply below_drew1) | exact HB.out)) hb); clear HO_6; clear HO_11; clear HO_19; clear HO_20; clear HO_118; clear HB; have HO_6 := n0_; have HO_11 := n1_; have HO_19 := n2_; have HO_20 := n3_; have HO_118 := n4_; have HB := n5_; clear n0_ n1_ n2_ n3_ n4_ n5_; (try clear hb); (try clear hb2); (try clear hk); (try clear hi); obtain ⟨Ao100, co100, eo100⟩ := Kd.R_slice HO_19.out; subst eo100; obtain ⟨Ao101, co101, eo101⟩ := Kd.R_slice HO_20.out; subst eo101) | (go_at_call 15; (with_reducible refine (laws_wSame.calls k3 _ _ x19_3 _ _ x20_3 true _ ?side1 ?side2 ?side3 ?side4 A97.out).mono ?_); (case side1 => repeat (first | exact (Kd.R_reads' HO_19.out).2.2 | (with_reducible refine Kd.C_alloc ?_ _) | (with_reducible refine Kd.C_drewN ?_ _) | (with_reducible refine Kd.C_drew ?_))); (case side2 => exact (Kd.R_reads' HO_19.out).2.1); (case side3 => repeat (first | exact (Kd.R_reads' HO_20.out).2.2 | (with_reducible refine Kd.C_alloc ?_ _) | (with_reducible refine Kd.C_drewN ?_ _) | (with_reducible refine Kd.C_drew ?_))); (case side4 => exact (Kd.R_reads' HO_20.out).2.1); rintro e w' ⟨rfl, ⟨nd, rfl⟩⟩))
                      go_meet
                      case rel => exact ⟨_, H', ⟨by have := HJ7.out; have := HJ21.out; have := HK3.out; first | omega | exact Nat.le_refl _⟩, ⟨by (with_reducible repeat (first | apply Kd.N_alloc | apply Kd.N_drewN | apply Kd.N_drew)); exact Kd.N_mono HO_6.out (fun _ hk => trivial)⟩, ⟨by repeat (first | (with_reducible first | exact HB.out | apply below_alloc | apply pw_below_drewN | apply below_drew1) | exact HB.out)⟩⟩
                     ·replace c98 := Bool.eq_false_iff.mpr c98
                      subst c98
                      have H1 : (some false) = some r := by rw [if_neg (show ¬ (false = true) by decide)] at H; exact H
                      clear H
                      have H := H1
                      clear H1
                      obtain rfl := Option.some.inj H
                      go_wp2_with (first | ((with_reducible refine gate_callee (f := 29) rfl ?_); refine goesL_ (some 182) rfl rfl Try.func29 (by kernel_rfl) rfl #[.int .i64 t463] rfl (by (try simp only [List.map_toArray, List.map_cons, List.map_nil]); first | done | rfl | (simp only [List.length_drop, List.length_take]; rfl)) ?_; (with_reducible refine (impl_CountParking.calls k3 t463 t500 true _ A94.out).mono ?_); rintro e w102 ⟨rfl, hb⟩; refine ⟨_, rfl, ?_⟩; have n0_ := Aside0.mk (Kd.N_below (by (with_reducible repeat (first | apply Kd.N_alloc | apply Kd.N_drewN | apply Kd.N_drew)); exact HO_6.out) hb); have n1_ := Aside0.mk (Kd.N_below (by (with_reducible repeat (first | apply Kd.N_alloc | apply Kd.N_drewN | apply Kd.N_drew)); exact HO_11.out) hb); have n2_ := Aside0.mk (Kd.R_below (by (with_reducible repeat (first | apply Kd.R_alloc | apply Kd.R_drewN | apply Kd.R_drew)); exact HO_19.out) hb); have n3_ := Aside0.mk (Kd.R_below (by (with_reducible repeat (first | apply Kd.R_alloc | apply Kd.R_drewN | apply Kd.R_drew)); exact HO_20.out) hb); have n4_ := Aside0.mk (Kd.N_below (by (with_reducible repeat (first | apply Kd.N_alloc | apply Kd.N_drewN | apply Kd.N_drew)); exact HO_118.out) hb); have n5_ := Aside0.mk (below_step (by repeat (first | (with_reducible first | exact HB.out | apply below_alloc | apply pw_below_drewN | apply below_drew1) | exact HB.out)) hb); clear HO_6; clear HO_11; clear HO_19; clear HO_20; clear HO_118; clear HB; have HO_6 := n0_; have HO_11 := n1_; have HO_19 := n2_; have HO_20 := n3_; have HO_118 := n4_; have HB := n5_; clear n0_ n1_ n2_ n3_ n4_ n5_; (try clear hb); (try clear hb2); (try clear hk); (try clear hi); obtain ⟨Ao103, co103, eo103⟩ := Kd.R_slice HO_19.out; subst eo103; obtain ⟨Ao104, co104, eo104⟩ := Kd.R_slice HO_20.out; subst eo104) | (go_at_call 15; (with_reducible refine (laws_wSame.calls k3 _ _ x19_3 _ _ x20_3 false _ ?side1 ?side2 ?side3 ?side4 A97.out).mono ?_); (case side1 => repeat (first | exact (Kd.R_reads' HO_19.out).2.2 | (with_reducible refine Kd.C_alloc ?_ _) | (with_reducible refine Kd.C_drewN ?_ _) | (with_reducible refine Kd.C_drew ?_))); (case side2 => exact (Kd.R_reads' HO_19.out).2.1); (case side3 => repeat (first | exact (Kd.R_reads' HO_20.out).2.2 | (with_reducible refine Kd.C_alloc ?_ _) | (with_reducible refine Kd.C_drewN ?_ _) | (with_reducible refine Kd.C_drew ?_))); (case side4 => exact (Kd.R_reads' HO_20.out).2.1); rintro e w' ⟨rfl, ⟨nd, rfl⟩⟩))
                      go_ret
                      exact ⟨by first | rfl | (simp [errW_none, errW_some] <;> rfl) | (simp [*, errW_none, errW_some] <;> rfl), by repeat (first | (with_reducible first | exact HB.out | apply below_alloc | apply pw_below_drewN | apply below_drew1) | exact HB.out)⟩
                    ·rw [if_neg c96] at H
                     have c96b0 : (x21_3 == t500) = false := beq_eq_false_iff_ne.mpr c96
                     have c96b1 : (x21_3 != t500) = true := bne_iff_ne.mpr c96
                     obtain rfl := Option.some.inj H
                     go_wp2_with (first | ((with_reducible refine gate_callee (f := 29) rfl ?_); refine goesL_ (some 182) rfl rfl Try.func29 (by kernel_rfl) rfl #[.int .i64 t463] rfl (by (try simp only [List.map_toArray, List.map_cons, List.map_nil]); first | done | rfl | (simp only [List.length_drop, List.length_take]; rfl)) ?_; (with_reducible refine (impl_CountParking.calls k3 t463 t500 true _ A94.out).mono ?_); rintro e w105 ⟨rfl, hb⟩; refine ⟨_, rfl, ?_⟩; have n0_ := Aside0.mk (Kd.N_below (by (with_reducible repeat (first | apply Kd.N_alloc | apply Kd.N_drewN | apply Kd.N_drew)); exact HO_6.out) hb); have n1_ := Aside0.mk (Kd.N_below (by (with_reducible repeat (first | apply Kd.N_alloc | apply Kd.N_drewN | apply Kd.N_drew)); exact HO_11.out) hb); have n2_ := Aside0.mk (Kd.R_below (by (with_reducible repeat (first | apply Kd.R_alloc | apply Kd.R_drewN | apply Kd.R_drew)); exact HO_19.out) hb); have n3_ := Aside0.mk (Kd.R_below (by (with_reducible repeat (first | apply Kd.R_alloc | apply Kd.R_drewN | apply Kd.R_drew)); exact HO_20.out) hb); have n4_ := Aside0.mk (Kd.N_below (by (with_reducible repeat (first | apply Kd.N_alloc | apply Kd.N_drewN | apply Kd.N_drew)); exact HO_118.out) hb); have n5_ := Aside0.mk (below_step (by repeat (first | (with_reducible first | exact HB.out | apply below_alloc | apply pw_below_drewN | apply below_drew1) | exact HB.out)) hb); clear HO_6; clear HO_11; clear HO_19; clear HO_20; clear HO_118; clear HB; have HO_6 := n0_; have HO_11 := n1_; have HO_19 := n2_; have HO_20 := n3_; have HO_118 := n4_; have HB := n5_; clear n0_ n1_ n2_ n3_ n4_ n5_; (try clear hb); (try clear hb2); (try clear hk); (try clear hi)))
                     go_ret
                     exact ⟨by first | rfl | (simp [errW_none, errW_some] <;> rfl) | (simp [*, errW_none, errW_some] <;> rfl), by repeat (first | (with_reducible first | exact HB.out | apply below_alloc | apply pw_below_drewN | apply below_drew1) | exact HB.out)⟩
                   ·replace c95 := Bool.eq_false_iff.mpr c95
                    subst c95
                    have H1 : (some false) = some r := by rw [if_neg (show ¬ (false = true) by decide)] at H; exact H
                    clear H
                    have H := H1
                    clear H1
                    obtain rfl := Option.some.inj H
                    go_wp2_with (first | ((with_reducible refine gate_callee (f := 29) rfl ?_); refine goesL_ (some 182) rfl rfl Try.func29 (by kernel_rfl) rfl #[.int .i64 t463] rfl (by (try simp only [List.map_toArray, List.map_cons, List.map_nil]); first | done | rfl | (simp only [List.length_drop, List.length_take]; rfl)) ?_; (with_reducible refine (impl_CountParking.calls k3 t463 t500 false _ A94.out).mono ?_); rintro e w106 ⟨rfl, hb⟩; refine ⟨_, rfl, ?_⟩; have n0_ := Aside0.mk (Kd.N_below (by (with_reducible repeat (first | apply Kd.N_alloc | apply Kd.N_drewN | apply Kd.N_drew)); exact HO_6.out) hb); have n1_ := Aside0.mk (Kd.N_below (by (with_reducible repeat (first | apply Kd.N_alloc | apply Kd.N_drewN | apply Kd.N_drew)); exact HO_11.out) hb); have n2_ := Aside0.mk (Kd.R_below (by (with_reducible repeat (first | apply Kd.R_alloc | apply Kd.R_drewN | apply Kd.R_drew)); exact HO_19.out) hb); have n3_ := Aside0.mk (Kd.R_below (by (with_reducible repeat (first | apply Kd.R_alloc | apply Kd.R_drewN | apply Kd.R_drew)); exact HO_20.out) hb); have n4_ := Aside0.mk (Kd.N_below (by (with_reducible repeat (first | apply Kd.N_alloc | apply Kd.N_drewN | apply Kd.N_drew)); exact HO_118.out) hb); have n5_ := Aside0.mk (below_step (by repeat (first | (with_reducible first | exact HB.out | apply below_alloc | apply pw_below_drewN | apply below_drew1) | exact HB.out)) hb); clear HO_6; clear HO_11; clear HO_19; clear HO_20; clear HO_118; clear HB; have HO_6 := n0_; have HO_11 := n1_; have HO_19 := n2_; have HO_20 := n3_; have HO_118 := n4_; have HB := n5_; clear n0_ n1_ n2_ n3_ n4_ n5_; (try clear hb); (try clear hb2); (try clear hk); (try clear hi)))
                    go_ret
                    exact ⟨by first | rfl | (simp [errW_none, errW_some] <;> rfl) | (simp [*, errW_none, errW_some] <;> rfl), by repeat (first | (with_reducible first | exact HB.out | apply below_alloc | apply pw_below_drewN | apply below_drew1) | exact HB.out)⟩
              ·rw [if_neg c45] at H
               exact absurd H (by simp)
            ·replace c44 := Bool.eq_false_iff.mpr c44
             subst c44
             have H1 : (laws_FnAreaAndPairsAlike.j3 kj21 t453 t454 t459) = some r := by rw [if_neg (show ¬ (false = true) by decide)] at H; exact H
             clear H
             have H := H1
             clear H1
             have H' := Aside0.mk H
             clear H
             go_wp2
             go_meet
             case rel => exact ⟨_, H', ⟨by have := HJ7.out; have := HJ21.out; first | omega | exact Nat.le_refl _⟩, ⟨by (with_reducible repeat (first | apply Kd.N_alloc | apply Kd.N_drewN | apply Kd.N_drew)); exact Kd.N_mono HO_6.out (fun _ hk => trivial)⟩, ⟨by repeat (first | (with_reducible first | exact HB.out | apply below_alloc | apply pw_below_drewN | apply below_drew1) | exact HB.out)⟩⟩
           case rest =>
            clear HC43
            try clear c1
            try clear c2
            try clear p2
            try clear c3
            try clear c4
            try clear p4
            try clear q4
            try clear hx4
            try clear c5
            try clear c6
            try clear p6
            try clear c7
            try clear p7
            try clear q7
            try clear hx7
            try clear hf7
            try clear c8
            try clear p8
            try clear q8
            try clear hx8
            try clear hf8
            try clear c9
            try clear c12
            try clear c12b0
            try clear c12b1
            try clear c12b2
            try clear c16
            try clear c17
            try clear c18
            try clear c19
            try clear c20
            try clear c21
            try clear c22
            try clear c23
            try clear c24
            try clear c25
            try clear c26
            try clear c26b0
            try clear c26b1
            try clear c26b2
            try clear c28
            try clear c29
            try clear c29b0
            try clear c29b1
            try clear c29b2
            try clear c32
            try clear c32b0
            try clear c32b1
            try clear c33
            try clear c42
            try clear c44
            try clear c45
            try clear c45b0
            try clear c45b1
            try clear c48
            try clear p48
            try clear q48
            try clear hx48
            try clear p49
            try clear q49
            try clear hx49
            try clear c53
            try clear c53b0
            try clear c53b1
            try clear c54
            try clear c54b0
            try clear c55
            try clear c55b0
            try clear c58
            try clear c59
            try clear c60
            try clear c60b0
            try clear c61
            try clear c61b0
            try clear c62
            try clear c62b0
            try clear c64
            try clear c64b0
            try clear p64
            try clear c65
            try clear c65b0
            try clear c67
            try clear c69
            try clear c69b0
            try clear c70
            try clear c70b0
            try clear p71
            try clear q71
            try clear hx71
            try clear hf71
            try clear c72
            try clear c72b0
            try clear c73
            try clear c73b0
            try clear p74
            try clear q74
            try clear hx74
            try clear hf74
            try clear c82
            try clear c82b0
            try clear c83
            try clear c83b0
            try clear p84
            try clear q84
            try clear hx84
            try clear hf84
            try clear c85
            try clear c85b0
            try clear c86
            try clear c86b0
            try clear p87
            try clear q87
            try clear hx87
            try clear hf87
            try clear c95
            try clear c96
            try clear c96b0
            try clear c96b1
            try clear c98
            try clear hx483_0
            try clear hx488_0
            try clear hx491_0
            try clear hx493_0
            try clear hx496_0
            try clear hx498_0
            try clear hx71_0
            try clear hx74_0
            try clear hx84_0
            try clear hx87_0
            try clear p2
            try clear p483
            try clear p488
            try clear p491
            try clear p493
            try clear p496
            try clear p498
            try clear p71
            try clear p74
            try clear p84
            try clear p87
            try clear q483
            try clear q488
            try clear q491
            try clear q493
            try clear q496
            try clear q498
            try clear q71
            try clear q74
            try clear q84
            try clear q87
            obtain ⟨kq, HA, HJ42, HO_6, HB⟩ := hcut
            cases kq with
            | zero => exact absurd HA.out (by simp [laws_FnAreaAndPairsAlike.j3])
            | succ kj42 =>
             have H := HA.out
             clear HA
             simp only [laws_FnAreaAndPairsAlike.j3] at H
             by_cases c107 : t459 = true
             ·as_aux_lemma =>
               subst c107
               have H1 : (laws_FnAreaAndPairsAlike.l1 kj42 t453 t454 0 t454 (t454.length : Int) 0) = some r := by rw [if_pos rfl] at H; exact H
               clear H
               have H := H1
               clear H1
               have H' := Aside0.mk H
               clear H
               obtain ⟨Ao108, co108, eo108⟩ := Kd.N_slice HO_6.out
               subst eo108
               go_wp2
               go_loopg [30, 202] kj42 (fun kq v30 v202 w' => ∃ (x30_4 : Int) (x202_4 : Int), v30 = .int .i64 x30_4 ∧ v202 = .int .i64 x202_4 ∧ Aside0 (laws_FnAreaAndPairsAlike.l1 kq t453 t454 x30_4 t454 (t454.length : Int) x202_4 = some r) ∧ Aside0 (kq ≤ kj42) ∧ Aside0 (Kd.N (Kd.slice 3 (Kd.int .i64)) 24 w' w.heap.size (fun _ => True) (.slice Ao108 t454.length co108) t454) ∧ Aside0 (Kd.N (Kd.slice 3 (Kd.int .i64)) 24 w' w.heap.size (fun _ => True) (.slice Ao108 t454.length co108) t454) ∧ Aside0 (Below w.heap.size w w'))
               case atStart => exact ⟨(0), (0), (by first | rfl | (simp; done) | (simp [*]; done)), (by first | rfl | (simp; done) | (simp [*]; done)), H', ⟨Nat.le_refl _⟩, ⟨by (with_reducible repeat (first | apply Kd.N_alloc | apply Kd.N_drewN | apply Kd.N_drew)); exact HO_6.out⟩, ⟨by (with_reducible repeat (first | apply Kd.N_alloc | apply Kd.N_drewN | apply Kd.N_drew)); exact HO_6.out⟩, ⟨by repeat (first | (with_reducible first | exact HB.out | apply below_alloc | apply pw_below_drewN | apply below_drew1) | exact HB.out)⟩⟩
               case round =>
                clear H'
                try clear c1
                try clear c2
                try clear p2
                try clear c3
                try clear c4
                try clear p4
                try clear q4
                try clear hx4
                try clear c5
                try clear c6
                try clear p6
                try clear c7
                try clear p7
                try clear q7
                try clear hx7
                try clear hf7
                try clear c8
                try clear p8
                try clear q8
                try clear hx8
                try clear hf8
                try clear c9
                try clear c10
                try clear c12
                try clear c12b0
                try clear c12b1
                try clear c12b2
                try clear c16
                try clear c17
                try clear c18
                try clear c19
                try clear c20
                try clear c21
                try clear c22
                try clear c23
                try clear c24
                try clear c25
                try clear c26
                try clear c26b0
                try clear c26b1
                try clear c26b2
                try clear c28
                try clear c29
                try clear c29b0
                try clear c29b1
                try clear c29b2
                try clear c32
                try clear c32b0
                try clear c32b1
                try clear c33
                try clear c42
                try clear c44
                try clear c45
                try clear c45b0
                try clear c45b1
                try clear c48
                try clear p48
                try clear q48
                try clear hx48
                try clear p49
                try clear q49
                try clear hx49
                try clear c53
                try clear c53b0
                try clear c53b1
                try clear c54
                try clear c54b0
                try clear c55
                try clear c55b0
                try clear c58
                try clear c59
                try clear c60
                try clear c60b0
                try clear c61
                try clear c61b0
                try clear c62
                try clear c62b0
                try clear c64
                try clear c64b0
                try clear p64
                try clear c65
                try clear c65b0
                try clear c67
                try clear c69
                try clear c69b0
                try clear c70
                try clear c70b0
                try clear p71
                try clear q71
                try clear hx71
                try clear hf71
                try clear c72
                try clear c72b0
                try clear c73
                try clear c73b0
                try clear p74
                try clear q74
                try clear hx74
                try clear hf74
                try clear c82
                try clear c82b0
                try clear c83
                try clear c83b0
                try clear p84
                try clear q84
                try clear hx84
                try clear hf84
                try clear c85
                try clear c85b0
                try clear c86
                try clear c86b0
                try clear p87
                try clear q87
                try clear hx87
                try clear hf87
                try clear c95
                try clear c96
                try clear c96b0
                try clear c96b1
                try clear c98
                try clear c107
                try clear hx483_0
                try clear hx488_0
                try clear hx491_0
                try clear hx493_0
                try clear hx496_0
                try clear hx498_0
                try clear hx71_0
                try clear hx74_0
                try clear hx84_0
                try clear hx87_0
                try clear p2
                try clear p4
                try clear p48
                try clear p483
                try clear p488
                try clear p49
                try clear p491
                try clear p493
                try clear p496
                try clear p498
                try clear p6
                try clear p64
                try clear p7
                try clear p71
                try clear p74
                try clear p8
                try clear p84
                try clear p87
                try clear q4
                try clear q48
                try clear q483
                try clear q488
                try clear q49
                try clear q491
                try clear q493
                try clear q496
                try clear q498
                try clear q7
                try clear q71
                try clear q74
                try clear q8
                try clear q84
                try clear q87
                obtain ⟨x30_4, x202_4, rfl, rfl, HA, HK4, HO_6, HO_200, HB⟩ := hrel
                cases gk with
                | zero => exact absurd HA.out (by simp [laws_FnAreaAndPairsAlike.l1])
                | succ k4 =>
                 have H := HA.out
                 clear HA
                 simp only [laws_FnAreaAndPairsAlike.l1] at H
                 by_cases c109 : x202_4 < (t454.length : Int)
                 ·as_aux_lemma =>
                   rw [if_pos c109] at H
                   have c109b0 : decide (x202_4 < (t454.length : Int)) = true := decide_eq_true c109
                   clear c109
                   by_cases c110 : 0 ≤ x202_4
                   ·as_aux_lemma =>
                     rw [if_pos c110] at H
                     have c110b0 : decide (0 ≤ x202_4) = true := decide_eq_true c110
                     clear c110
                     by_cases c111 : x202_4 < (t454.length : Int)
                     ·as_aux_lemma =>
                       rw [if_pos c111] at H
                       have c111b0 : decide (x202_4 < (t454.length : Int)) = true := decide_eq_true c111
                       clear c111
                       have H' := Aside0.mk H
                       clear H
                       have p503 : 0 ≤ (x202_4 : Int) := of_decide_eq_true (by first | (with_reducible assumption) | assumption)
                       have q503 : x202_4 < (t454.length : Int) := of_decide_eq_true (by first | (with_reducible assumption) | assumption)
                       obtain ⟨ad503, A503_0, c503_0, e503, hx503_0, hl503_0, hi503_0⟩ := at_L2 (Kd.N_reads' HO_200.out).2.2 x202_4 p503 q503
                       cases e503
                       obtain ⟨ce503, hce503, hMe503, hcc503⟩ := Kd.N_get HO_200.out [] x202_4 p503 (by first | exact q503 | exact of_decide_eq_true (by first | (with_reducible assumption) | assumption) | (have e_ := (Kd.N_reads' HO_200.out).1; omega))
                       obtain ⟨ua503_0, uc503_0, rfl, ul503_0, ge503_0⟩ := Kd.FK_slice_open hMe503
                       have hv503_0 := hcc503 0 _ rfl
                       rw [Nat.add_zero, show ((Kd.slice 3 (Kd.int .i64))).sz = 1 from rfl, Nat.mul_one] at hv503_0
                       replace hv503_0 := Option.some.inj (hv503_0.symm.trans hx503_0)
                       injection hv503_0 with hva_ hvn_ hvc_
                       rw [hva_] at ge503_0
                       rw [hvc_] at ul503_0
                       have HL503_0 := Aside0.mk (show Kd.V (Kd.int .i64) 3 _ w.heap.size _ _ (rd_L2 t454 x202_4) from Kd.V_mk ul503_0 ge503_0)
                       clear hva_ hvn_ hvc_ ge503_0 ul503_0
                       clear hcc503 hce503
                       have HR503_0 := Aside0.mk hi503_0
                       have HC503_0 := Aside0.mk hl503_0
                       clear hi503_0 hl503_0
                       replace p503 := eq_true p503
                       replace q503 := eq_true q503
                       go_wp2
                       go_loopg [30, 209] k4 (fun kq v30 v209 w' => ∃ (x30_5 : Int) (x209_5 : Int), v30 = .int .i64 x30_5 ∧ v209 = .int .i64 x209_5 ∧ Aside0 (laws_FnAreaAndPairsAlike.l2 kq t453 t454 x30_5 x202_4 t454 (t454.length : Int) x202_4 (rd_L2 t454 x202_4) ((rd_L2 t454 x202_4).length : Int) x209_5 = some r) ∧ Aside0 (kq ≤ k4) ∧ Aside0 (Kd.N (Kd.slice 3 (Kd.int .i64)) 24 w' w.heap.size (fun _ => True) (.slice (some ad503) t454.length co108) t454) ∧ Aside0 (Kd.N (Kd.slice 3 (Kd.int .i64)) 24 w' w.heap.size (fun _ => True) (.slice (some ad503) t454.length co108) t454) ∧ Aside0 (Kd.C (Kd.int .i64) w' A503_0 (rd_L2 t454 x202_4).length (rd_L2 t454 x202_4)) ∧ Aside0 (Below w.heap.size w w'))
                       case atStart => exact ⟨(x30_4), (0), (by first | rfl | (simp; done) | (simp [*]; done)), (by first | rfl | (simp; done) | (simp [*]; done)), H', ⟨Nat.le_refl _⟩, ⟨by (with_reducible repeat (first | apply Kd.N_alloc | apply Kd.N_drewN | apply Kd.N_drew)); exact HO_6.out⟩, ⟨by (with_reducible repeat (first | apply Kd.N_alloc | apply Kd.N_drewN | apply Kd.N_drew)); exact HO_200.out⟩, ⟨by repeat (first | (with_reducible exact HR503_0.out) | (with_reducible refine Kd.C_alloc ?_ _) | (with_reducible refine Kd.C_drewN ?_ _) | (with_reducible refine Kd.C_drew ?_) | exact HR503_0.out)⟩, ⟨by repeat (first | (with_reducible first | exact HB.out | apply below_alloc | apply pw_below_drewN | apply below_drew1) | exact HB.out)⟩⟩
                       case round =>
                        clear H'
                        try clear c1
                        try clear c2
                        try clear p2
                        try clear c3
                        try clear c4
                        try clear p4
                        try clear q4
                        try clear hx4
                        try clear c5
                        try clear p5
                        try clear q5
                        try clear hx5
                        try clear c6
                        try clear p6
                        try clear c7
                        try clear p7
                        try clear q7
                        try clear hx7
                        try clear hf7
                        try clear c8
                        try clear p8
                        try clear q8
                        try clear hx8
                        try clear hf8
                        try clear c9
                        try clear c10
                        try clear c11
                        try clear c12
                        try clear c12b0
                        try clear c12b1
                        try clear c12b2
                        try clear c16
                        try clear c17
                        try clear c18
                        try clear c19
                        try clear c20
                        try clear c21
                        try clear c22
                        try clear c23
                        try clear c24
                        try clear c25
                        try clear c26
                        try clear c26b0
                        try clear c26b1
                        try clear c26b2
                        try clear c28
                        try clear c29
                        try clear c29b0
                        try clear c29b1
                        try clear c29b2
                        try clear c32
                        try clear c32b0
                        try clear c32b1
                        try clear c33
                        try clear c42
                        try clear c44
                        try clear c45
                        try clear c45b0
                        try clear c45b1
                        try clear c48
                        try clear p48
                        try clear q48
                        try clear hx48
                        try clear p49
                        try clear q49
                        try clear hx49
                        try clear c50
                        try clear p50
                        try clear q50
                        try clear hx50
                        try clear c53
                        try clear c53b0
                        try clear c53b1
                        try clear c54
                        try clear c54b0
                        try clear c55
                        try clear c55b0
                        try clear c58
                        try clear c59
                        try clear c60
                        try clear c60b0
                        try clear c61
                        try clear c61b0
                        try clear c62
                        try clear c62b0
                        try clear c64
                        try clear c64b0
                        try clear p64
                        try clear c65
                        try clear c65b0
                        try clear c67
                        try clear c69
                        try clear c69b0
                        try clear c70
                        try clear c70b0
                        try clear p71
                        try clear q71
                        try clear hx71
                        try clear hf71
                        try clear c72
                        try clear c72b0
                        try clear c73
                        try clear c73b0
                        try clear p74
                        try clear q74
                        try clear hx74
                        try clear hf74
                        try clear c82
                        try clear c82b0
                        try clear c83
                        try clear c83b0
                        try clear p84
                        try clear q84
                        try clear hx84
                        try clear hf84
                        try clear c85
                        try clear c85b0
                        try clear c86
                        try clear c86b0
                        try clear p87
                        try clear q87
                        try clear hx87
                        try clear hf87
                        try clear c95
                        try clear c96
                        try clear c96b0
                        try clear c96b1
                        try clear c98
                        try clear c107
                        try clear c109
                        try clear c109b0
                        try clear c110
                        try clear c110b0
                        try clear c111
                        try clear c111b0
                        try clear hx483_0
                        try clear hx488_0
                        try clear hx491_0
                        try clear hx493_0
                        try clear hx496_0
                        try clear hx498_0
                        try clear hx503_0
                        try clear hx71_0
                        try clear hx74_0
                        try clear hx84_0
                        try clear hx87_0
                        try clear p2
                        try clear p4
                        try clear p48
                        try clear p483
                        try clear p488
                        try clear p49
                        try clear p491
                        try clear p493
                        try clear p496
                        try clear p498
                        try clear p503
                        try clear p6
                        try clear p64
                        try clear p7
                        try clear p71
                        try clear p74
                        try clear p8
                        try clear p84
                        try clear p87
                        try clear q4
                        try clear q48
                        try clear q483
                        try clear q488
                        try clear q49
                        try clear q491
                        try clear q493
                        try clear q496
                        try clear q498
                        try clear q503
                        try clear q7
                        try clear q71
                        try clear q74
                        try clear q8
                        try clear q84
                        try clear q87
                        obtain ⟨x30_5, x209_5, rfl, rfl, HA, HK5, HO_6, HO_200, HR503_0, HB⟩ := hrel
                        cases gk with
                        | zero => exact absurd HA.out (by simp [laws_FnAreaAndPairsAlike.l2])
                        | succ k5 =>
                         have H := HA.out
                         clear HA
                         simp only [laws_FnAreaAndPairsAlike.l2] at H
                         by_cases c112 : x209_5 < ((rd_L2 t454 x202_4).length : Int)
                         ·as_aux_lemma =>
                           rw [if_pos c112] at H
                           have c112b0 : decide (x209_5 < ((rd_L2 t454 x202_4).length : Int)) = true := decide_eq_true c112
                           clear c112
                           by_cases c113 : 0 ≤ x209_5
                           ·as_aux_lemma =>
                             rw [if_pos c113] at H
                             have c113b0 : decide (0 ≤ x209_5) = true := decide_eq_true c113
                             clear c113
                             by_cases c114 : x209_5 < ((rd_L2 t454 x202_4).length : Int)
                             ·as_aux_lemma =>
                               rw [if_pos c114] at H
                               have c114b0 : decide (x209_5 < ((rd_L2 t454 x202_4).length : Int)) = true := decide_eq_true c114
                               clear c114
                               by_cases c115 : x209_5 < (t454.length : Int)
                               ·rw [if_pos c115] at H
                                have c115b0 : decide (x209_5 < (t454.length : Int)) = true := decide_eq_true c115
                                clear c115
                                by_cases c116 : 0 ≤ x202_4
                                ·rw [if_pos c116] at H
                                 have c116b0 : decide (0 ≤ x202_4) = true := decide_eq_true c116
                                 clear c116
                                 by_cases c117 : x202_4 < ((rd_L2 t454 x209_5).length : Int)
                                 ·rw [if_pos c117] at H
                                  have c117b0 : decide (x202_4 < ((rd_L2 t454 x209_5).length : Int)) = true := decide_eq_true c117
                                  clear c117
                                  by_cases c118 : (rd (rd_L2 t454 x202_4) x209_5) = (rd (rd_L2 t454 x209_5) x202_4)
                                  ·rw [if_pos c118] at H
                                   have c118b0 : ((rd (rd_L2 t454 x202_4) x209_5) == (rd (rd_L2 t454 x209_5) x202_4)) = true := beq_iff_eq.mpr c118
                                   have c118b1 : ((rd (rd_L2 t454 x202_4) x209_5) != (rd (rd_L2 t454 x209_5) x202_4)) = false := bne_eq_false_iff_eq.mpr c118
                                   clear c118
                                   have H' := Aside0.mk H
                                   clear H
                                   have p504 : 0 ≤ (x209_5 : Int) := of_decide_eq_true (by first | (with_reducible assumption) | assumption)
                                   have q504 : x209_5 < ((rd_L2 t454 x202_4).length : Int) := of_decide_eq_true (by first | (with_reducible assumption) | assumption)
                                   obtain ⟨ad504, e504, hx504_0⟩ := Kd.at_int HR503_0.out x209_5 p504 q504
                                   cases e504
                                   try replace hx504_0 := (HB.out.cell (World.block_lt_of_cell? w _ hx504_0)).trans hx504_0
                                   replace p504 := eq_true p504
                                   replace q504 := eq_true q504
                                   have p505 : 0 ≤ (x209_5 : Int) := of_decide_eq_true (by first | (with_reducible assumption) | assumption)
                                   have q505 : x209_5 < (t454.length : Int) := of_decide_eq_true (by first | (with_reducible assumption) | assumption)
                                   obtain ⟨ad505, A505_0, c505_0, e505, hx505_0, hl505_0, hi505_0⟩ := at_L2 (Kd.N_reads' HO_6.out).2.2 x209_5 p505 q505
                                   obtain rfl : ad503 = ad505 := (by injection e505)
                                   obtain ⟨ce505, hce505, hMe505, hcc505⟩ := Kd.N_get HO_6.out [] x209_5 p505 (by first | exact q505 | exact of_decide_eq_true (by first | (with_reducible assumption) | assumption) | (have e_ := (Kd.N_reads' HO_6.out).1; omega))
                                   obtain ⟨ua505_0, uc505_0, rfl, ul505_0, ge505_0⟩ := Kd.FK_slice_open hMe505
                                   have hv505_0 := hcc505 0 _ rfl
                                   rw [Nat.add_zero, show ((Kd.slice 3 (Kd.int .i64))).sz = 1 from rfl, Nat.mul_one] at hv505_0
                                   replace hv505_0 := Option.some.inj (hv505_0.symm.trans hx505_0)
                                   injection hv505_0 with hva_ hvn_ hvc_
                                   rw [hva_] at ge505_0
                                   rw [hvc_] at ul505_0
                                   have HL505_0 := Aside0.mk (show Kd.V (Kd.int .i64) 3 _ w.heap.size _ _ (rd_L2 t454 x209_5) from Kd.V_mk ul505_0 ge505_0)
                                   clear hva_ hvn_ hvc_ ge505_0 ul505_0
                                   clear hcc505 hce505
                                   have HR505_0 := Aside0.mk hi505_0
                                   have HC505_0 := Aside0.mk hl505_0
                                   clear hi505_0 hl505_0
                                   replace p505 := eq_true p505
                                   replace q505 := eq_true q505
                                   have p506 : 0 ≤ (x202_4 : Int) := of_decide_eq_true (by first | (with_reducible assumption) | assumption)
                                   have q506 : x202_4 < ((rd_L2 t454 x209_5).length : Int) := of_decide_eq_true (by first | (with_reducible assumption) | assumption)
                                   obtain ⟨ad506, e506, hx506_0⟩ := Kd.at_int (by repeat (first | (with_reducible exact HR505_0.out) | (with_reducible refine Kd.C_alloc ?_ _) | (with_reducible refine Kd.C_drewN ?_ _) | (with_reducible refine Kd.C_drew ?_) | exact HR505_0.out)) x202_4 p506 q506
                                   cases e506
                                   replace p506 := eq_true p506
                                   replace q506 := eq_true q506
                                   go_wp2
                                   go_roundg k5
                                   case measure => have := HJ7.out; have := HJ21.out; have := HJ42.out; have := HK4.out; have := HK5.out; omega
                                   case rel => exact ⟨(wrap64 (x30_5 + (rd (rd_L2 t454 x202_4) x209_5))), (wrap64 (x209_5 + 1)), (by first | rfl | (simp; done) | (simp [*]; done)), (by first | rfl | (simp; done) | (simp [*]; done)), H', ⟨by have := HJ7.out; have := HJ21.out; have := HJ42.out; have := HK4.out; have := HK5.out; omega⟩, ⟨by (with_reducible repeat (first | apply Kd.N_alloc | apply Kd.N_drewN | apply Kd.N_drew)); exact HO_6.out⟩, ⟨by (with_reducible repeat (first | apply Kd.N_alloc | apply Kd.N_drewN | apply Kd.N_drew)); exact HO_200.out⟩, ⟨by repeat (first | (with_reducible exact HR503_0.out) | (with_reducible refine Kd.C_alloc ?_ _) | (with_reducible refine Kd.C_drewN ?_ _) | (with_reducible refine Kd.C_drew ?_) | exact HR503_0.out)⟩, ⟨by repeat (first | (with_reducible first | exact HB.out | apply below_alloc | apply pw_below_drewN | apply below_drew1) | exact HB.out)⟩⟩
                                  ·rw [if_neg c118] at H
                                   have c118b0 : ((rd (rd_L2 t454 x202_4) x209_5) == (rd (rd_L2 t454 x209_5) x202_4)) = false := beq_eq_false_iff_ne.mpr c118
                                   have c118b1 : ((rd (rd_L2 t454 x202_4) x209_5) != (rd (rd_L2 t454 x209_5) x202_4)) = true := bne_iff_ne.mpr c118
                                   obtain rfl := Option.some.inj H
                                   have p504 : 0 ≤ (x209_5 : Int) := of_decide_eq_true (by first | (with_reducible assumption) | assumption)
                                   have q504 : x209_5 < ((rd_L2 t454 x202_4).length : Int) := of_decide_eq_true (by first | (with_reducible assumption) | assumption)
                                   obtain ⟨ad504, e504, hx504_0⟩ := Kd.at_int HR503_0.out x209_5 p504 q504
                                   cases e504
                                   try replace hx504_0 := (HB.out.cell (World.block_lt_of_cell? w _ hx504_0)).trans hx504_0
                                   replace p504 := eq_true p504
                                   replace q504 := eq_true q504
                                   have p505 : 0 ≤ (x209_5 : Int) := of_decide_eq_true (by first | (with_reducible assumption) | assumption)
                                   have q505 : x209_5 < (t454.length : Int) := of_decide_eq_true (by first | (with_reducible assumption) | assumption)
                                   obtain ⟨ad505, A505_0, c505_0, e505, hx505_0, hl505_0, hi505_0⟩ := at_L2 (Kd.N_reads' HO_6.out).2.2 x209_5 p505 q505
                                   obtain rfl : ad503 = ad505 := (by injection e505)
                                   obtain ⟨ce505, hce505, hMe505, hcc505⟩ := Kd.N_get HO_6.out [] x209_5 p505 (by first | exact q505 | exact of_decide_eq_true (by first | (with_reducible assumption) | assumption) | (have e_ := (Kd.N_reads' HO_6.out).1; omega))
                                   obtain ⟨ua505_0, uc505_0, rfl, ul505_0, ge505_0⟩ := Kd.FK_slice_open hMe505
                                   have hv505_0 := hcc505 0 _ rfl
                                   rw [Nat.add_zero, show ((Kd.slice 3 (Kd.int .i64))).sz = 1 from rfl, Nat.mul_one] at hv505_0
                                   replace hv505_0 := Option.some.inj (hv505_0.symm.trans hx505_0)
                                   injection hv505_0 with hva_ hvn_ hvc_
                                   rw [hva_] at ge505_0
                                   rw [hvc_] at ul505_0
                                   have HL505_0 := Aside0.mk (show Kd.V (Kd.int .i64) 3 _ w.heap.size _ _ (rd_L2 t454 x209_5) from Kd.V_mk ul505_0 ge505_0)
                                   clear hva_ hvn_ hvc_ ge505_0 ul505_0
                                   clear hcc505 hce505
                                   have HR505_0 := Aside0.mk hi505_0
                                   have HC505_0 := Aside0.mk hl505_0
                                   clear hi505_0 hl505_0
                                   replace p505 := eq_true p505
                                   replace q505 := eq_true q505
                                   have p506 : 0 ≤ (x202_4 : Int) := of_decide_eq_true (by first | (with_reducible assumption) | assumption)
                                   have q506 : x202_4 < ((rd_L2 t454 x209_5).length : Int) := of_decide_eq_true (by first | (with_reducible assumption) | assumption)
                                   obtain ⟨ad506, e506, hx506_0⟩ := Kd.at_int (by repeat (first | (with_reducible exact HR505_0.out) | (with_reducible refine Kd.C_alloc ?_ _) | (with_reducible refine Kd.C_drewN ?_ _) | (with_reducible refine Kd.C_drew ?_) | exact HR505_0.out)) x202_4 p506 q506
                                   cases e506
                                   replace p506 := eq_true p506
                                   replace q506 := eq_true q506
                                   go_wp2
                                   go_ret
                                   exact ⟨by first | rfl | (simp [errW_none, errW_some] <;> rfl) | (simp [*, errW_none, errW_some] <;> rfl), by repeat (first | (with_reducible first | exact HB.out | apply below_alloc | apply pw_below_drewN | apply below_drew1) | exact HB.out)⟩
                                 ·rw [if_neg c117] at H
                                  exact absurd H (by simp)
                                ·rw [if_neg c116] at H
                                 exact absurd H (by simp)
                               ·rw [if_neg c115] at H
                                exact absurd H (by simp)
                             ·rw [if_neg c114] at H
                              exact absurd H (by simp)
                           ·rw [if_neg c113] at H
                            exact absurd H (by simp)
                         ·rw [if_neg c112] at H
                          have c112b0 : decide (x209_5 < ((rd_L2 t454 x202_4).length : Int)) = false := decide_eq_false c112
                          clear c112
                          have H' := Aside0.mk H
                          clear H
                          go_wp2
                          go_roundg k5
                          case measure => have := HJ7.out; have := HJ21.out; have := HJ42.out; have := HK4.out; have := HK5.out; omega
                          case rel => exact ⟨(x30_5), (wrap64 (x202_4 + 1)), (by first | rfl | (simp; done) | (simp [*]; done)), (by first | rfl | (simp; done) | (simp [*]; done)), H', ⟨by have := HJ7.out; have := HJ21.out; have := HJ42.out; have := HK4.out; have := HK5.out; omega⟩, ⟨by (with_reducible repeat (first | apply Kd.N_alloc | apply Kd.N_drewN | apply Kd.N_drew)); exact HO_6.out⟩, ⟨by (with_reducible repeat (first | apply Kd.N_alloc | apply Kd.N_drewN | apply Kd.N_drew)); exact HO_200.out⟩, ⟨by repeat (first | (with_reducible first | exact HB.out | apply below_alloc | apply pw_below_drewN | apply below_drew1) | exact HB.out)⟩⟩
                     ·rw [if_neg c111] at H
                      exact absurd H (by simp)
                   ·rw [if_neg c110] at H
                    exact absurd H (by simp)
                 ·as_aux_lemma =>
                   rw [if_neg c109] at H
                   have c109b0 : decide (x202_4 < (t454.length : Int)) = false := decide_eq_false c109
                   clear c109
                   replace H := Option.bind_eq_some_iff.mp H
                   obtain ⟨⟨t507, t508⟩, A1190, H⟩ := H
                   replace H : ((impl_CountByDistance.f k4 t453).bind fun bt509 => (if t508 = true then (if bt509.2 = true then (laws_FnAreaAndPairsAlike.j6 k4 t454 bt509.1 (x30_4 != t507)) else (laws_FnAreaAndPairsAlike.j6 k4 t454 bt509.1 true)) else (laws_FnAreaAndPairsAlike.j6 k4 t454 bt509.1 true))) = some r := H
                   have A119 := Aside0.mk A1190
                   clear A1190
                   replace H := Option.bind_eq_some_iff.mp H
                   obtain ⟨⟨t509, t510⟩, A1200, H⟩ := H
                   replace H : (if t508 = true then (if t510 = true then (laws_FnAreaAndPairsAlike.j6 k4 t454 t509 (x30_4 != t507)) else (laws_FnAreaAndPairsAlike.j6 k4 t454 t509 true)) else (laws_FnAreaAndPairsAlike.j6 k4 t454 t509 true)) = some r := H
                   have A120 := Aside0.mk A1200
                   clear A1200
                   have HC121 := Aside0.mk H
                   clear H
                   go_upto_region 48 with (first | ((with_reducible refine gate_callee (f := 29) rfl ?_); refine goesL_ (some 230) rfl rfl Try.func29 (by kernel_rfl) rfl #[.int .i64 t453] rfl (by (try simp only [List.map_toArray, List.map_cons, List.map_nil]); first | done | rfl | (simp only [List.length_drop, List.length_take]; rfl)) ?_; (with_reducible refine (impl_CountParking.calls k4 t453 t507 t508 _ A119.out).mono ?_); rintro e w122 ⟨rfl, hb⟩; refine ⟨_, rfl, ?_⟩; have n0_ := Aside0.mk (Kd.N_below (by (with_reducible repeat (first | apply Kd.N_alloc | apply Kd.N_drewN | apply Kd.N_drew)); exact HO_6.out) hb); have n1_ := Aside0.mk (Kd.N_below (by (with_reducible repeat (first | apply Kd.N_alloc | apply Kd.N_drewN | apply Kd.N_drew)); exact HO_200.out) hb); have n2_ := Aside0.mk (below_step (by repeat (first | (with_reducible first | exact HB.out | apply below_alloc | apply pw_below_drewN | apply below_drew1) | exact HB.out)) hb); clear HO_6; clear HO_200; clear HB; have HO_6 := n0_; have HO_200 := n1_; have HB := n2_; clear n0_ n1_ n2_; (try clear hb); (try clear hb2); (try clear hk); (try clear hi)) | ((with_reducible refine gate_callee (f := 30) rfl ?_); refine goesL_ (some 235) rfl rfl Try.func30 (by kernel_rfl) rfl #[.int .i64 t453] rfl (by (try simp only [List.map_toArray, List.map_cons, List.map_nil]); first | done | rfl | (simp only [List.length_drop, List.length_take]; rfl)) ?_; (with_reducible refine (impl_CountByDistance.calls k4 t453 t509 t510 _ A120.out).mono ?_); rintro e w123 ⟨v511, rfl, ho0, hb⟩; refine ⟨_, rfl, ?_⟩; have n0_ := Aside0.mk (Kd.N_elder' (by (with_reducible repeat (first | apply Kd.N_alloc | apply Kd.N_drewN | apply Kd.N_drew)); exact HO_6.out) (Kd.R_base ho0) hb); have n1_ := Aside0.mk (Kd.N_elder' (by (with_reducible repeat (first | apply Kd.N_alloc | apply Kd.N_drewN | apply Kd.N_drew)); exact HO_200.out) (Kd.R_base ho0) hb); have n2_ := Aside0.mk (Kd.R_lower ho0 (below_size (by repeat (first | (with_reducible first | exact HB.out | apply below_alloc | apply pw_below_drewN | apply below_drew1) | exact HB.out)))); have n3_ := Aside0.mk (below_step (by repeat (first | (with_reducible first | exact HB.out | apply below_alloc | apply pw_below_drewN | apply below_drew1) | exact HB.out)) hb); clear HO_6; clear HO_200; clear HB; have HO_6 := n0_; have HO_200 := n1_; have HO512 := n2_; have HB := n3_; clear n0_ n1_ n2_ n3_; (try clear hb); (try clear hb2); (try clear hk); (try clear hi); (try clear ho0)))
                   (try simp only [Act.put, List.setIfInBounds_toArray, List.set_cons_zero, List.set_cons_succ])
                   go_cut [248] (fun v248 wc => ∃ (kq : Nat) (x248_120 : Bool), v248 = .bool x248_120 ∧ Aside0 (laws_FnAreaAndPairsAlike.j6 kq t454 t509 x248_120 = some r) ∧ Aside0 (kq ≤ k4) ∧ Aside0 (Kd.N (Kd.slice 3 (Kd.int .i64)) 24 wc w.heap.size (fun k_ => some k_ ≠ (v511 : Value).ownBlock) (.slice Ao108 t454.length co108) t454) ∧ Aside0 (Kd.R (Kd.int .i64) 3 wc w.heap.size (fun _ => True) v511 t509) ∧ Aside0 (Below w.heap.size w wc))
                   case first =>
                    have H := HC121.out
                    clear HC121
                    by_cases c124 : t508 = true
                    ·subst c124
                     have H1 : (if t510 = true then (laws_FnAreaAndPairsAlike.j6 k4 t454 t509 (x30_4 != t507)) else (laws_FnAreaAndPairsAlike.j6 k4 t454 t509 true)) = some r := by rw [if_pos rfl] at H; exact H
                     clear H
                     have H := H1
                     clear H1
                     by_cases c125 : t510 = true
                     ·subst c125
                      have H1 : (laws_FnAreaAndPairsAlike.j6 k4 t454 t509 (x30_4 != t507)) = some r := by rw [if_pos rfl] at H; exact H
                      clear H
                      have H := H1
                      clear H1
                      have H' := Aside0.mk H
                      clear H
                      go_wp2
                      go_meet
                      case rel => exact ⟨_, ((x30_4 != t507)), (by first | rfl | (simp; done) | (simp [*]; done)), H', ⟨by have := HJ7.out; have := HJ21.out; have := HJ42.out; have := HK4.out; first | omega | exact Nat.le_refl _⟩, ⟨by (with_reducible repeat (first | apply Kd.N_alloc | apply Kd.N_drewN | apply Kd.N_drew)); exact Kd.N_mono HO_6.out (fun _ hk => hk.2)⟩, ⟨by (with_reducible repeat (first | apply Kd.R_alloc | apply Kd.R_drewN | apply Kd.R_drew)); exact HO512.out⟩, ⟨by repeat (first | (with_reducible first | exact HB.out | apply below_alloc | apply pw_below_drewN | apply below_drew1) | exact HB.out)⟩⟩
                     ·replace c125 := Bool.eq_false_iff.mpr c125
                      subst c125
                      have H1 : (laws_FnAreaAndPairsAlike.j6 k4 t454 t509 true) = some r := by rw [if_neg (show ¬ (false = true) by decide)] at H; exact H
                      clear H
                      have H := H1
                      clear H1
                      have H' := Aside0.mk H
                      clear H
                      go_wp2
                      go_meet
                      case rel => exact ⟨_, (true), (by first | rfl | (simp; done) | (simp [*]; done)), H', ⟨by have := HJ7.out; have := HJ21.out; have := HJ42.out; have := HK4.out; first | omega | exact Nat.le_refl _⟩, ⟨by (with_reducible repeat (first | apply Kd.N_alloc | apply Kd.N_drewN | apply Kd.N_drew)); exact Kd.N_mono HO_6.out (fun _ hk => hk.2)⟩, ⟨by (with_reducible repeat (first | apply Kd.R_alloc | apply Kd.R_drewN | apply Kd.R_drew)); exact HO512.out⟩, ⟨by repeat (first | (with_reducible first | exact HB.out | apply below_alloc | apply pw_below_drewN | apply below_drew1) | exact HB.out)⟩⟩
                    ·replace c124 := Bool.eq_false_iff.mpr c124
                     subst c124
                     have H1 : (laws_FnAreaAndPairsAlike.j6 k4 t454 t509 true) = some r := by rw [if_neg (show ¬ (false = true) by decide)] at H; exact H
                     clear H
                     have H := H1
                     clear H1
                     have H' := Aside0.mk H
                     clear H
                     go_wp2
                     go_meet
                     case rel => exact ⟨_, (true), (by first | rfl | (simp; done) | (simp [*]; done)), H', ⟨by have := HJ7.out; have := HJ21.out; have := HJ42.out; have := HK4.out; first | omega | exact Nat.le_refl _⟩, ⟨by (with_reducible repeat (first | apply Kd.N_alloc | apply Kd.N_drewN | apply Kd.N_drew)); exact Kd.N_mono HO_6.out (fun _ hk => hk.2)⟩, ⟨by (with_reducible repeat (first | apply Kd.R_alloc | apply Kd.R_drewN | apply Kd.R_drew)); exact HO512.out⟩, ⟨by repeat (first | (with_reducible first | exact HB.out | apply below_alloc | apply pw_below_drewN | apply below_drew1) | exact HB.out)⟩⟩
                   case rest =>
                    clear HC121
                    try clear c1
                    try clear c2
                    try clear p2
                    try clear c3
                    try clear c4
                    try clear p4
                    try clear q4
                    try clear hx4
                    try clear c5
                    try clear p5
                    try clear q5
                    try clear hx5
                    try clear c6
                    try clear p6
                    try clear c7
                    try clear p7
                    try clear q7
                    try clear hx7
                    try clear hf7
                    try clear c8
                    try clear p8
                    try clear q8
                    try clear hx8
                    try clear hf8
                    try clear c9
                    try clear c10
                    try clear c11
                    try clear c12
                    try clear c12b0
                    try clear c12b1
                    try clear c12b2
                    try clear c16
                    try clear c17
                    try clear c18
                    try clear c19
                    try clear c20
                    try clear c21
                    try clear c22
                    try clear c23
                    try clear c24
                    try clear c25
                    try clear c26
                    try clear c26b0
                    try clear c26b1
                    try clear c26b2
                    try clear c28
                    try clear c29
                    try clear c29b0
                    try clear c29b1
                    try clear c29b2
                    try clear c30
                    try clear c32
                    try clear c32b0
                    try clear c32b1
                    try clear c33
                    try clear c42
                    try clear c44
                    try clear c45
                    try clear c45b0
                    try clear c45b1
                    try clear c48
                    try clear p48
                    try clear q48
                    try clear hx48
                    try clear p49
                    try clear q49
                    try clear hx49
                    try clear c50
                    try clear p50
                    try clear q50
                    try clear hx50
                    try clear c53
                    try clear c53b0
                    try clear c53b1
                    try clear c54
                    try clear c54b0
                    try clear c55
                    try clear c55b0
                    try clear c58
                    try clear c59
                    try clear c60
                    try clear c60b0
                    try clear c61
                    try clear c61b0
                    try clear c62
                    try clear c62b0
                    try clear c64
                    try clear c64b0
                    try clear p64
                    try clear c65
                    try clear c65b0
                    try clear c67
                    try clear c69
                    try clear c69b0
                    try clear c70
                    try clear c70b0
                    try clear p71
                    try clear q71
                    try clear hx71
                    try clear hf71
                    try clear c72
                    try clear c72b0
                    try clear c73
                    try clear c73b0
                    try clear p74
                    try clear q74
                    try clear hx74
                    try clear hf74
                    try clear c82
                    try clear c82b0
                    try clear c83
                    try clear c83b0
                    try clear p84
                    try clear q84
                    try clear hx84
                    try clear hf84
                    try clear c85
                    try clear c85b0
                    try clear c86
                    try clear c86b0
                    try clear p87
                    try clear q87
                    try clear hx87
                    try clear hf87
                    try clear c95
                    try clear c96
                    try clear c96b0
                    try clear c96b1
                    try clear c98
                    try clear c107
                    try clear c109
                    try clear c109b0
                    try clear c110
                    try clear c110b0
                    try clear c111
                    try clear c111b0
                    try clear c112
                    try clear c112b0
                    try clear c113
                    try clear c113b0
                    try clear c114
                    try clear c114b0
                    try clear c115
                    try clear c115b0
                    try clear c116
                    try clear c116b0
                    try clear c117
                    try clear c117b0
                    try clear c118
                    try clear c118b0
                    try clear c118b1
                    try clear c124
                    try clear c125
                    try clear hx483_0
                    try clear hx488_0
                    try clear hx491_0
                    try clear hx493_0
                    try clear hx496_0
                    try clear hx498_0
                    try clear hx503_0
                    try clear hx504_0
                    try clear hx505_0
                    try clear hx506_0
                    try clear hx71_0
                    try clear hx74_0
                    try clear hx84_0
                    try clear hx87_0
                    try clear p2
                    try clear p4
                    try clear p48
                    try clear p483
                    try clear p488
                    try clear p49
                    try clear p491
                    try clear p493
                    try clear p496
                    try clear p498
                    try clear p5
                    try clear p50
                    try clear p503
                    try clear p504
                    try clear p505
                    try clear p506
                    try clear p6
                    try clear p64
                    try clear p7
                    try clear p71
                    try clear p74
                    try clear p8
                    try clear p84
                    try clear p87
                    try clear q4
                    try clear q48
                    try clear q483
                    try clear q488
                    try clear q49
                    try clear q491
                    try clear q493
                    try clear q496
                    try clear q498
                    try clear q5
                    try clear q50
                    try clear q503
                    try clear q504
                    try clear q505
                    try clear q506
                    try clear q7
                    try clear q71
                    try clear q74
                    try clear q8
                    try clear q84
                    try clear q87
                    obtain ⟨kq, x248_120, rfl, HA, HJ120, HO_6, HO_37, HB⟩ := hcut
                    cases kq with
                    | zero => exact absurd HA.out (by simp [laws_FnAreaAndPairsAlike.j6])
                    | succ kj120 =>
                     have H := HA.out
                     clear HA
                     simp only [laws_FnAreaAndPairsAlike.j6] at H
                     by_cases c126 : x248_120 = true
                     ·subst c126
                      have H1 : (some false) = some r := by rw [if_pos rfl] at H; exact H
                      clear H
                      have H := H1
                      clear H1
                      obtain rfl := Option.some.inj H
                      go_wp2
                      go_ret
                      exact ⟨by first | rfl | (simp [errW_none, errW_some] <;> rfl) | (simp [*, errW_none, errW_some] <;> rfl), by repeat (first | (with_reducible first | exact HB.out | apply below_alloc | apply pw_below_drewN | apply below_drew1) | exact HB.out)⟩
                     ·as_aux_lemma =>
                       replace c126 := Bool.eq_false_iff.mpr c126
                       subst c126
                       have H1 : (laws_FnAreaAndPairsAlike.l3 kj120 t509 t454 (t454.length : Int) 0) = some r := by rw [if_neg (show ¬ (false = true) by decide)] at H; exact H
                       clear H
                       have H := H1
                       clear H1
                       have H' := Aside0.mk H
                       clear H
                       go_wp2
                       go_loopg [251] kj120 (fun kq v251 w' => ∃ (x251_6 : Int), v251 = .int .i64 x251_6 ∧ Aside0 (laws_FnAreaAndPairsAlike.l3 kq t509 t454 (t454.length : Int) x251_6 = some r) ∧ Aside0 (kq ≤ kj120) ∧ Aside0 (Kd.R (Kd.int .i64) 3 w' w.heap.size (fun _ => True) v511 t509) ∧ Aside0 (Kd.N (Kd.slice 3 (Kd.int .i64)) 24 w' w.heap.size (fun k_ => some k_ ≠ (v511 : Value).ownBlock) (.slice Ao108 t454.length co108) t454) ∧ Aside0 (Below w.heap.size w w'))
                       case atStart => exact ⟨(0), (by first | rfl | (simp; done) | (simp [*]; done)), H', ⟨Nat.le_refl _⟩, ⟨by (with_reducible repeat (first | apply Kd.R_alloc | apply Kd.R_drewN | apply Kd.R_drew)); exact HO_37.out⟩, ⟨by (with_reducible repeat (first | apply Kd.N_alloc | apply Kd.N_drewN | apply Kd.N_drew)); exact HO_6.out⟩, ⟨by repeat (first | (with_reducible first | exact HB.out | apply below_alloc | apply pw_below_drewN | apply below_drew1) | exact HB.out)⟩⟩
                       case round =>
                        clear H'
                        try clear c1
                        try clear c2
                        try clear p2
                        try clear c3
                        try clear c4
                        try clear p4
                        try clear q4
                        try clear hx4
                        try clear c5
                        try clear p5
                        try clear q5
                        try clear hx5
                        try clear c6
                        try clear p6
                        try clear c7
                        try clear p7
                        try clear q7
                        try clear hx7
                        try clear hf7
                        try clear c8
                        try clear p8
                        try clear q8
                        try clear hx8
                        try clear hf8
                        try clear c9
                        try clear c10
                        try clear c11
                        try clear c12
                        try clear c12b0
                        try clear c12b1
                        try clear c12b2
                        try clear c16
                        try clear c17
                        try clear c18
                        try clear c19
                        try clear c20
                        try clear c21
                        try clear c22
                        try clear c23
                        try clear c24
                        try clear c25
                        try clear c26
                        try clear c26b0
                        try clear c26b1
                        try clear c26b2
                        try clear c28
                        try clear c29
                        try clear c29b0
                        try clear c29b1
                        try clear c29b2
                        try clear c30
                        try clear c32
                        try clear c32b0
                        try clear c32b1
                        try clear c33
                        try clear c42
                        try clear c44
                        try clear c45
                        try clear c45b0
                        try clear c45b1
                        try clear c48
                        try clear p48
                        try clear q48
                        try clear hx48
                        try clear p49
                        try clear q49
                        try clear hx49
                        try clear c50
                        try clear p50
                        try clear q50
                        try clear hx50
                        try clear c53
                        try clear c53b0
                        try clear c53b1
                        try clear c54
                        try clear c54b0
                        try clear c55
                        try clear c55b0
                        try clear c58
                        try clear c59
                        try clear c60
                        try clear c60b0
                        try clear c61
                        try clear c61b0
                        try clear c62
                        try clear c62b0
                        try clear c64
                        try clear c64b0
                        try clear p64
                        try clear c65
                        try clear c65b0
                        try clear c67
                        try clear c69
                        try clear c69b0
                        try clear c70
                        try clear c70b0
                        try clear p71
                        try clear q71
                        try clear hx71
                        try clear hf71
                        try clear c72
                        try clear c72b0
                        try clear c73
                        try clear c73b0
                        try clear p74
                        try clear q74
                        try clear hx74
                        try clear hf74
                        try clear c82
                        try clear c82b0
                        try clear c83
                        try clear c83b0
                        try clear p84
                        try clear q84
                        try clear hx84
                        try clear hf84
                        try clear c85
                        try clear c85b0
                        try clear c86
                        try clear c86b0
                        try clear p87
                        try clear q87
                        try clear hx87
                        try clear hf87
                        try clear c95
                        try clear c96
                        try clear c96b0
                        try clear c96b1
                        try clear c98
                        try clear c107
                        try clear c109
                        try clear c109b0
                        try clear c110
                        try clear c110b0
                        try clear c111
                        try clear c111b0
                        try clear c112
                        try clear c112b0
                        try clear c113
                        try clear c113b0
                        try clear c114
                        try clear c114b0
                        try clear c115
                        try clear c115b0
                        try clear c116
                        try clear c116b0
                        try clear c117
                        try clear c117b0
                        try clear c118
                        try clear c118b0
                        try clear c118b1
                        try clear c124
                        try clear c125
                        try clear c126
                        try clear hx483_0
                        try clear hx488_0
                        try clear hx491_0
                        try clear hx493_0
                        try clear hx496_0
                        try clear hx498_0
                        try clear hx503_0
                        try clear hx504_0
                        try clear hx505_0
                        try clear hx506_0
                        try clear hx71_0
                        try clear hx74_0
                        try clear hx84_0
                        try clear hx87_0
                        try clear p2
                        try clear p4
                        try clear p48
                        try clear p483
                        try clear p488
                        try clear p49
                        try clear p491
                        try clear p493
                        try clear p496
                        try clear p498
                        try clear p5
                        try clear p50
                        try clear p503
                        try clear p504
                        try clear p505
                        try clear p506
                        try clear p6
                        try clear p64
                        try clear p7
                        try clear p71
                        try clear p74
                        try clear p8
                        try clear p84
                        try clear p87
                        try clear q4
                        try clear q48
                        try clear q483
                        try clear q488
                        try clear q49
                        try clear q491
                        try clear q493
                        try clear q496
                        try clear q498
                        try clear q5
                        try clear q50
                        try clear q503
                        try clear q504
                        try clear q505
                        try clear q506
                        try clear q7
                        try clear q71
                        try clear q74
                        try clear q8
                        try clear q84
                        try clear q87
                        obtain ⟨x251_6, rfl, HA, HK6, HO_37, HO_249, HB⟩ := hrel
                        cases gk with
                        | zero => exact absurd HA.out (by simp [laws_FnAreaAndPairsAlike.l3])
                        | succ k6 =>
                         have H := HA.out
                         clear HA
                         simp only [laws_FnAreaAndPairsAlike.l3] at H
                         by_cases c127 : x251_6 < (t454.length : Int)
                         ·as_aux_lemma =>
                           rw [if_pos c127] at H
                           have c127b0 : decide (x251_6 < (t454.length : Int)) = true := decide_eq_true c127
                           clear c127
                           by_cases c128 : 0 ≤ x251_6
                           ·as_aux_lemma =>
                             rw [if_pos c128] at H
                             have c128b0 : decide (0 ≤ x251_6) = true := decide_eq_true c128
                             clear c128
                             by_cases c129 : x251_6 < (t454.length : Int)
                             ·as_aux_lemma =>
                               rw [if_pos c129] at H
                               have c129b0 : decide (x251_6 < (t454.length : Int)) = true := decide_eq_true c129
                               clear c129
                               replace H := Option.bind_eq_some_iff.mp H
                               obtain ⟨t514, A1300, H⟩ := H
                               replace H : (if x251_6 < (t509.length : Int) then (if t514 = (rd t509 x251_6) then (laws_FnAreaAndPairsAlike.l3 k6 t509 t454 (t454.length : Int) (wrap64 (x251_6 + 1))) else (some false)) else (none)) = some r := H
                               have A130 := Aside0.mk A1300
                               clear A1300
                               by_cases c131 : x251_6 < (t509.length : Int)
                               ·as_aux_lemma =>
                                 rw [if_pos c131] at H
                                 have c131b0 : decide (x251_6 < (t509.length : Int)) = true := decide_eq_true c131
                                 clear c131
                                 by_cases c132 : t514 = (rd t509 x251_6)
                                 ·as_aux_lemma =>
                                   rw [if_pos c132] at H
                                   have c132b0 : (t514 == (rd t509 x251_6)) = true := beq_iff_eq.mpr c132
                                   have c132b1 : (t514 != (rd t509 x251_6)) = false := bne_eq_false_iff_eq.mpr c132
                                   clear c132
                                   have H' := Aside0.mk H
                                   clear H
                                   have p513 : 0 ≤ (x251_6 : Int) := of_decide_eq_true (by first | (with_reducible assumption) | assumption)
                                   have q513 : x251_6 < (t454.length : Int) := of_decide_eq_true (by first | (with_reducible assumption) | assumption)
                                   obtain ⟨ad513, A513_0, c513_0, e513, hx513_0, hl513_0, hi513_0⟩ := at_L2 (Kd.N_reads' HO_249.out).2.2 x251_6 p513 q513
                                   cases e513
                                   obtain ⟨ce513, hce513, hMe513, hcc513⟩ := Kd.N_get HO_249.out [] x251_6 p513 (by first | exact q513 | exact of_decide_eq_true (by first | (with_reducible assumption) | assumption) | (have e_ := (Kd.N_reads' HO_249.out).1; omega))
                                   obtain ⟨ua513_0, uc513_0, rfl, ul513_0, ge513_0⟩ := Kd.FK_slice_open hMe513
                                   have hv513_0 := hcc513 0 _ rfl
                                   rw [Nat.add_zero, show ((Kd.slice 3 (Kd.int .i64))).sz = 1 from rfl, Nat.mul_one] at hv513_0
                                   replace hv513_0 := Option.some.inj (hv513_0.symm.trans hx513_0)
                                   injection hv513_0 with hva_ hvn_ hvc_
                                   rw [hva_] at ge513_0
                                   rw [hvc_] at ul513_0
                                   have HL513_0 := Aside0.mk (show Kd.V (Kd.int .i64) 3 _ w.heap.size _ _ (rd_L2 t454 x251_6) from Kd.V_mk ul513_0 ge513_0)
                                   clear hva_ hvn_ hvc_ ge513_0 ul513_0
                                   clear hcc513 hce513
                                   have HR513_0 := Aside0.mk hi513_0
                                   have HC513_0 := Aside0.mk hl513_0
                                   clear hi513_0 hl513_0
                                   replace p513 := eq_true p513
                                   replace q513 := eq_true q513
                                   try go_wp2
                                   have n0_ := Aside0.mk (Kd.R_drew HO_37.out)
                                   have n1_ := Aside0.mk (Kd.N_drew HO_249.out)
                                   have n2_ := Aside0.mk (Kd.V_drew HL513_0.out)
                                   have n3_ := Aside0.mk (Kd.C_drew HR513_0.out)
                                   have n4_ := Aside0.mk (below_drew1 HB.out)
                                   clear HO_37
                                   clear HO_249
                                   clear HL513_0
                                   clear HR513_0
                                   clear HB
                                   have HO_37 := n0_
                                   have HO_249 := n1_
                                   have HL513_0 := n2_
                                   have HR513_0 := n3_
                                   have HB := n4_
                                   clear n0_ n1_ n2_ n3_ n4_
                                   obtain ⟨Ao134, co134, eo134⟩ := Kd.R_slice HO_37.out
                                   (first | subst eo134 | (injection eo134 with f1_ f2_ f3_; have f4_ := f1_.symm; have f5_ := f3_.symm; clear f1_ f2_ f3_; subst f4_; subst f5_))
                                   have p515 : 0 ≤ (x251_6 : Int) := of_decide_eq_true (by first | (with_reducible assumption) | assumption)
                                   have q515 : x251_6 < (t509.length : Int) := of_decide_eq_true (by first | (with_reducible assumption) | assumption)
                                   obtain ⟨ad515, e515, hx515_0⟩ := Kd.at_int (Kd.R_reads' HO_37.out).2.2 x251_6 p515 q515
                                   cases e515
                                   replace p515 := eq_true p515
                                   replace q515 := eq_true q515
                                   refine start_ (n := 7) (S := fun w' => w'.cell? (ad515.add (x251_6).toNat) = some (.int .i64 (rd t509 x251_6))) (ds := []) #[false, false, false, false, false, false, false] (by kernel_rfl) rfl rfl (hx515_0) (fun hHeld => ?_)
                                   generalize wr.drew = w133 at HO_37 HO_249 HL513_0 HR513_0 HB hx515_0 hHeld ⊢
                                   refine pure_ (i := 0) (N := some 256) (v := ?_) (a' := ?_) #[true, false, false, false, false, false, false] rfl rfl (by kernel_rfl) (fun _ _ _ h => h) (Or.inl ⟨by rfl, ?_⟩) ?_ ?_
                                   rotate_left
                                   ·intro w'
                                    go_simp
                                    with_reducible rfl
                                   rotate_left
                                   ·simp only [Act.put, List.setIfInBounds_toArray, List.set_cons_zero, List.set_cons_succ, i64_w, i32_w]
                                    rfl
                                   refine pure_ (i := 2) (N := some 258) (v := ?_) (a' := ?_) #[true, false, true, false, false, false, false] rfl rfl (by kernel_rfl) (fun _ _ _ h => h) (Or.inl ⟨by rfl, ?_⟩) ?_ ?_
                                   rotate_left
                                   ·intro w'
                                    go_simp
                                    with_reducible rfl
                                   rotate_left
                                   ·simp only [Act.put, List.setIfInBounds_toArray, List.set_cons_zero, List.set_cons_succ, i64_w, i32_w]
                                    rfl
                                   refine pure_ (i := 3) (N := some 259) (v := ?_) (a' := ?_) #[true, false, true, true, false, false, false] rfl rfl (by kernel_rfl) (fun _ _ _ h => h) (Or.inl ⟨by rfl, ?_⟩) ?_ ?_
                                   rotate_left
                                   ·intro w'
                                    go_simp
                                    with_reducible rfl
                                   rotate_left
                                   ·simp only [Act.put, List.setIfInBounds_toArray, List.set_cons_zero, List.set_cons_succ, i64_w, i32_w]
                                    rfl
                                   refine pure_ (i := 4) (N := some 260) (v := ?_) (a' := ?_) #[true, false, true, true, true, false, false] rfl rfl (by kernel_rfl) (fun _ _ _ h => h) (Or.inl ⟨by rfl, ?_⟩) ?_ ?_
                                   rotate_left
                                   ·intro w'
                                    go_simp
                                    with_reducible rfl
                                   rotate_left
                                   ·simp only [Act.put, List.setIfInBounds_toArray, List.set_cons_zero, List.set_cons_succ, i64_w, i32_w]
                                    rfl
                                   refine take_ (i := 5) (N := some 261) (v := ?_) (a' := ?_) #[true, false, true, true, true, true, false] rfl rfl (by kernel_rfl) (fun _ _ _ h => h) (Or.inl ⟨by rfl, ?_⟩) hHeld ?_ ?_
                                   rotate_left
                                   ·intro w' s0
                                    go_simp
                                    with_reducible rfl
                                   rotate_left
                                   ·simp only [Act.put, List.setIfInBounds_toArray, List.set_cons_zero, List.set_cons_succ, i64_w, i32_w]
                                    rfl
                                   refine one_ (i := 1) (N := some 257) #[true, true, true, true, true, true, false] rfl rfl (by kernel_rfl) (by decide) (fun K hK => ?_)
                                   refine goes_ Try.func28 (by kernel_rfl) rfl #[.slice A513_0 (rd_L2 t454 x251_6).length c513_0] (by rfl) rfl rfl (by (try simp only [List.map_toArray, List.map_cons, List.map_nil]); first | done | rfl | (simp only [List.length_drop, List.length_take]; rfl)) ?_
                                   with_reducible refine (laws_wSum.calls k6 _ _ (rd_L2 t454 x251_6) t514 _ ?side1 ?side2 A130.out).mono ?_
                                   (case side1 => repeat (first | exact (by repeat (first | (with_reducible exact HR513_0.out) | (with_reducible refine Kd.C_alloc ?_ _) | (with_reducible refine Kd.C_drewN ?_ _) | (with_reducible refine Kd.C_drew ?_) | exact HR513_0.out)) | (with_reducible refine Kd.C_alloc ?_ _) | (with_reducible refine Kd.C_drewN ?_ _) | (with_reducible refine Kd.C_drew ?_)))
                                   (case side2 => exact HC513_0.out)
                                   rintro e w' ⟨rfl, ⟨nd, rfl⟩⟩
                                   refine ⟨_, rfl, ?_⟩
                                   refine hK.out _ _ (hHeld) (fun hHeld => ?_)
                                   clear hK K
                                   refine norm_ (a' := ?_) ?_ ?_
                                   rotate_left
                                   ·show Act.put _ (some 257) _ = _
                                    simp only [Act.put, List.setIfInBounds_toArray, List.set_cons_zero, List.set_cons_succ, i64_w, i32_w]
                                    rfl
                                   refine pure_ (i := 6) (N := some 262) (v := ?_) (a' := ?_) #[true, true, true, true, true, true, true] rfl rfl (by kernel_rfl) (fun _ _ _ h => h) (Or.inl ⟨by rfl, ?_⟩) ?_ ?_
                                   rotate_left
                                   ·intro w'
                                    go_simp
                                    with_reducible rfl
                                   rotate_left
                                   ·simp only [Act.put, List.setIfInBounds_toArray, List.set_cons_zero, List.set_cons_succ, i64_w, i32_w]
                                    rfl
                                   refine done_ (by kernel_rfl) ?_
                                   try go_wp2
                                   go_roundg k6
                                   case measure => have := HJ7.out; have := HJ21.out; have := HJ42.out; have := HK4.out; have := HJ120.out; have := HK6.out; omega
                                   case rel => exact ⟨(wrap64 (x251_6 + 1)), (by first | rfl | (simp; done) | (simp [*]; done)), H', ⟨by have := HJ7.out; have := HJ21.out; have := HJ42.out; have := HK4.out; have := HJ120.out; have := HK6.out; omega⟩, ⟨by (with_reducible repeat (first | apply Kd.R_alloc | apply Kd.R_drewN | apply Kd.R_drew)); exact HO_37.out⟩, ⟨by (with_reducible repeat (first | apply Kd.N_alloc | apply Kd.N_drewN | apply Kd.N_drew)); exact HO_249.out⟩, ⟨by repeat (first | (with_reducible first | exact HB.out | apply below_alloc | apply pw_below_drewN | apply below_drew1) | exact HB.out)⟩⟩
                                 ·as_aux_lemma =>
                                   rw [if_neg c132] at H
                                   have c132b0 : (t514 == (rd t509 x251_6)) = false := beq_eq_false_iff_ne.mpr c132
                                   have c132b1 : (t514 != (rd t509 x251_6)) = true := bne_iff_ne.mpr c132
                                   obtain rfl := Option.some.inj H
                                   have p513 : 0 ≤ (x251_6 : Int) := of_decide_eq_true (by first | (with_reducible assumption) | assumption)
                                   have q513 : x251_6 < (t454.length : Int) := of_decide_eq_true (by first | (with_reducible assumption) | assumption)
                                   obtain ⟨ad513, A513_0, c513_0, e513, hx513_0, hl513_0, hi513_0⟩ := at_L2 (Kd.N_reads' HO_249.out).2.2 x251_6 p513 q513
                                   cases e513
                                   obtain ⟨ce513, hce513, hMe513, hcc513⟩ := Kd.N_get HO_249.out [] x251_6 p513 (by first | exact q513 | exact of_decide_eq_true (by first | (with_reducible assumption) | assumption) | (have e_ := (Kd.N_reads' HO_249.out).1; omega))
                                   obtain ⟨ua513_0, uc513_0, rfl, ul513_0, ge513_0⟩ := Kd.FK_slice_open hMe513
                                   have hv513_0 := hcc513 0 _ rfl
                                   rw [Nat.add_zero, show ((Kd.slice 3 (Kd.int .i64))).sz = 1 from rfl, Nat.mul_one] at hv513_0
                                   replace hv513_0 := Option.some.inj (hv513_0.symm.trans hx513_0)
                                   injection hv513_0 with hva_ hvn_ hvc_
                                   rw [hva_] at ge513_0
                                   rw [hvc_] at ul513_0
                                   have HL513_0 := Aside0.mk (show Kd.V (Kd.int .i64) 3 _ w.heap.size _ _ (rd_L2 t454 x251_6) from Kd.V_mk ul513_0 ge513_0)
                                   clear hva_ hvn_ hvc_ ge513_0 ul513_0
                                   clear hcc513 hce513
                                   have HR513_0 := Aside0.mk hi513_0
                                   have HC513_0 := Aside0.mk hl513_0
                                   clear hi513_0 hl513_0
                                   replace p513 := eq_true p513
                                   replace q513 := eq_true q513
                                   try go_wp2
                                   have n0_ := Aside0.mk (Kd.R_drew HO_37.out)
                                   have n1_ := Aside0.mk (Kd.N_drew HO_249.out)
                                   have n2_ := Aside0.mk (Kd.V_drew HL513_0.out)
                                   have n3_ := Aside0.mk (Kd.C_drew HR513_0.out)
                                   have n4_ := Aside0.mk (below_drew1 HB.out)
                                   clear HO_37
                                   clear HO_249
                                   clear HL513_0
                                   clear HR513_0
                                   clear HB
                                   have HO_37 := n0_
                                   have HO_249 := n1_
                                   have HL513_0 := n2_
                                   have HR513_0 := n3_
                                   have HB := n4_
                                   clear n0_ n1_ n2_ n3_ n4_
                                   obtain ⟨Ao136, co136, eo136⟩ := Kd.R_slice HO_37.out
                                   (first | subst eo136 | (injection eo136 with f1_ f2_ f3_; have f4_ := f1_.symm; have f5_ := f3_.symm; clear f1_ f2_ f3_; subst f4_; subst f5_))
                                   have p515 : 0 ≤ (x251_6 : Int) := of_decide_eq_true (by first | (with_reducible assumption) | assumption)
                                   have q515 : x251_6 < (t509.length : Int) := of_decide_eq_true (by first | (with_reducible assumption) | assumption)
                                   obtain ⟨ad515, e515, hx515_0⟩ := Kd.at_int (Kd.R_reads' HO_37.out).2.2 x251_6 p515 q515
                                   cases e515
                                   replace p515 := eq_true p515
                                   replace q515 := eq_true q515
                                   refine start_ (n := 7) (S := fun w' => w'.cell? (ad515.add (x251_6).toNat) = some (.int .i64 (rd t509 x251_6))) (ds := []) #[false, false, false, false, false, false, false] (by kernel_rfl) rfl rfl (hx515_0) (fun hHeld => ?_)
                                   generalize wr.drew = w135 at HO_37 HO_249 HL513_0 HR513_0 HB hx515_0 hHeld ⊢
                                   refine pure_ (i := 0) (N := some 256) (v := ?_) (a' := ?_) #[true, false, false, false, false, false, false] rfl rfl (by kernel_rfl) (fun _ _ _ h => h) (Or.inl ⟨by rfl, ?_⟩) ?_ ?_
                                   rotate_left
                                   ·intro w'
                                    go_simp
                                    with_reducible rfl
                                   rotate_left
                                   ·simp only [Act.put, List.setIfInBounds_toArray, List.set_cons_zero, List.set_cons_succ, i64_w, i32_w]
                                    rfl
                                   refine pure_ (i := 2) (N := some 258) (v := ?_) (a' := ?_) #[true, false, true, false, false, false, false] rfl rfl (by kernel_rfl) (fun _ _ _ h => h) (Or.inl ⟨by rfl, ?_⟩) ?_ ?_
                                   rotate_left
                                   ·intro w'
                                    go_simp
                                    with_reducible rfl
                                   rotate_left
                                   ·simp only [Act.put, List.setIfInBounds_toArray, List.set_cons_zero, List.set_cons_succ, i64_w, i32_w]
                                    rfl
                                   refine pure_ (i := 3) (N := some 259) (v := ?_) (a' := ?_) #[true, false, true, true, false, false, false] rfl rfl (by kernel_rfl) (fun _ _ _ h => h) (Or.inl ⟨by rfl, ?_⟩) ?_ ?_
                                   rotate_left
                                   ·intro w'
                                    go_simp
                                    with_reducible rfl
                                   rotate_left
                                   ·simp only [Act.put, List.setIfInBounds_toArray, List.set_cons_zero, List.set_cons_succ, i64_w, i32_w]
                                    rfl
                                   refine pure_ (i := 4) (N := some 260) (v := ?_) (a' := ?_) #[true, false, true, true, true, false, false] rfl rfl (by kernel_rfl) (fun _ _ _ h => h) (Or.inl ⟨by rfl, ?_⟩) ?_ ?_
                                   rotate_left
                                   ·intro w'
                                    go_simp
                                    with_reducible rfl
                                   rotate_left
                                   ·simp only [Act.put, List.setIfInBounds_toArray, List.set_cons_zero, List.set_cons_succ, i64_w, i32_w]
                                    rfl
                                   refine take_ (i := 5) (N := some 261) (v := ?_) (a' := ?_) #[true, false, true, true, true, true, false] rfl rfl (by kernel_rfl) (fun _ _ _ h => h) (Or.inl ⟨by rfl, ?_⟩) hHeld ?_ ?_
                                   rotate_left
                                   ·intro w' s0
                                    go_simp
                                    with_reducible rfl
                                   rotate_left
                                   ·simp only [Act.put, List.setIfInBounds_toArray, List.set_cons_zero, List.set_cons_succ, i64_w, i32_w]
                                    rfl
                                   refine one_ (i := 1) (N := some 257) #[true, true, true, true, true, true, false] rfl rfl (by kernel_rfl) (by decide) (fun K hK => ?_)
                                   refine goes_ Try.func28 (by kernel_rfl) rfl #[.slice A513_0 (rd_L2 t454 x251_6).length c513_0] (by rfl) rfl rfl (by (try simp only [List.map_toArray, List.map_cons, List.map_nil]); first | done | rfl | (simp only [List.length_drop, List.length_take]; rfl)) ?_
                                   with_reducible refine (laws_wSum.calls k6 _ _ (rd_L2 t454 x251_6) t514 _ ?side1 ?side2 A130.out).mono ?_
                                   (case side1 => repeat (first | exact (by repeat (first | (with_reducible exact HR513_0.out) | (with_reducible refine Kd.C_alloc ?_ _) | (with_reducible refine Kd.C_drewN ?_ _) | (with_reducible refine Kd.C_drew ?_) | exact HR513_0.out)) | (with_reducible refine Kd.C_alloc ?_ _) | (with_reducible refine Kd.C_drewN ?_ _) | (with_reducible refine Kd.C_drew ?_)))
                                   (case side2 => exact HC513_0.out)
                                   rintro e w' ⟨rfl, ⟨nd, rfl⟩⟩
                                   refine ⟨_, rfl, ?_⟩
                                   refine hK.out _ _ (hHeld) (fun hHeld => ?_)
                                   clear hK K
                                   refine norm_ (a' := ?_) ?_ ?_
                                   rotate_left
                                   ·show Act.put _ (some 257) _ = _
                                    simp only [Act.put, List.setIfInBounds_toArray, List.set_cons_zero, List.set_cons_succ, i64_w, i32_w]
                                    rfl
                                   refine pure_ (i := 6) (N := some 262) (v := ?_) (a' := ?_) #[true, true, true, true, true, true, true] rfl rfl (by kernel_rfl) (fun _ _ _ h => h) (Or.inl ⟨by rfl, ?_⟩) ?_ ?_
                                   rotate_left
                                   ·intro w'
                                    go_simp
                                    with_reducible rfl
                                   rotate_left
                                   ·simp only [Act.put, List.setIfInBounds_toArray, List.set_cons_zero, List.set_cons_succ, i64_w, i32_w]
                                    rfl
                                   refine done_ (by kernel_rfl) ?_
                                   try go_wp2
                                   go_ret
                                   exact ⟨by first | rfl | (simp [errW_none, errW_some] <;> rfl) | (simp [*, errW_none, errW_some] <;> rfl), by repeat (first | (with_reducible first | exact HB.out | apply below_alloc | apply pw_below_drewN | apply below_drew1) | exact HB.out)⟩
                               ·rw [if_neg c131] at H
                                exact absurd H (by simp)
                             ·rw [if_neg c129] at H
                              exact absurd H (by simp)
                           ·rw [if_neg c128] at H
                            exact absurd H (by simp)
                         ·rw [if_neg c127] at H
                          have c127b0 : decide (x251_6 < (t454.length : Int)) = false := decide_eq_false c127
                          clear c127
                          obtain rfl := Option.some.inj H
                          go_wp2
                          go_ret
                          exact ⟨by first | rfl | (simp [errW_none, errW_some] <;> rfl) | (simp [*, errW_none, errW_some] <;> rfl), by repeat (first | (with_reducible first | exact HB.out | apply below_alloc | apply pw_below_drewN | apply below_drew1) | exact HB.out)⟩
             ·replace c107 := Bool.eq_false_iff.mpr c107
              subst c107
              have H1 : (some true) = some r := by rw [if_neg (show ¬ (false = true) by decide)] at H; exact H
              clear H
              have H := H1
              clear H1
              obtain rfl := Option.some.inj H
              go_wp2
              go_ret
              exact ⟨by first | rfl | (simp [errW_none, errW_some] <;> rfl) | (simp [*, errW_none, errW_some] <;> rfl), by repeat (first | (with_reducible first | exact HB.out | apply below_alloc | apply pw_below_drewN | apply below_drew1) | exact HB.out)⟩

/-- THE ONE PURE STATEMENT of laws_FnAreaAndPairsAlike: yours. -/
def laws_FnAreaAndPairsAlike.Pure : Prop := ∀ (l0 : List Int) (l1 : List Int), l0.length ≤ maxLen → l0.length * 1 ≤ 140737488351232 → (∀ x ∈ l0, (Lit.int .u8 x).wf = true) → l1.length ≤ maxLen → l1.length * 1 ≤ 140737488351232 → (∀ x ∈ l1, (Lit.int .u8 x).wf = true) → ∃ k, laws_FnAreaAndPairsAlike.f k l0 l1 = some true
theorem laws_FnAreaAndPairsAlike.walk (P : laws_FnAreaAndPairsAlike.Pure) (a0 : Option Addr) (len0 cap0 : Nat) (z0 : List Int) (a1 : Option Addr) (len1 cap1 : Nat) (z1 : List Int) (w : World) (w0 : (a0 = none ∧ len0 = 0 ∧ cap0 = 0 ∧ z0 = []) ∨ ∃ x, a0 = some x ∧ len0 ≤ cap0 ∧ cap0 ≤ maxLen ∧ z0.length = cap0 ∧ (∀ i, i < z0.length → w.cell? (x.add i) = some (.int .u8 (z0.getD i 0))) ∧ ∀ n ∈ z0, (Lit.int .u8 n).wf = true) (y0 : len0 * 1 ≤ 140737488351232) (w1 : (a1 = none ∧ len1 = 0 ∧ cap1 = 0 ∧ z1 = []) ∨ ∃ x, a1 = some x ∧ len1 ≤ cap1 ∧ cap1 ≤ maxLen ∧ z1.length = cap1 ∧ (∀ i, i < z1.length → w.cell? (x.add i) = some (.int .u8 (z1.getD i 0))) ∧ ∀ n ∈ z1, (Lit.int .u8 n).wf = true) (y1 : len1 * 1 ≤ 140737488351232) :
  Calls Try.prog 4 #[.slice a0 len0 cap0, .slice a1 len1 cap1] w fun e w' => e = .returned (.bool true) ∧ Below w.heap.size w w' := by
 obtain ⟨l0, rfl, hr0, hm0, hw0, hc0⟩ := ReadsInt.ofRowC w0
 obtain ⟨l1, rfl, hr1, hm1, hw1, hc1⟩ := ReadsInt.ofRowC w1
 obtain ⟨k, h⟩ := P l0 l1 hm0 y0 hw0 hm1 y1 hw1
 refine (laws_FnAreaAndPairsAlike.calls k _ _ l0 _ _ l1 true w (Kd.C_of_reads (d := (0 : Int)) (h1 := fun _ => rfl) hr0) hc0 (Kd.C_of_reads (d := (0 : Int)) (h1 := fun _ => rfl) hr1) hc1 h).mono ?_
 rintro e w' ⟨rfl, hd⟩
 exact ⟨rfl, hd⟩

end Go.Proofs.Ytkbdjbmalpkkfaa.PFnAreaAndPairsAlike
