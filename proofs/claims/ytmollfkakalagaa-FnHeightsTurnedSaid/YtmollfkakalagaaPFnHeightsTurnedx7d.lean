-- Written by a program of this session for this claim (its own turn of the print).
import Derived.Test.YtmollfkakalagaaPFnHeightsTurnedx0
import Derived.Test.YtmollfkakalagaaPFnHeightsTurnedx2
import Derived.Test.YtmollfkakalagaaPFnHeightsTurnedx3
import Derived.Test.YtmollfkakalagaaPFnHeightsTurnedx4
import Derived.Test.YtmollfkakalagaaPFnHeightsTurnedx5
import Derived.Test.YtmollfkakalagaaPFnHeightsTurnedx6
namespace Go.Proofs.Ytmollfkakalagaa.PFnHeightsTurned
open Go.RowKit Go.Proofs.YtmollfkakalagaaW.PrintWords Go.Proofs.YtmollfkakalagaaW.PrintLast Go.Proofs.YtmollfkakalagaaW.PrintMore
attribute [local go_sem] max2_int min2_int max_two min_two max_three min_three max_four min_four   -- for this text's walks alone
set_option linter.unusedVariables false
set_option linter.unusedSimpArgs false

/-! ### laws_FnHeightsTurned: function 14 -/
mutual
def laws_FnHeightsTurned.j0 : Nat → List Int → List Int → List Int → Bool → Bool → Option (Bool)
 | 0, _, _, _, _, _ => none
 | k + 1, x1, x5, x6, x9, x61 => if x61 = true then (some false) else ((spec_DrawFirstLabels.f k x1).bind fun t275 => ((impl_FirstLabels.f k t275).bind fun bt278 => ((spec_FirstLabels.f k t275).bind fun bt286 => (if (bt278.2.2 != bt286.2.2) = true then (laws_FnHeightsTurned.j1 k x1 x5 x6 x9 t275 bt278.2.2 true bt278.1 bt278.2.1) else ((laws_wSameWalk.f k bt278.1 bt278.2.1 bt286.1 bt286.2.1).bind fun t294 => (laws_FnHeightsTurned.j1 k x1 x5 x6 x9 t275 bt278.2.2 (!t294) bt278.1 bt278.2.1))))))
def laws_FnHeightsTurned.j1 : Nat → List Int → List Int → List Int → Bool → List Int → Bool → Bool → List Int → List Int → Option (Bool)
 | 0, _, _, _, _, _, _, _, _, _ => none
 | k + 1, x1, x5, x6, x9, x10, x12, x82, x286000, x286001 => if x82 = true then (some false) else (if x12 = true then ((impl_IsWalk.f k x286000 x286001).bind fun t295 => (if t295 = true then ((laws_wSame.f k x286000 x10).bind fun t296 => (laws_FnHeightsTurned.j2 k x1 x5 x6 x9 (!t296))) else (laws_FnHeightsTurned.j2 k x1 x5 x6 x9 true))) else (laws_FnHeightsTurned.j2 k x1 x5 x6 x9 false))
def laws_FnHeightsTurned.j2 : Nat → List Int → List Int → List Int → Bool → Bool → Option (Bool)
 | 0, _, _, _, _, _ => none
 | k + 1, x1, x5, x6, x9, x95 => if x95 = true then (some false) else ((spec_DrawBounceOf.f k x1).bind fun t297 => ((impl_BounceOf.f k t297).bind fun bt300 => ((spec_BounceOf.f k t297).bind fun bt302 => (if (bt300.2 != bt302.2) = true then (laws_FnHeightsTurned.j3 k x5 x6 x9 true) else (laws_FnHeightsTurned.j3 k x5 x6 x9 (bt300.1 != bt302.1))))))
def laws_FnHeightsTurned.j3 : Nat → List Int → List Int → Bool → Bool → Option (Bool)
 | 0, _, _, _, _ => none
 | k + 1, x5, x6, x9, x115 => if x115 = true then (some false) else (if x9 = true then ((impl_TurnHeights.f k x6).bind fun bt304 => ((impl_FirstLabels.f k x5).bind fun bt308 => ((impl_FirstLabels.f k x6).bind fun bt316 => (if bt304.2 = true then (if bt308.2.2 = true then (if bt316.2.2 = true then ((laws_wSame.f k bt304.1 x5).bind fun t324 => (if t324 = true then ((laws_wSum.f k x5).bind fun t325 => ((laws_wSum.f k x6).bind fun t326 => (laws_FnHeightsTurned.j4 k x5 (t325 != t326) bt308.1 bt308.2.1 bt316.1 bt316.2.1))) else (laws_FnHeightsTurned.j4 k x5 true bt308.1 bt308.2.1 bt316.1 bt316.2.1))) else (laws_FnHeightsTurned.j4 k x5 true bt308.1 bt308.2.1 bt316.1 bt316.2.1)) else (laws_FnHeightsTurned.j4 k x5 true bt308.1 bt308.2.1 bt316.1 bt316.2.1)) else (laws_FnHeightsTurned.j4 k x5 true bt308.1 bt308.2.1 bt316.1 bt316.2.1))))) else (some true))
def laws_FnHeightsTurned.j4 : Nat → List Int → Bool → List Int → List Int → List Int → List Int → Option (Bool)
 | 0, _, _, _, _, _, _ => none
 | k + 1, x5, x155, x316000, x316001, x324000, x324001 => if x155 = true then (some false) else ((impl_TouchesOf.f k x316000 x316001).bind fun bt327 => ((impl_TouchesOf.f k x324000 x324001).bind fun bt331 => (if bt327.2 = true then (if bt331.2 = true then (laws_FnHeightsTurned.j5 k x5 bt327.1 bt331.1 ((bt327.1.length : Int) != (bt331.1.length : Int))) else (laws_FnHeightsTurned.j5 k x5 bt327.1 bt331.1 true)) else (laws_FnHeightsTurned.j5 k x5 bt327.1 bt331.1 true))))
def laws_FnHeightsTurned.j5 : Nat → List Int → List Int → List Int → Bool → Option (Bool)
 | 0, _, _, _, _ => none
 | k + 1, x5, x26, x28, x178 => if x178 = true then (some false) else (laws_FnHeightsTurned.l0 k x5 x28 x26 (x26.length : Int) 0)
def laws_FnHeightsTurned.l0 : Nat → List Int → List Int → List Int → Int → Int → Option (Bool)
 | 0, _, _, _, _, _ => none
 | k + 1, x5, x28, x179, x180, x181 => if x181 < x180 then (if 0 ≤ x181 then (if x181 < (x179.length : Int) then (if 0 ≤ (wrap64 ((wrap64 ((x28.length : Int) - 1)) - x181)) then (if (wrap64 ((wrap64 ((x28.length : Int) - 1)) - x181)) < (x28.length : Int) then (if (rd x28 (wrap64 ((wrap64 ((x28.length : Int) - 1)) - x181))) = (wrap64 ((x5.length : Int) - (rd x179 x181))) then (laws_FnHeightsTurned.l0 k x5 x28 x179 x180 (wrap64 (x181 + 1))) else (some false)) else (none)) else (none)) else (none)) else (none)) else (some true)
end
def laws_FnHeightsTurned.f (k : Nat) (l0 : List Int) (l1 : List Int) : Option (Bool) := (laws_big.f l0 l1).bind fun t261 => (if t261 = true then (some true) else ((spec_DrawTurnHeights.f k l0).bind fun t262 => ((impl_TurnHeights.f k t262).bind fun bt265 => ((spec_TurnHeights.f k t262).bind fun bt269 => (if (bt265.2 != bt269.2) = true then (laws_FnHeightsTurned.j0 k l1 t262 bt265.1 bt269.2 true) else ((laws_wSame.f k bt265.1 bt269.1).bind fun t273 => (if t273 = true then ((impl_AreHeights.f k t262).bind fun t274 => (laws_FnHeightsTurned.j0 k l1 t262 bt265.1 bt269.2 (bt265.2 != t274))) else (laws_FnHeightsTurned.j0 k l1 t262 bt265.1 bt269.2 true))))))))
theorem laws_FnHeightsTurned.mono_l : ∀ k, (∀ y0 y1 y2 y3 y4, LeO (laws_FnHeightsTurned.j0 k y0 y1 y2 y3 y4) (laws_FnHeightsTurned.j0 (k + 1) y0 y1 y2 y3 y4)) ∧ (∀ y0 y1 y2 y3 y4 y5 y6 y7 y8, LeO (laws_FnHeightsTurned.j1 k y0 y1 y2 y3 y4 y5 y6 y7 y8) (laws_FnHeightsTurned.j1 (k + 1) y0 y1 y2 y3 y4 y5 y6 y7 y8)) ∧ (∀ y0 y1 y2 y3 y4, LeO (laws_FnHeightsTurned.j2 k y0 y1 y2 y3 y4) (laws_FnHeightsTurned.j2 (k + 1) y0 y1 y2 y3 y4)) ∧ (∀ y0 y1 y2 y3, LeO (laws_FnHeightsTurned.j3 k y0 y1 y2 y3) (laws_FnHeightsTurned.j3 (k + 1) y0 y1 y2 y3)) ∧ (∀ y0 y1 y2 y3 y4 y5, LeO (laws_FnHeightsTurned.j4 k y0 y1 y2 y3 y4 y5) (laws_FnHeightsTurned.j4 (k + 1) y0 y1 y2 y3 y4 y5)) ∧ (∀ y0 y1 y2 y3, LeO (laws_FnHeightsTurned.j5 k y0 y1 y2 y3) (laws_FnHeightsTurned.j5 (k + 1) y0 y1 y2 y3)) ∧ (∀ y0 y1 y2 y3 y4, LeO (laws_FnHeightsTurned.l0 k y0 y1 y2 y3 y4) (laws_FnHeightsTurned.l0 (k + 1) y0 y1 y2 y3 y4))
 | 0 => ⟨fun _ _ _ _ _ r h => by simp [laws_FnHeightsTurned.j0] at h, fun _ _ _ _ _ _ _ _ _ r h => by simp [laws_FnHeightsTurned.j1] at h, fun _ _ _ _ _ r h => by simp [laws_FnHeightsTurned.j2] at h, fun _ _ _ _ r h => by simp [laws_FnHeightsTurned.j3] at h, fun _ _ _ _ _ _ r h => by simp [laws_FnHeightsTurned.j4] at h, fun _ _ _ _ r h => by simp [laws_FnHeightsTurned.j5] at h, fun _ _ _ _ _ r h => by simp [laws_FnHeightsTurned.l0] at h⟩
 | k + 1 => by
  obtain ⟨ih0, ih1, ih2, ih3, ih4, ih5, ih6⟩ := laws_FnHeightsTurned.mono_l k
  refine ⟨?_, ?_, ?_, ?_, ?_, ?_, ?_⟩
  ·intro y0 y1 y2 y3 y4
   unfold laws_FnHeightsTurned.j0
   repeat' first
   | (with_reducible exact ih0 _ _ _ _ _)
   | (with_reducible exact ih1 _ _ _ _ _ _ _ _ _)
   | (with_reducible exact ih2 _ _ _ _ _)
   | (with_reducible exact ih3 _ _ _ _)
   | (with_reducible exact ih4 _ _ _ _ _ _)
   | (with_reducible exact ih5 _ _ _ _)
   | (with_reducible exact ih6 _ _ _ _ _)
   | (with_reducible exact impl_AreHeights.mono _ _)
   | (with_reducible exact impl_BounceOf.mono _ _)
   | (with_reducible exact impl_FirstLabels.mono _ _)
   | (with_reducible exact impl_IsWalk.mono _ _ _)
   | (with_reducible exact impl_TouchesOf.mono _ _ _)
   | (with_reducible exact impl_TurnHeights.mono _ _)
   | (with_reducible exact laws_wSame.mono _ _ _)
   | (with_reducible exact laws_wSameWalk.mono _ _ _ _ _)
   | (with_reducible exact laws_wSum.mono _ _)
   | (with_reducible exact spec_BounceOf.mono _ _)
   | (with_reducible exact spec_DrawBounceOf.mono _ _)
   | (with_reducible exact spec_DrawFirstLabels.mono _ _)
   | (with_reducible exact spec_DrawTurnHeights.mono _ _)
   | (with_reducible exact spec_FirstLabels.mono _ _)
   | (with_reducible exact spec_TurnHeights.mono _ _)
   | (with_reducible exact LeO.refl _)
   | (with_reducible exact LeO.none _)
   | (with_reducible refine LeO.ite ?_ ?_)
   | (with_reducible refine LeO.bind ?_ (fun _ => ?_))
   | exact LeO.none _
   | refine LeO.ite ?_ ?_
   | refine LeO.bind ?_ (fun _ => ?_)
  ·intro y0 y1 y2 y3 y4 y5 y6 y7 y8
   unfold laws_FnHeightsTurned.j1
   repeat' first
   | (with_reducible exact ih0 _ _ _ _ _)
   | (with_reducible exact ih1 _ _ _ _ _ _ _ _ _)
   | (with_reducible exact ih2 _ _ _ _ _)
   | (with_reducible exact ih3 _ _ _ _)
   | (with_reducible exact ih4 _ _ _ _ _ _)
   | (with_reducible exact ih5 _ _ _ _)
   | (with_reducible exact ih6 _ _ _ _ _)
   | (with_reducible exact impl_AreHeights.mono _ _)
   | (with_reducible exact impl_BounceOf.mono _ _)
   | (with_reducible exact impl_FirstLabels.mono _ _)
   | (with_reducible exact impl_IsWalk.mono _ _ _)
   | (with_reducible exact impl_TouchesOf.mono _ _ _)
   | (with_reducible exact impl_TurnHeights.mono _ _)
   | (with_reducible exact laws_wSame.mono _ _ _)
   | (with_reducible exact laws_wSameWalk.mono _ _ _ _ _)
   | (with_reducible exact laws_wSum.mono _ _)
   | (with_reducible exact spec_BounceOf.mono _ _)
   | (with_reducible exact spec_DrawBounceOf.mono _ _)
   | (with_reducible exact spec_DrawFirstLabels.mono _ _)
   | (with_reducible exact spec_DrawTurnHeights.mono _ _)
   | (with_reducible exact spec_FirstLabels.mono _ _)
   | (with_reducible exact spec_TurnHeights.mono _ _)
   | (with_reducible exact LeO.refl _)
   | (with_reducible exact LeO.none _)
   | (with_reducible refine LeO.ite ?_ ?_)
   | (with_reducible refine LeO.bind ?_ (fun _ => ?_))
   | exact LeO.none _
   | refine LeO.ite ?_ ?_
   | refine LeO.bind ?_ (fun _ => ?_)
  ·intro y0 y1 y2 y3 y4
   unfold laws_FnHeightsTurned.j2
   repeat' first
   | (with_reducible exact ih0 _ _ _ _ _)
   | (with_reducible exact ih1 _ _ _ _ _ _ _ _ _)
   | (with_reducible exact ih2 _ _ _ _ _)
   | (with_reducible exact ih3 _ _ _ _)
   | (with_reducible exact ih4 _ _ _ _ _ _)
   | (with_reducible exact ih5 _ _ _ _)
   | (with_reducible exact ih6 _ _ _ _ _)
   | (with_reducible exact impl_AreHeights.mono _ _)
   | (with_reducible exact impl_BounceOf.mono _ _)
   | (with_reducible exact impl_FirstLabels.mono _ _)
   | (with_reducible exact impl_IsWalk.mono _ _ _)
   | (with_reducible exact impl_TouchesOf.mono _ _ _)
   | (with_reducible exact impl_TurnHeights.mono _ _)
   | (with_reducible exact laws_wSame.mono _ _ _)
   | (with_reducible exact laws_wSameWalk.mono _ _ _ _ _)
   | (with_reducible exact laws_wSum.mono _ _)
   | (with_reducible exact spec_BounceOf.mono _ _)
   | (with_reducible exact spec_DrawBounceOf.mono _ _)
   | (with_reducible exact spec_DrawFirstLabels.mono _ _)
   | (with_reducible exact spec_DrawTurnHeights.mono _ _)
   | (with_reducible exact spec_FirstLabels.mono _ _)
   | (with_reducible exact spec_TurnHeights.mono _ _)
   | (with_reducible exact LeO.refl _)
   | (with_reducible exact LeO.none _)
   | (with_reducible refine LeO.ite ?_ ?_)
   | (with_reducible refine LeO.bind ?_ (fun _ => ?_))
   | exact LeO.none _
   | refine LeO.ite ?_ ?_
   | refine LeO.bind ?_ (fun _ => ?_)
  ·intro y0 y1 y2 y3
   unfold laws_FnHeightsTurned.j3
   repeat' first
   | (with_reducible exact ih0 _ _ _ _ _)
   | (with_reducible exact ih1 _ _ _ _ _ _ _ _ _)
   | (with_reducible exact ih2 _ _ _ _ _)
   | (with_reducible exact ih3 _ _ _ _)
   | (with_reducible exact ih4 _ _ _ _ _ _)
   | (with_reducible exact ih5 _ _ _ _)
   | (with_reducible exact ih6 _ _ _ _ _)
   | (with_reducible exact impl_AreHeights.mono _ _)
   | (with_reducible exact impl_BounceOf.mono _ _)
   | (with_reducible exact impl_FirstLabels.mono _ _)
   | (with_reducible exact impl_IsWalk.mono _ _ _)
   | (with_reducible exact impl_TouchesOf.mono _ _ _)
   | (with_reducible exact impl_TurnHeights.mono _ _)
   | (with_reducible exact laws_wSame.mono _ _ _)
   | (with_reducible exact laws_wSameWalk.mono _ _ _ _ _)
   | (with_reducible exact laws_wSum.mono _ _)
   | (with_reducible exact spec_BounceOf.mono _ _)
   | (with_reducible exact spec_DrawBounceOf.mono _ _)
   | (with_reducible exact spec_DrawFirstLabels.mono _ _)
   | (with_reducible exact spec_DrawTurnHeights.mono _ _)
   | (with_reducible exact spec_FirstLabels.mono _ _)
   | (with_reducible exact spec_TurnHeights.mono _ _)
   | (with_reducible exact LeO.refl _)
   | (with_reducible exact LeO.none _)
   | (with_reducible refine LeO.ite ?_ ?_)
   | (with_reducible refine LeO.bind ?_ (fun _ => ?_))
   | exact LeO.none _
   | refine LeO.ite ?_ ?_
   | refine LeO.bind ?_ (fun _ => ?_)
  ·intro y0 y1 y2 y3 y4 y5
   unfold laws_FnHeightsTurned.j4
   repeat' first
   | (with_reducible exact ih0 _ _ _ _ _)
   | (with_reducible exact ih1 _ _ _ _ _ _ _ _ _)
   | (with_reducible exact ih2 _ _ _ _ _)
   | (with_reducible exact ih3 _ _ _ _)
   | (with_reducible exact ih4 _ _ _ _ _ _)
   | (with_reducible exact ih5 _ _ _ _)
   | (with_reducible exact ih6 _ _ _ _ _)
   | (with_reducible exact impl_AreHeights.mono _ _)
   | (with_reducible exact impl_BounceOf.mono _ _)
   | (with_reducible exact impl_FirstLabels.mono _ _)
   | (with_reducible exact impl_IsWalk.mono _ _ _)
   | (with_reducible exact impl_TouchesOf.mono _ _ _)
   | (with_reducible exact impl_TurnHeights.mono _ _)
   | (with_reducible exact laws_wSame.mono _ _ _)
   | (with_reducible exact laws_wSameWalk.mono _ _ _ _ _)
   | (with_reducible exact laws_wSum.mono _ _)
   | (with_reducible exact spec_BounceOf.mono _ _)
   | (with_reducible exact spec_DrawBounceOf.mono _ _)
   | (with_reducible exact spec_DrawFirstLabels.mono _ _)
   | (with_reducible exact spec_DrawTurnHeights.mono _ _)
   | (with_reducible exact spec_FirstLabels.mono _ _)
   | (with_reducible exact spec_TurnHeights.mono _ _)
   | (with_reducible exact LeO.refl _)
   | (with_reducible exact LeO.none _)
   | (with_reducible refine LeO.ite ?_ ?_)
   | (with_reducible refine LeO.bind ?_ (fun _ => ?_))
   | exact LeO.none _
   | refine LeO.ite ?_ ?_
   | refine LeO.bind ?_ (fun _ => ?_)
  ·intro y0 y1 y2 y3
   unfold laws_FnHeightsTurned.j5
   repeat' first
   | (with_reducible exact ih0 _ _ _ _ _)
   | (with_reducible exact ih1 _ _ _ _ _ _ _ _ _)
   | (with_reducible exact ih2 _ _ _ _ _)
   | (with_reducible exact ih3 _ _ _ _)
   | (with_reducible exact ih4 _ _ _ _ _ _)
   | (with_reducible exact ih5 _ _ _ _)
   | (with_reducible exact ih6 _ _ _ _ _)
   | (with_reducible exact impl_AreHeights.mono _ _)
   | (with_reducible exact impl_BounceOf.mono _ _)
   | (with_reducible exact impl_FirstLabels.mono _ _)
   | (with_reducible exact impl_IsWalk.mono _ _ _)
   | (with_reducible exact impl_TouchesOf.mono _ _ _)
   | (with_reducible exact impl_TurnHeights.mono _ _)
   | (with_reducible exact laws_wSame.mono _ _ _)
   | (with_reducible exact laws_wSameWalk.mono _ _ _ _ _)
   | (with_reducible exact laws_wSum.mono _ _)
   | (with_reducible exact spec_BounceOf.mono _ _)
   | (with_reducible exact spec_DrawBounceOf.mono _ _)
   | (with_reducible exact spec_DrawFirstLabels.mono _ _)
   | (with_reducible exact spec_DrawTurnHeights.mono _ _)
   | (with_reducible exact spec_FirstLabels.mono _ _)
   | (with_reducible exact spec_TurnHeights.mono _ _)
   | (with_reducible exact LeO.refl _)
   | (with_reducible exact LeO.none _)
   | (with_reducible refine LeO.ite ?_ ?_)
   | (with_reducible refine LeO.bind ?_ (fun _ => ?_))
   | exact LeO.none _
   | refine LeO.ite ?_ ?_
   | refine LeO.bind ?_ (fun _ => ?_)
  ·intro y0 y1 y2 y3 y4
   unfold laws_FnHeightsTurned.l0
   repeat' first
   | (with_reducible exact ih0 _ _ _ _ _)
   | (with_reducible exact ih1 _ _ _ _ _ _ _ _ _)
   | (with_reducible exact ih2 _ _ _ _ _)
   | (with_reducible exact ih3 _ _ _ _)
   | (with_reducible exact ih4 _ _ _ _ _ _)
   | (with_reducible exact ih5 _ _ _ _)
   | (with_reducible exact ih6 _ _ _ _ _)
   | (with_reducible exact impl_AreHeights.mono _ _)
   | (with_reducible exact impl_BounceOf.mono _ _)
   | (with_reducible exact impl_FirstLabels.mono _ _)
   | (with_reducible exact impl_IsWalk.mono _ _ _)
   | (with_reducible exact impl_TouchesOf.mono _ _ _)
   | (with_reducible exact impl_TurnHeights.mono _ _)
   | (with_reducible exact laws_wSame.mono _ _ _)
   | (with_reducible exact laws_wSameWalk.mono _ _ _ _ _)
   | (with_reducible exact laws_wSum.mono _ _)
   | (with_reducible exact spec_BounceOf.mono _ _)
   | (with_reducible exact spec_DrawBounceOf.mono _ _)
   | (with_reducible exact spec_DrawFirstLabels.mono _ _)
   | (with_reducible exact spec_DrawTurnHeights.mono _ _)
   | (with_reducible exact spec_FirstLabels.mono _ _)
   | (with_reducible exact spec_TurnHeights.mono _ _)
   | (with_reducible exact LeO.refl _)
   | (with_reducible exact LeO.none _)
   | (with_reducible refine LeO.ite ?_ ?_)
   | (with_reducible refine LeO.bind ?_ (fun _ => ?_))
   | exact LeO.none _
   | refine LeO.ite ?_ ?_
   | refine LeO.bind ?_ (fun _ => ?_)
theorem laws_FnHeightsTurned.mono : ∀ a0 a1 k, LeO (laws_FnHeightsTurned.f k a0 a1) (laws_FnHeightsTurned.f (k + 1) a0 a1) := by
 intro a0 a1 k
 obtain ⟨ih0, ih1, ih2, ih3, ih4, ih5, ih6⟩ := laws_FnHeightsTurned.mono_l k
 unfold laws_FnHeightsTurned.f
 repeat' first
   | (with_reducible exact ih0 _ _ _ _ _)
   | (with_reducible exact ih1 _ _ _ _ _ _ _ _ _)
   | (with_reducible exact ih2 _ _ _ _ _)
   | (with_reducible exact ih3 _ _ _ _)
   | (with_reducible exact ih4 _ _ _ _ _ _)
   | (with_reducible exact ih5 _ _ _ _)
   | (with_reducible exact ih6 _ _ _ _ _)
   | (with_reducible exact impl_AreHeights.mono _ _)
   | (with_reducible exact impl_BounceOf.mono _ _)
   | (with_reducible exact impl_FirstLabels.mono _ _)
   | (with_reducible exact impl_IsWalk.mono _ _ _)
   | (with_reducible exact impl_TouchesOf.mono _ _ _)
   | (with_reducible exact impl_TurnHeights.mono _ _)
   | (with_reducible exact laws_wSame.mono _ _ _)
   | (with_reducible exact laws_wSameWalk.mono _ _ _ _ _)
   | (with_reducible exact laws_wSum.mono _ _)
   | (with_reducible exact spec_BounceOf.mono _ _)
   | (with_reducible exact spec_DrawBounceOf.mono _ _)
   | (with_reducible exact spec_DrawFirstLabels.mono _ _)
   | (with_reducible exact spec_DrawTurnHeights.mono _ _)
   | (with_reducible exact spec_FirstLabels.mono _ _)
   | (with_reducible exact spec_TurnHeights.mono _ _)
   | (with_reducible exact LeO.refl _)
   | (with_reducible exact LeO.none _)
   | (with_reducible refine LeO.ite ?_ ?_)
   | (with_reducible refine LeO.bind ?_ (fun _ => ?_))
   | exact LeO.none _
   | refine LeO.ite ?_ ?_
   | refine LeO.bind ?_ (fun _ => ?_)
end Go.Proofs.Ytmollfkakalagaa.PFnHeightsTurned
