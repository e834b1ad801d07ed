-- Written by a program of this session for this claim (its own turn of the print).
import Derived.Test.YtfgkcgedkhpigaaPFnTreesMeasuredx0
import Derived.Test.YtfgkcgedkhpigaaPFnTreesMeasuredx1
import Derived.Test.YtfgkcgedkhpigaaPFnTreesMeasuredx2
import Derived.Test.YtfgkcgedkhpigaaPFnTreesMeasuredx4
import Derived.Test.YtfgkcgedkhpigaaPFnTreesMeasuredx5
import Derived.Test.YtfgkcgedkhpigaaPFnTreesMeasuredx6
import Derived.Test.YtfgkcgedkhpigaaPFnTreesMeasuredx7
namespace Go.Proofs.Ytfgkcgedkhpigaa.PFnTreesMeasured
open Go.RowKit Go.Proofs.YtfgkcgedkhpigaaW.PrintWords Go.Proofs.YtfgkcgedkhpigaaW.PrintLast Go.Proofs.YtfgkcgedkhpigaaW.PrintMore
attribute [local go_sem] max2_int min2_int max_two min_two max_three min_three max_four min_four   -- for this text's walks alone
set_option linter.unusedVariables false
set_option linter.unusedSimpArgs false

/-! ### laws_FnTreesMeasured: function 4 -/
mutual
def laws_FnTreesMeasured.j0 : Nat → List Int → List (List Int) → Bool → Int → List Int → List Int → Bool → Option (Bool)
 | 0, _, _, _, _, _, _, _ => none
 | k + 1, x5, x6, x9, x10, x12, x16, x115 => if x115 = true then (some false) else (if x9 = true then (if x10 = (x6.length : Int) then ((laws_wSum.f k x12).bind fun t378 => ((laws_wSum.f k x16).bind fun t379 => (if t378 = t379 then (if 0 < (x16.length : Int) then (laws_FnTreesMeasured.j1 k x5 x6 x12 ((rd x16 0) != (x5.length : Int))) else (none)) else (laws_FnTreesMeasured.j1 k x5 x6 x12 true)))) else (laws_FnTreesMeasured.j1 k x5 x6 x12 true)) else (some true))
def laws_FnTreesMeasured.j1 : Nat → List Int → List (List Int) → List Int → Bool → Option (Bool)
 | 0, _, _, _, _ => none
 | k + 1, x5, x6, x12, x136 => if x136 = true then (some false) else ((impl_BreadthOrder.f k x5).bind fun bt381 => (if bt381.2 = true then (laws_FnTreesMeasured.l0 k x5 x6 x12 bt381.1 2) else (some false)))
def laws_FnTreesMeasured.l0 : Nat → List Int → List (List Int) → List Int → List Int → Int → Option (Bool)
 | 0, _, _, _, _, _ => none
 | k + 1, x5, x6, x12, x20, x22 => if x22 < (x20.length : Int) then (if 0 ≤ x22 then (if 0 ≤ (wrap64 ((rd x20 x22) - 1)) then (if (wrap64 ((rd x20 x22) - 1)) < (x12.length : Int) then (if 0 ≤ (wrap64 (x22 - 1)) then (if (wrap64 (x22 - 1)) < (x20.length : Int) then (if 0 ≤ (wrap64 ((rd x20 (wrap64 (x22 - 1))) - 1)) then (if (wrap64 ((rd x20 (wrap64 (x22 - 1))) - 1)) < (x12.length : Int) then (if (rd x12 (wrap64 ((rd x20 x22) - 1))) < (rd x12 (wrap64 ((rd x20 (wrap64 (x22 - 1))) - 1))) then (some false) else (laws_FnTreesMeasured.l0 k x5 x6 x12 x20 (wrap64 (x22 + 1)))) else (none)) else (none)) else (none)) else (none)) else (none)) else (none)) else (none)) else (laws_FnTreesMeasured.l1 k x5 x6 x12 x5 (x5.length : Int) 0)
def laws_FnTreesMeasured.l1 : Nat → List Int → List (List Int) → List Int → List Int → Int → Int → Option (Bool)
 | 0, _, _, _, _, _, _ => none
 | k + 1, x5, x6, x12, x168, x169, x170 => if x170 < x169 then (if 0 ≤ x170 then (if x170 < (x168.length : Int) then (if (rd x168 x170) = 0 then (if x170 < (x12.length : Int) then (if (rd x12 x170) = 1 then (if (rd x168 x170) > 0 then (if 0 ≤ (wrap64 ((rd x168 x170) - 1)) then (if (wrap64 ((rd x168 x170) - 1)) < (x12.length : Int) then (if (rd x12 x170) = (wrap64 ((rd x12 (wrap64 ((rd x168 x170) - 1))) + 1)) then (laws_FnTreesMeasured.l1 k x5 x6 x12 x168 x169 (wrap64 (x170 + 1))) else (some false)) else (none)) else (none)) else (laws_FnTreesMeasured.l1 k x5 x6 x12 x168 x169 (wrap64 (x170 + 1)))) else (some false)) else (none)) else (if (rd x168 x170) > 0 then (if x170 < (x12.length : Int) then (if 0 ≤ (wrap64 ((rd x168 x170) - 1)) then (if (wrap64 ((rd x168 x170) - 1)) < (x12.length : Int) then (if (rd x12 x170) = (wrap64 ((rd x12 (wrap64 ((rd x168 x170) - 1))) + 1)) then (laws_FnTreesMeasured.l1 k x5 x6 x12 x168 x169 (wrap64 (x170 + 1))) else (some false)) else (none)) else (none)) else (none)) else (laws_FnTreesMeasured.l1 k x5 x6 x12 x168 x169 (wrap64 (x170 + 1))))) else (none)) else (none)) else (laws_FnTreesMeasured.l2 k x5 x6 (x6.length : Int) 0)
def laws_FnTreesMeasured.l2 : Nat → List Int → List (List Int) → Int → Int → Option (Bool)
 | 0, _, _, _, _ => none
 | k + 1, x5, x202, x203, x204 => if x204 < x203 then (if 0 ≤ x204 then (if x204 < (x202.length : Int) then (if 0 < ((rd_L2 x202 x204).length : Int) then (if 1 < ((rd_L2 x202 x204).length : Int) then (laws_FnTreesMeasured.l3 k x5 (rd (rd_L2 x202 x204) 0) (rd (rd_L2 x202 x204) 1) (rd (rd_L2 x202 x204) 0) x202 x203 x204) else (none)) else (none)) else (none)) else (none)) else (some true)
def laws_FnTreesMeasured.l3 : Nat → List Int → Int → Int → Int → List (List Int) → Int → Int → Option (Bool)
 | 0, _, _, _, _, _, _, _ => none
 | k + 1, x5, x27, x28, x29, x202, x203, x204 => if x29 > 0 then (if x29 = x28 then (if x27 ≥ x28 then (some false) else (laws_FnTreesMeasured.l2 k x5 x202 x203 (wrap64 (x204 + 1)))) else (if 0 ≤ (wrap64 (x29 - 1)) then (if (wrap64 (x29 - 1)) < (x5.length : Int) then (laws_FnTreesMeasured.l3 k x5 x27 x28 (rd x5 (wrap64 (x29 - 1))) x202 x203 x204) else (none)) else (none))) else (if x27 ≥ x28 then (some false) else (if x29 = x28 then (laws_FnTreesMeasured.l2 k x5 x202 x203 (wrap64 (x204 + 1))) else (some false)))
end
def laws_FnTreesMeasured.f (k : Nat) (l0 : List Int) (l1 : List Int) : Option (Bool) := (laws_big.f l0 l1).bind fun t345 => (if t345 = true then (some true) else ((spec_DrawInversionPairs.f k l0).bind fun t346 => ((impl_InversionPairs.f k t346).bind fun bt349 => ((spec_InversionPairs.f k t346).bind fun bt353 => ((impl_InversionsOf.f k t346).bind fun bt357 => ((impl_DepthsOf.f k t346).bind fun bt359 => ((spec_DepthsOf.f k t346).bind fun bt363 => ((impl_BelowCounts.f k t346).bind fun bt367 => ((spec_BelowCounts.f k t346).bind fun bt371 => (if (bt349.2 != bt353.2) = true then (laws_FnTreesMeasured.j0 k t346 bt349.1 bt353.2 bt357.1 bt359.1 bt367.1 true) else ((laws_wSameLists.f k bt349.1 bt353.1).bind fun t375 => (if t375 = true then (if (bt357.2 != bt349.2) = true then (laws_FnTreesMeasured.j0 k t346 bt349.1 bt353.2 bt357.1 bt359.1 bt367.1 true) else (if (bt359.2 != bt363.2) = true then (laws_FnTreesMeasured.j0 k t346 bt349.1 bt353.2 bt357.1 bt359.1 bt367.1 true) else ((laws_wSame.f k bt359.1 bt363.1).bind fun t376 => (if t376 = true then (if (bt367.2 != bt371.2) = true then (laws_FnTreesMeasured.j0 k t346 bt349.1 bt353.2 bt357.1 bt359.1 bt367.1 true) else ((laws_wSame.f k bt367.1 bt371.1).bind fun t377 => (if t377 = true then (if (bt359.2 != bt349.2) = true then (laws_FnTreesMeasured.j0 k t346 bt349.1 bt353.2 bt357.1 bt359.1 bt367.1 true) else (laws_FnTreesMeasured.j0 k t346 bt349.1 bt353.2 bt357.1 bt359.1 bt367.1 (bt367.2 != bt349.2))) else (laws_FnTreesMeasured.j0 k t346 bt349.1 bt353.2 bt357.1 bt359.1 bt367.1 true)))) else (laws_FnTreesMeasured.j0 k t346 bt349.1 bt353.2 bt357.1 bt359.1 bt367.1 true))))) else (laws_FnTreesMeasured.j0 k t346 bt349.1 bt353.2 bt357.1 bt359.1 bt367.1 true)))))))))))))
theorem laws_FnTreesMeasured.mono_l : ∀ k, (∀ y0 y1 y2 y3 y4 y5 y6, LeO (laws_FnTreesMeasured.j0 k y0 y1 y2 y3 y4 y5 y6) (laws_FnTreesMeasured.j0 (k + 1) y0 y1 y2 y3 y4 y5 y6)) ∧ (∀ y0 y1 y2 y3, LeO (laws_FnTreesMeasured.j1 k y0 y1 y2 y3) (laws_FnTreesMeasured.j1 (k + 1) y0 y1 y2 y3)) ∧ (∀ y0 y1 y2 y3 y4, LeO (laws_FnTreesMeasured.l0 k y0 y1 y2 y3 y4) (laws_FnTreesMeasured.l0 (k + 1) y0 y1 y2 y3 y4)) ∧ (∀ y0 y1 y2 y3 y4 y5, LeO (laws_FnTreesMeasured.l1 k y0 y1 y2 y3 y4 y5) (laws_FnTreesMeasured.l1 (k + 1) y0 y1 y2 y3 y4 y5)) ∧ (∀ y0 y1 y2 y3, LeO (laws_FnTreesMeasured.l2 k y0 y1 y2 y3) (laws_FnTreesMeasured.l2 (k + 1) y0 y1 y2 y3)) ∧ (∀ y0 y1 y2 y3 y4 y5 y6, LeO (laws_FnTreesMeasured.l3 k y0 y1 y2 y3 y4 y5 y6) (laws_FnTreesMeasured.l3 (k + 1) y0 y1 y2 y3 y4 y5 y6))
 | 0 => ⟨fun _ _ _ _ _ _ _ r h => by simp [laws_FnTreesMeasured.j0] at h, fun _ _ _ _ r h => by simp [laws_FnTreesMeasured.j1] at h, fun _ _ _ _ _ r h => by simp [laws_FnTreesMeasured.l0] at h, fun _ _ _ _ _ _ r h => by simp [laws_FnTreesMeasured.l1] at h, fun _ _ _ _ r h => by simp [laws_FnTreesMeasured.l2] at h, fun _ _ _ _ _ _ _ r h => by simp [laws_FnTreesMeasured.l3] at h⟩
 | k + 1 => by
  obtain ⟨ih0, ih1, ih2, ih3, ih4, ih5⟩ := laws_FnTreesMeasured.mono_l k
  refine ⟨?_, ?_, ?_, ?_, ?_, ?_⟩
  ·intro y0 y1 y2 y3 y4 y5 y6
   unfold laws_FnTreesMeasured.j0
   repeat' first
   | (with_reducible exact ih0 _ _ _ _ _ _ _)
   | (with_reducible exact ih1 _ _ _ _)
   | (with_reducible exact ih2 _ _ _ _ _)
   | (with_reducible exact ih3 _ _ _ _ _ _)
   | (with_reducible exact ih4 _ _ _ _)
   | (with_reducible exact ih5 _ _ _ _ _ _ _)
   | (with_reducible exact impl_BelowCounts.mono _ _)
   | (with_reducible exact impl_BreadthOrder.mono _ _)
   | (with_reducible exact impl_DepthsOf.mono _ _)
   | (with_reducible exact impl_InversionPairs.mono _ _)
   | (with_reducible exact impl_InversionsOf.mono _ _)
   | (with_reducible exact laws_wSame.mono _ _ _)
   | (with_reducible exact laws_wSameLists.mono _ _ _)
   | (with_reducible exact laws_wSum.mono _ _)
   | (with_reducible exact spec_BelowCounts.mono _ _)
   | (with_reducible exact spec_DepthsOf.mono _ _)
   | (with_reducible exact spec_DrawInversionPairs.mono _ _)
   | (with_reducible exact spec_InversionPairs.mono _ _)
   | (with_reducible exact LeO.refl _)
   | (with_reducible exact LeO.none _)
   | (with_reducible refine LeO.ite ?_ ?_)
   | (with_reducible refine LeO.bind ?_ (fun _ => ?_))
   | exact LeO.none _
   | refine LeO.ite ?_ ?_
   | refine LeO.bind ?_ (fun _ => ?_)
  ·intro y0 y1 y2 y3
   unfold laws_FnTreesMeasured.j1
   repeat' first
   | (with_reducible exact ih0 _ _ _ _ _ _ _)
   | (with_reducible exact ih1 _ _ _ _)
   | (with_reducible exact ih2 _ _ _ _ _)
   | (with_reducible exact ih3 _ _ _ _ _ _)
   | (with_reducible exact ih4 _ _ _ _)
   | (with_reducible exact ih5 _ _ _ _ _ _ _)
   | (with_reducible exact impl_BelowCounts.mono _ _)
   | (with_reducible exact impl_BreadthOrder.mono _ _)
   | (with_reducible exact impl_DepthsOf.mono _ _)
   | (with_reducible exact impl_InversionPairs.mono _ _)
   | (with_reducible exact impl_InversionsOf.mono _ _)
   | (with_reducible exact laws_wSame.mono _ _ _)
   | (with_reducible exact laws_wSameLists.mono _ _ _)
   | (with_reducible exact laws_wSum.mono _ _)
   | (with_reducible exact spec_BelowCounts.mono _ _)
   | (with_reducible exact spec_DepthsOf.mono _ _)
   | (with_reducible exact spec_DrawInversionPairs.mono _ _)
   | (with_reducible exact spec_InversionPairs.mono _ _)
   | (with_reducible exact LeO.refl _)
   | (with_reducible exact LeO.none _)
   | (with_reducible refine LeO.ite ?_ ?_)
   | (with_reducible refine LeO.bind ?_ (fun _ => ?_))
   | exact LeO.none _
   | refine LeO.ite ?_ ?_
   | refine LeO.bind ?_ (fun _ => ?_)
  ·intro y0 y1 y2 y3 y4
   unfold laws_FnTreesMeasured.l0
   repeat' first
   | (with_reducible exact ih0 _ _ _ _ _ _ _)
   | (with_reducible exact ih1 _ _ _ _)
   | (with_reducible exact ih2 _ _ _ _ _)
   | (with_reducible exact ih3 _ _ _ _ _ _)
   | (with_reducible exact ih4 _ _ _ _)
   | (with_reducible exact ih5 _ _ _ _ _ _ _)
   | (with_reducible exact impl_BelowCounts.mono _ _)
   | (with_reducible exact impl_BreadthOrder.mono _ _)
   | (with_reducible exact impl_DepthsOf.mono _ _)
   | (with_reducible exact impl_InversionPairs.mono _ _)
   | (with_reducible exact impl_InversionsOf.mono _ _)
   | (with_reducible exact laws_wSame.mono _ _ _)
   | (with_reducible exact laws_wSameLists.mono _ _ _)
   | (with_reducible exact laws_wSum.mono _ _)
   | (with_reducible exact spec_BelowCounts.mono _ _)
   | (with_reducible exact spec_DepthsOf.mono _ _)
   | (with_reducible exact spec_DrawInversionPairs.mono _ _)
   | (with_reducible exact spec_InversionPairs.mono _ _)
   | (with_reducible exact LeO.refl _)
   | (with_reducible exact LeO.none _)
   | (with_reducible refine LeO.ite ?_ ?_)
   | (with_reducible refine LeO.bind ?_ (fun _ => ?_))
   | exact LeO.none _
   | refine LeO.ite ?_ ?_
   | refine LeO.bind ?_ (fun _ => ?_)
  ·intro y0 y1 y2 y3 y4 y5
   unfold laws_FnTreesMeasured.l1
   repeat' first
   | (with_reducible exact ih0 _ _ _ _ _ _ _)
   | (with_reducible exact ih1 _ _ _ _)
   | (with_reducible exact ih2 _ _ _ _ _)
   | (with_reducible exact ih3 _ _ _ _ _ _)
   | (with_reducible exact ih4 _ _ _ _)
   | (with_reducible exact ih5 _ _ _ _ _ _ _)
   | (with_reducible exact impl_BelowCounts.mono _ _)
   | (with_reducible exact impl_BreadthOrder.mono _ _)
   | (with_reducible exact impl_DepthsOf.mono _ _)
   | (with_reducible exact impl_InversionPairs.mono _ _)
   | (with_reducible exact impl_InversionsOf.mono _ _)
   | (with_reducible exact laws_wSame.mono _ _ _)
   | (with_reducible exact laws_wSameLists.mono _ _ _)
   | (with_reducible exact laws_wSum.mono _ _)
   | (with_reducible exact spec_BelowCounts.mono _ _)
   | (with_reducible exact spec_DepthsOf.mono _ _)
   | (with_reducible exact spec_DrawInversionPairs.mono _ _)
   | (with_reducible exact spec_InversionPairs.mono _ _)
   | (with_reducible exact LeO.refl _)
   | (with_reducible exact LeO.none _)
   | (with_reducible refine LeO.ite ?_ ?_)
   | (with_reducible refine LeO.bind ?_ (fun _ => ?_))
   | exact LeO.none _
   | refine LeO.ite ?_ ?_
   | refine LeO.bind ?_ (fun _ => ?_)
  ·intro y0 y1 y2 y3
   unfold laws_FnTreesMeasured.l2
   repeat' first
   | (with_reducible exact ih0 _ _ _ _ _ _ _)
   | (with_reducible exact ih1 _ _ _ _)
   | (with_reducible exact ih2 _ _ _ _ _)
   | (with_reducible exact ih3 _ _ _ _ _ _)
   | (with_reducible exact ih4 _ _ _ _)
   | (with_reducible exact ih5 _ _ _ _ _ _ _)
   | (with_reducible exact impl_BelowCounts.mono _ _)
   | (with_reducible exact impl_BreadthOrder.mono _ _)
   | (with_reducible exact impl_DepthsOf.mono _ _)
   | (with_reducible exact impl_InversionPairs.mono _ _)
   | (with_reducible exact impl_InversionsOf.mono _ _)
   | (with_reducible exact laws_wSame.mono _ _ _)
   | (with_reducible exact laws_wSameLists.mono _ _ _)
   | (with_reducible exact laws_wSum.mono _ _)
   | (with_reducible exact spec_BelowCounts.mono _ _)
   | (with_reducible exact spec_DepthsOf.mono _ _)
   | (with_reducible exact spec_DrawInversionPairs.mono _ _)
   | (with_reducible exact spec_InversionPairs.mono _ _)
   | (with_reducible exact LeO.refl _)
   | (with_reducible exact LeO.none _)
   | (with_reducible refine LeO.ite ?_ ?_)
   | (with_reducible refine LeO.bind ?_ (fun _ => ?_))
   | exact LeO.none _
   | refine LeO.ite ?_ ?_
   | refine LeO.bind ?_ (fun _ => ?_)
  ·intro y0 y1 y2 y3 y4 y5 y6
   unfold laws_FnTreesMeasured.l3
   repeat' first
   | (with_reducible exact ih0 _ _ _ _ _ _ _)
   | (with_reducible exact ih1 _ _ _ _)
   | (with_reducible exact ih2 _ _ _ _ _)
   | (with_reducible exact ih3 _ _ _ _ _ _)
   | (with_reducible exact ih4 _ _ _ _)
   | (with_reducible exact ih5 _ _ _ _ _ _ _)
   | (with_reducible exact impl_BelowCounts.mono _ _)
   | (with_reducible exact impl_BreadthOrder.mono _ _)
   | (with_reducible exact impl_DepthsOf.mono _ _)
   | (with_reducible exact impl_InversionPairs.mono _ _)
   | (with_reducible exact impl_InversionsOf.mono _ _)
   | (with_reducible exact laws_wSame.mono _ _ _)
   | (with_reducible exact laws_wSameLists.mono _ _ _)
   | (with_reducible exact laws_wSum.mono _ _)
   | (with_reducible exact spec_BelowCounts.mono _ _)
   | (with_reducible exact spec_DepthsOf.mono _ _)
   | (with_reducible exact spec_DrawInversionPairs.mono _ _)
   | (with_reducible exact spec_InversionPairs.mono _ _)
   | (with_reducible exact LeO.refl _)
   | (with_reducible exact LeO.none _)
   | (with_reducible refine LeO.ite ?_ ?_)
   | (with_reducible refine LeO.bind ?_ (fun _ => ?_))
   | exact LeO.none _
   | refine LeO.ite ?_ ?_
   | refine LeO.bind ?_ (fun _ => ?_)
theorem laws_FnTreesMeasured.mono : ∀ a0 a1 k, LeO (laws_FnTreesMeasured.f k a0 a1) (laws_FnTreesMeasured.f (k + 1) a0 a1) := by
 intro a0 a1 k
 obtain ⟨ih0, ih1, ih2, ih3, ih4, ih5⟩ := laws_FnTreesMeasured.mono_l k
 unfold laws_FnTreesMeasured.f
 repeat' first
   | (with_reducible exact ih0 _ _ _ _ _ _ _)
   | (with_reducible exact ih1 _ _ _ _)
   | (with_reducible exact ih2 _ _ _ _ _)
   | (with_reducible exact ih3 _ _ _ _ _ _)
   | (with_reducible exact ih4 _ _ _ _)
   | (with_reducible exact ih5 _ _ _ _ _ _ _)
   | (with_reducible exact impl_BelowCounts.mono _ _)
   | (with_reducible exact impl_BreadthOrder.mono _ _)
   | (with_reducible exact impl_DepthsOf.mono _ _)
   | (with_reducible exact impl_InversionPairs.mono _ _)
   | (with_reducible exact impl_InversionsOf.mono _ _)
   | (with_reducible exact laws_wSame.mono _ _ _)
   | (with_reducible exact laws_wSameLists.mono _ _ _)
   | (with_reducible exact laws_wSum.mono _ _)
   | (with_reducible exact spec_BelowCounts.mono _ _)
   | (with_reducible exact spec_DepthsOf.mono _ _)
   | (with_reducible exact spec_DrawInversionPairs.mono _ _)
   | (with_reducible exact spec_InversionPairs.mono _ _)
   | (with_reducible exact LeO.refl _)
   | (with_reducible exact LeO.none _)
   | (with_reducible refine LeO.ite ?_ ?_)
   | (with_reducible refine LeO.bind ?_ (fun _ => ?_))
   | exact LeO.none _
   | refine LeO.ite ?_ ?_
   | refine LeO.bind ?_ (fun _ => ?_)
set_option maxHeartbeats 8000000 in
set_option maxRecDepth 100000 in
theorem laws_FnTreesMeasured.calls (k : Nat) (A0 : Option Addr) (c0 : Nat) (l0 : List Int) (A1 : Option Addr) (c1 : Nat) (l1 : List Int) (r : Bool) (w : World) (hr0 : Kd.C (Kd.int .u8) w A0 l0.length l0) (hc0 : l0.length ≤ c0) (hr1 : Kd.C (Kd.int .u8) w A1 l1.length l1) (hc1 : l1.length ≤ c1) (h : laws_FnTreesMeasured.f k l0 l1 = some r) :
  Calls Try.prog 4 #[.slice A0 l0.length c0, .slice A1 l1.length c1] w fun e w' => e = .returned (.bool r) ∧ Below w.heap.size w w' := by
 have HR0 := Aside0.mk hr0
 have HC0 := Aside0.mk hc0
 clear hr0 hc0
 have HR1 := Aside0.mk hr1
 have HC1 := Aside0.mk hc1
 clear hr1 hc1
 have HB := Aside0.mk (Below.refl w.heap.size w)
 have H : ((laws_big.f l0 l1).bind fun t345 => (if t345 = true then (some true) else ((spec_DrawInversionPairs.f k l0).bind fun t346 => ((impl_InversionPairs.f k t346).bind fun bt349 => ((spec_InversionPairs.f k t346).bind fun bt353 => ((impl_InversionsOf.f k t346).bind fun bt357 => ((impl_DepthsOf.f k t346).bind fun bt359 => ((spec_DepthsOf.f k t346).bind fun bt363 => ((impl_BelowCounts.f k t346).bind fun bt367 => ((spec_BelowCounts.f k t346).bind fun bt371 => (if (bt349.2 != bt353.2) = true then (laws_FnTreesMeasured.j0 k t346 bt349.1 bt353.2 bt357.1 bt359.1 bt367.1 true) else ((laws_wSameLists.f k bt349.1 bt353.1).bind fun t375 => (if t375 = true then (if (bt357.2 != bt349.2) = true then (laws_FnTreesMeasured.j0 k t346 bt349.1 bt353.2 bt357.1 bt359.1 bt367.1 true) else (if (bt359.2 != bt363.2) = true then (laws_FnTreesMeasured.j0 k t346 bt349.1 bt353.2 bt357.1 bt359.1 bt367.1 true) else ((laws_wSame.f k bt359.1 bt363.1).bind fun t376 => (if t376 = true then (if (bt367.2 != bt371.2) = true then (laws_FnTreesMeasured.j0 k t346 bt349.1 bt353.2 bt357.1 bt359.1 bt367.1 true) else ((laws_wSame.f k bt367.1 bt371.1).bind fun t377 => (if t377 = true then (if (bt359.2 != bt349.2) = true then (laws_FnTreesMeasured.j0 k t346 bt349.1 bt353.2 bt357.1 bt359.1 bt367.1 true) else (laws_FnTreesMeasured.j0 k t346 bt349.1 bt353.2 bt357.1 bt359.1 bt367.1 (bt367.2 != bt349.2))) else (laws_FnTreesMeasured.j0 k t346 bt349.1 bt353.2 bt357.1 bt359.1 bt367.1 true)))) else (laws_FnTreesMeasured.j0 k t346 bt349.1 bt353.2 bt357.1 bt359.1 bt367.1 true))))) else (laws_FnTreesMeasured.j0 k t346 bt349.1 bt353.2 bt357.1 bt359.1 bt367.1 true)))))))))))))) = some r := h
 clear h
 replace H := Option.bind_eq_some_iff.mp H
 obtain ⟨t345, A30, H⟩ := H
 replace H : (if t345 = true then (some true) else ((spec_DrawInversionPairs.f k l0).bind fun t346 => ((impl_InversionPairs.f k t346).bind fun bt349 => ((spec_InversionPairs.f k t346).bind fun bt353 => ((impl_InversionsOf.f k t346).bind fun bt357 => ((impl_DepthsOf.f k t346).bind fun bt359 => ((spec_DepthsOf.f k t346).bind fun bt363 => ((impl_BelowCounts.f k t346).bind fun bt367 => ((spec_BelowCounts.f k t346).bind fun bt371 => (if (bt349.2 != bt353.2) = true then (laws_FnTreesMeasured.j0 k t346 bt349.1 bt353.2 bt357.1 bt359.1 bt367.1 true) else ((laws_wSameLists.f k bt349.1 bt353.1).bind fun t375 => (if t375 = true then (if (bt357.2 != bt349.2) = true then (laws_FnTreesMeasured.j0 k t346 bt349.1 bt353.2 bt357.1 bt359.1 bt367.1 true) else (if (bt359.2 != bt363.2) = true then (laws_FnTreesMeasured.j0 k t346 bt349.1 bt353.2 bt357.1 bt359.1 bt367.1 true) else ((laws_wSame.f k bt359.1 bt363.1).bind fun t376 => (if t376 = true then (if (bt367.2 != bt371.2) = true then (laws_FnTreesMeasured.j0 k t346 bt349.1 bt353.2 bt357.1 bt359.1 bt367.1 true) else ((laws_wSame.f k bt367.1 bt371.1).bind fun t377 => (if t377 = true then (if (bt359.2 != bt349.2) = true then (laws_FnTreesMeasured.j0 k t346 bt349.1 bt353.2 bt357.1 bt359.1 bt367.1 true) else (laws_FnTreesMeasured.j0 k t346 bt349.1 bt353.2 bt357.1 bt359.1 bt367.1 (bt367.2 != bt349.2))) else (laws_FnTreesMeasured.j0 k t346 bt349.1 bt353.2 bt357.1 bt359.1 bt367.1 true)))) else (laws_FnTreesMeasured.j0 k t346 bt349.1 bt353.2 bt357.1 bt359.1 bt367.1 true))))) else (laws_FnTreesMeasured.j0 k t346 bt349.1 bt353.2 bt357.1 bt359.1 bt367.1 true))))))))))))) = some r := H
 have A3 := Aside0.mk A30
 clear A30
 by_cases c4 : t345 = true
 ·subst c4
  have H1 : (some true) = some r := by rw [if_pos rfl] at H; exact H
  clear H
  have H := H1
  clear H1
  obtain rfl := Option.some.inj H
  go_enter Try.func4, Try.ntmps4
  go_wp2_with (first | (go_at_call 11; (with_reducible refine (laws_big.calls _ _ l0 _ _ l1 true _ ?side1 ?side2 ?side3 ?side4 A3.out).mono ?_); (case side1 => repeat (first | exact HR0.out | (with_reducible refine Kd.C_alloc ?_ _) | (with_reducible refine Kd.C_drewN ?_ _) | (with_reducible refine Kd.C_drew ?_))); (case side2 => exact HC0.out); (case side3 => repeat (first | exact HR1.out | (with_reducible refine Kd.C_alloc ?_ _) | (with_reducible refine Kd.C_drewN ?_ _) | (with_reducible refine Kd.C_drew ?_))); (case side4 => exact HC1.out); rintro e w' ⟨rfl, ⟨nd, rfl⟩⟩; (try first | exact ⟨rfl, _, World.drewN_drewN _ _ _⟩ | exact ⟨rfl, _, Eq.trans (World.drewN_drewN _ _ _) (congrArg (World.drewN _) (Nat.add_assoc _ _ _))⟩)))
  repeat (go_quiet (first | (go_at_call 11; (with_reducible refine (laws_big.calls _ _ l0 _ _ l1 true _ ?side1 ?side2 ?side3 ?side4 A3.out).mono ?_); (case side1 => repeat (first | exact HR0.out | (with_reducible refine Kd.C_alloc ?_ _) | (with_reducible refine Kd.C_drewN ?_ _) | (with_reducible refine Kd.C_drew ?_))); (case side2 => exact HC0.out); (case side3 => repeat (first | exact HR1.out | (with_reducible refine Kd.C_alloc ?_ _) | (with_reducible refine Kd.C_drewN ?_ _) | (with_reducible refine Kd.C_drew ?_))); (case side4 => exact HC1.out); rintro e w' ⟨rfl, ⟨nd, rfl⟩⟩; (try first | exact ⟨rfl, _, World.drewN_drewN _ _ _⟩ | exact ⟨rfl, _, Eq.trans (World.drewN_drewN _ _ _) (congrArg (World.drewN _) (Nat.add_assoc _ _ _))⟩))); try go_wp2_with (first | (go_at_call 11; (with_reducible refine (laws_big.calls _ _ l0 _ _ l1 true _ ?side1 ?side2 ?side3 ?side4 A3.out).mono ?_); (case side1 => repeat (first | exact HR0.out | (with_reducible refine Kd.C_alloc ?_ _) | (with_reducible refine Kd.C_drewN ?_ _) | (with_reducible refine Kd.C_drew ?_))); (case side2 => exact HC0.out); (case side3 => repeat (first | exact HR1.out | (with_reducible refine Kd.C_alloc ?_ _) | (with_reducible refine Kd.C_drewN ?_ _) | (with_reducible refine Kd.C_drew ?_))); (case side4 => exact HC1.out); rintro e w' ⟨rfl, ⟨nd, rfl⟩⟩; (try first | exact ⟨rfl, _, World.drewN_drewN _ _ _⟩ | exact ⟨rfl, _, Eq.trans (World.drewN_drewN _ _ _) (congrArg (World.drewN _) (Nat.add_assoc _ _ _))⟩))))
  go_ret
  exact ⟨by first | rfl | (simp [errW_none, errW_some] <;> rfl) | (simp [*, errW_none, errW_some] <;> rfl), by repeat (first | (with_reducible first | exact HB.out | apply below_alloc | apply pw_below_drewN | apply below_drew1) | exact HB.out)⟩
 ·as_aux_lemma =>
   replace c4 := Bool.eq_false_iff.mpr c4
   subst c4
   have H1 : ((spec_DrawInversionPairs.f k l0).bind fun t346 => ((impl_InversionPairs.f k t346).bind fun bt349 => ((spec_InversionPairs.f k t346).bind fun bt353 => ((impl_InversionsOf.f k t346).bind fun bt357 => ((impl_DepthsOf.f k t346).bind fun bt359 => ((spec_DepthsOf.f k t346).bind fun bt363 => ((impl_BelowCounts.f k t346).bind fun bt367 => ((spec_BelowCounts.f k t346).bind fun bt371 => (if (bt349.2 != bt353.2) = true then (laws_FnTreesMeasured.j0 k t346 bt349.1 bt353.2 bt357.1 bt359.1 bt367.1 true) else ((laws_wSameLists.f k bt349.1 bt353.1).bind fun t375 => (if t375 = true then (if (bt357.2 != bt349.2) = true then (laws_FnTreesMeasured.j0 k t346 bt349.1 bt353.2 bt357.1 bt359.1 bt367.1 true) else (if (bt359.2 != bt363.2) = true then (laws_FnTreesMeasured.j0 k t346 bt349.1 bt353.2 bt357.1 bt359.1 bt367.1 true) else ((laws_wSame.f k bt359.1 bt363.1).bind fun t376 => (if t376 = true then (if (bt367.2 != bt371.2) = true then (laws_FnTreesMeasured.j0 k t346 bt349.1 bt353.2 bt357.1 bt359.1 bt367.1 true) else ((laws_wSame.f k bt367.1 bt371.1).bind fun t377 => (if t377 = true then (if (bt359.2 != bt349.2) = true then (laws_FnTreesMeasured.j0 k t346 bt349.1 bt353.2 bt357.1 bt359.1 bt367.1 true) else (laws_FnTreesMeasured.j0 k t346 bt349.1 bt353.2 bt357.1 bt359.1 bt367.1 (bt367.2 != bt349.2))) else (laws_FnTreesMeasured.j0 k t346 bt349.1 bt353.2 bt357.1 bt359.1 bt367.1 true)))) else (laws_FnTreesMeasured.j0 k t346 bt349.1 bt353.2 bt357.1 bt359.1 bt367.1 true))))) else (laws_FnTreesMeasured.j0 k t346 bt349.1 bt353.2 bt357.1 bt359.1 bt367.1 true)))))))))))) = some r := by rw [if_neg (show ¬ (false = true) by decide)] at H; exact H
   clear H
   have H := H1
   clear H1
   replace H := Option.bind_eq_some_iff.mp H
   obtain ⟨t346, A50, H⟩ := H
   replace H : ((impl_InversionPairs.f k t346).bind fun bt349 => ((spec_InversionPairs.f k t346).bind fun bt353 => ((impl_InversionsOf.f k t346).bind fun bt357 => ((impl_DepthsOf.f k t346).bind fun bt359 => ((spec_DepthsOf.f k t346).bind fun bt363 => ((impl_BelowCounts.f k t346).bind fun bt367 => ((spec_BelowCounts.f k t346).bind fun bt371 => (if (bt349.2 != bt353.2) = true then (laws_FnTreesMeasured.j0 k t346 bt349.1 bt353.2 bt357.1 bt359.1 bt367.1 true) else ((laws_wSameLists.f k bt349.1 bt353.1).bind fun t375 => (if t375 = true then (if (bt357.2 != bt349.2) = true then (laws_FnTreesMeasured.j0 k t346 bt349.1 bt353.2 bt357.1 bt359.1 bt367.1 true) else (if (bt359.2 != bt363.2) = true then (laws_FnTreesMeasured.j0 k t346 bt349.1 bt353.2 bt357.1 bt359.1 bt367.1 true) else ((laws_wSame.f k bt359.1 bt363.1).bind fun t376 => (if t376 = true then (if (bt367.2 != bt371.2) = true then (laws_FnTreesMeasured.j0 k t346 bt349.1 bt353.2 bt357.1 bt359.1 bt367.1 true) else ((laws_wSame.f k bt367.1 bt371.1).bind fun t377 => (if t377 = true then (if (bt359.2 != bt349.2) = true then (laws_FnTreesMeasured.j0 k t346 bt349.1 bt353.2 bt357.1 bt359.1 bt367.1 true) else (laws_FnTreesMeasured.j0 k t346 bt349.1 bt353.2 bt357.1 bt359.1 bt367.1 (bt367.2 != bt349.2))) else (laws_FnTreesMeasured.j0 k t346 bt349.1 bt353.2 bt357.1 bt359.1 bt367.1 true)))) else (laws_FnTreesMeasured.j0 k t346 bt349.1 bt353.2 bt357.1 bt359.1 bt367.1 true))))) else (laws_FnTreesMeasured.j0 k t346 bt349.1 bt353.2 bt357.1 bt359.1 bt367.1 true))))))))))) = some r := H
   have A5 := Aside0.mk A50
   clear A50
   replace H := Option.bind_eq_some_iff.mp H
   obtain ⟨⟨t349, t350⟩, A60, H⟩ := H
   replace H : ((spec_InversionPairs.f k t346).bind fun bt353 => ((impl_InversionsOf.f k t346).bind fun bt357 => ((impl_DepthsOf.f k t346).bind fun bt359 => ((spec_DepthsOf.f k t346).bind fun bt363 => ((impl_BelowCounts.f k t346).bind fun bt367 => ((spec_BelowCounts.f k t346).bind fun bt371 => (if (t350 != bt353.2) = true then (laws_FnTreesMeasured.j0 k t346 t349 bt353.2 bt357.1 bt359.1 bt367.1 true) else ((laws_wSameLists.f k t349 bt353.1).bind fun t375 => (if t375 = true then (if (bt357.2 != t350) = true then (laws_FnTreesMeasured.j0 k t346 t349 bt353.2 bt357.1 bt359.1 bt367.1 true) else (if (bt359.2 != bt363.2) = true then (laws_FnTreesMeasured.j0 k t346 t349 bt353.2 bt357.1 bt359.1 bt367.1 true) else ((laws_wSame.f k bt359.1 bt363.1).bind fun t376 => (if t376 = true then (if (bt367.2 != bt371.2) = true then (laws_FnTreesMeasured.j0 k t346 t349 bt353.2 bt357.1 bt359.1 bt367.1 true) else ((laws_wSame.f k bt367.1 bt371.1).bind fun t377 => (if t377 = true then (if (bt359.2 != t350) = true then (laws_FnTreesMeasured.j0 k t346 t349 bt353.2 bt357.1 bt359.1 bt367.1 true) else (laws_FnTreesMeasured.j0 k t346 t349 bt353.2 bt357.1 bt359.1 bt367.1 (bt367.2 != t350))) else (laws_FnTreesMeasured.j0 k t346 t349 bt353.2 bt357.1 bt359.1 bt367.1 true)))) else (laws_FnTreesMeasured.j0 k t346 t349 bt353.2 bt357.1 bt359.1 bt367.1 true))))) else (laws_FnTreesMeasured.j0 k t346 t349 bt353.2 bt357.1 bt359.1 bt367.1 true)))))))))) = some r := H
   have A6 := Aside0.mk A60
   clear A60
   replace H := Option.bind_eq_some_iff.mp H
   obtain ⟨⟨t353, t354⟩, A70, H⟩ := H
   replace H : ((impl_InversionsOf.f k t346).bind fun bt357 => ((impl_DepthsOf.f k t346).bind fun bt359 => ((spec_DepthsOf.f k t346).bind fun bt363 => ((impl_BelowCounts.f k t346).bind fun bt367 => ((spec_BelowCounts.f k t346).bind fun bt371 => (if (t350 != t354) = true then (laws_FnTreesMeasured.j0 k t346 t349 t354 bt357.1 bt359.1 bt367.1 true) else ((laws_wSameLists.f k t349 t353).bind fun t375 => (if t375 = true then (if (bt357.2 != t350) = true then (laws_FnTreesMeasured.j0 k t346 t349 t354 bt357.1 bt359.1 bt367.1 true) else (if (bt359.2 != bt363.2) = true then (laws_FnTreesMeasured.j0 k t346 t349 t354 bt357.1 bt359.1 bt367.1 true) else ((laws_wSame.f k bt359.1 bt363.1).bind fun t376 => (if t376 = true then (if (bt367.2 != bt371.2) = true then (laws_FnTreesMeasured.j0 k t346 t349 t354 bt357.1 bt359.1 bt367.1 true) else ((laws_wSame.f k bt367.1 bt371.1).bind fun t377 => (if t377 = true then (if (bt359.2 != t350) = true then (laws_FnTreesMeasured.j0 k t346 t349 t354 bt357.1 bt359.1 bt367.1 true) else (laws_FnTreesMeasured.j0 k t346 t349 t354 bt357.1 bt359.1 bt367.1 (bt367.2 != t350))) else (laws_FnTreesMeasured.j0 k t346 t349 t354 bt357.1 bt359.1 bt367.1 true)))) else (laws_FnTreesMeasured.j0 k t346 t349 t354 bt357.1 bt359.1 bt367.1 true))))) else (laws_FnTreesMeasured.j0 k t346 t349 t354 bt357.1 bt359.1 bt367.1 true))))))))) = some r := H
   have A7 := Aside0.mk A70
   clear A70
   replace H := Option.bind_eq_some_iff.mp H
   obtain ⟨⟨t357, t358⟩, A80, H⟩ := H
   replace H : ((impl_DepthsOf.f k t346).bind fun bt359 => ((spec_DepthsOf.f k t346).bind fun bt363 => ((impl_BelowCounts.f k t346).bind fun bt367 => ((spec_BelowCounts.f k t346).bind fun bt371 => (if (t350 != t354) = true then (laws_FnTreesMeasured.j0 k t346 t349 t354 t357 bt359.1 bt367.1 true) else ((laws_wSameLists.f k t349 t353).bind fun t375 => (if t375 = true then (if (t358 != t350) = true then (laws_FnTreesMeasured.j0 k t346 t349 t354 t357 bt359.1 bt367.1 true) else (if (bt359.2 != bt363.2) = true then (laws_FnTreesMeasured.j0 k t346 t349 t354 t357 bt359.1 bt367.1 true) else ((laws_wSame.f k bt359.1 bt363.1).bind fun t376 => (if t376 = true then (if (bt367.2 != bt371.2) = true then (laws_FnTreesMeasured.j0 k t346 t349 t354 t357 bt359.1 bt367.1 true) else ((laws_wSame.f k bt367.1 bt371.1).bind fun t377 => (if t377 = true then (if (bt359.2 != t350) = true then (laws_FnTreesMeasured.j0 k t346 t349 t354 t357 bt359.1 bt367.1 true) else (laws_FnTreesMeasured.j0 k t346 t349 t354 t357 bt359.1 bt367.1 (bt367.2 != t350))) else (laws_FnTreesMeasured.j0 k t346 t349 t354 t357 bt359.1 bt367.1 true)))) else (laws_FnTreesMeasured.j0 k t346 t349 t354 t357 bt359.1 bt367.1 true))))) else (laws_FnTreesMeasured.j0 k t346 t349 t354 t357 bt359.1 bt367.1 true)))))))) = some r := H
   have A8 := Aside0.mk A80
   clear A80
   replace H := Option.bind_eq_some_iff.mp H
   obtain ⟨⟨t359, t360⟩, A90, H⟩ := H
   replace H : ((spec_DepthsOf.f k t346).bind fun bt363 => ((impl_BelowCounts.f k t346).bind fun bt367 => ((spec_BelowCounts.f k t346).bind fun bt371 => (if (t350 != t354) = true then (laws_FnTreesMeasured.j0 k t346 t349 t354 t357 t359 bt367.1 true) else ((laws_wSameLists.f k t349 t353).bind fun t375 => (if t375 = true then (if (t358 != t350) = true then (laws_FnTreesMeasured.j0 k t346 t349 t354 t357 t359 bt367.1 true) else (if (t360 != bt363.2) = true then (laws_FnTreesMeasured.j0 k t346 t349 t354 t357 t359 bt367.1 true) else ((laws_wSame.f k t359 bt363.1).bind fun t376 => (if t376 = true then (if (bt367.2 != bt371.2) = true then (laws_FnTreesMeasured.j0 k t346 t349 t354 t357 t359 bt367.1 true) else ((laws_wSame.f k bt367.1 bt371.1).bind fun t377 => (if t377 = true then (if (t360 != t350) = true then (laws_FnTreesMeasured.j0 k t346 t349 t354 t357 t359 bt367.1 true) else (laws_FnTreesMeasured.j0 k t346 t349 t354 t357 t359 bt367.1 (bt367.2 != t350))) else (laws_FnTreesMeasured.j0 k t346 t349 t354 t357 t359 bt367.1 true)))) else (laws_FnTreesMeasured.j0 k t346 t349 t354 t357 t359 bt367.1 true))))) else (laws_FnTreesMeasured.j0 k t346 t349 t354 t357 t359 bt367.1 true))))))) = some r := H
   have A9 := Aside0.mk A90
   clear A90
   replace H := Option.bind_eq_some_iff.mp H
   obtain ⟨⟨t363, t364⟩, A100, H⟩ := H
   replace H : ((impl_BelowCounts.f k t346).bind fun bt367 => ((spec_BelowCounts.f k t346).bind fun bt371 => (if (t350 != t354) = true then (laws_FnTreesMeasured.j0 k t346 t349 t354 t357 t359 bt367.1 true) else ((laws_wSameLists.f k t349 t353).bind fun t375 => (if t375 = true then (if (t358 != t350) = true then (laws_FnTreesMeasured.j0 k t346 t349 t354 t357 t359 bt367.1 true) else (if (t360 != t364) = true then (laws_FnTreesMeasured.j0 k t346 t349 t354 t357 t359 bt367.1 true) else ((laws_wSame.f k t359 t363).bind fun t376 => (if t376 = true then (if (bt367.2 != bt371.2) = true then (laws_FnTreesMeasured.j0 k t346 t349 t354 t357 t359 bt367.1 true) else ((laws_wSame.f k bt367.1 bt371.1).bind fun t377 => (if t377 = true then (if (t360 != t350) = true then (laws_FnTreesMeasured.j0 k t346 t349 t354 t357 t359 bt367.1 true) else (laws_FnTreesMeasured.j0 k t346 t349 t354 t357 t359 bt367.1 (bt367.2 != t350))) else (laws_FnTreesMeasured.j0 k t346 t349 t354 t357 t359 bt367.1 true)))) else (laws_FnTreesMeasured.j0 k t346 t349 t354 t357 t359 bt367.1 true))))) else (laws_FnTreesMeasured.j0 k t346 t349 t354 t357 t359 bt367.1 true)))))) = some r := H
   have A10 := Aside0.mk A100
   clear A100
   replace H := Option.bind_eq_some_iff.mp H
   obtain ⟨⟨t367, t368⟩, A110, H⟩ := H
   replace H : ((spec_BelowCounts.f k t346).bind fun bt371 => (if (t350 != t354) = true then (laws_FnTreesMeasured.j0 k t346 t349 t354 t357 t359 t367 true) else ((laws_wSameLists.f k t349 t353).bind fun t375 => (if t375 = true then (if (t358 != t350) = true then (laws_FnTreesMeasured.j0 k t346 t349 t354 t357 t359 t367 true) else (if (t360 != t364) = true then (laws_FnTreesMeasured.j0 k t346 t349 t354 t357 t359 t367 true) else ((laws_wSame.f k t359 t363).bind fun t376 => (if t376 = true then (if (t368 != bt371.2) = true then (laws_FnTreesMeasured.j0 k t346 t349 t354 t357 t359 t367 true) else ((laws_wSame.f k t367 bt371.1).bind fun t377 => (if t377 = true then (if (t360 != t350) = true then (laws_FnTreesMeasured.j0 k t346 t349 t354 t357 t359 t367 true) else (laws_FnTreesMeasured.j0 k t346 t349 t354 t357 t359 t367 (t368 != t350))) else (laws_FnTreesMeasured.j0 k t346 t349 t354 t357 t359 t367 true)))) else (laws_FnTreesMeasured.j0 k t346 t349 t354 t357 t359 t367 true))))) else (laws_FnTreesMeasured.j0 k t346 t349 t354 t357 t359 t367 true))))) = some r := H
   have A11 := Aside0.mk A110
   clear A110
   replace H := Option.bind_eq_some_iff.mp H
   obtain ⟨⟨t371, t372⟩, A120, H⟩ := H
   replace H : (if (t350 != t354) = true then (laws_FnTreesMeasured.j0 k t346 t349 t354 t357 t359 t367 true) else ((laws_wSameLists.f k t349 t353).bind fun t375 => (if t375 = true then (if (t358 != t350) = true then (laws_FnTreesMeasured.j0 k t346 t349 t354 t357 t359 t367 true) else (if (t360 != t364) = true then (laws_FnTreesMeasured.j0 k t346 t349 t354 t357 t359 t367 true) else ((laws_wSame.f k t359 t363).bind fun t376 => (if t376 = true then (if (t368 != t372) = true then (laws_FnTreesMeasured.j0 k t346 t349 t354 t357 t359 t367 true) else ((laws_wSame.f k t367 t371).bind fun t377 => (if t377 = true then (if (t360 != t350) = true then (laws_FnTreesMeasured.j0 k t346 t349 t354 t357 t359 t367 true) else (laws_FnTreesMeasured.j0 k t346 t349 t354 t357 t359 t367 (t368 != t350))) else (laws_FnTreesMeasured.j0 k t346 t349 t354 t357 t359 t367 true)))) else (laws_FnTreesMeasured.j0 k t346 t349 t354 t357 t359 t367 true))))) else (laws_FnTreesMeasured.j0 k t346 t349 t354 t357 t359 t367 true)))) = some r := H
   have A12 := Aside0.mk A120
   clear A120
   have HC13 := Aside0.mk H
   clear H
   go_enter Try.func4, Try.ntmps4
   go_upto_region 11 with (first | (go_at_call 11; (with_reducible refine (laws_big.calls _ _ l0 _ _ l1 false _ ?side1 ?side2 ?side3 ?side4 A3.out).mono ?_); (case side1 => repeat (first | exact HR0.out | (with_reducible refine Kd.C_alloc ?_ _) | (with_reducible refine Kd.C_drewN ?_ _) | (with_reducible refine Kd.C_drew ?_))); (case side2 => exact HC0.out); (case side3 => repeat (first | exact HR1.out | (with_reducible refine Kd.C_alloc ?_ _) | (with_reducible refine Kd.C_drewN ?_ _) | (with_reducible refine Kd.C_drew ?_))); (case side4 => exact HC1.out); rintro e w' ⟨rfl, ⟨nd, rfl⟩⟩; (try first | exact ⟨rfl, _, World.drewN_drewN _ _ _⟩ | exact ⟨rfl, _, Eq.trans (World.drewN_drewN _ _ _) (congrArg (World.drewN _) (Nat.add_assoc _ _ _))⟩)) | (go_at_call 12; (with_reducible refine (spec_DrawInversionPairs.calls k _ _ l0 t346 _ ?side1 ?side2 A5.out).mono ?_); (case side1 => repeat (first | exact HR0.out | (with_reducible refine Kd.C_alloc ?_ _) | (with_reducible refine Kd.C_drewN ?_ _) | (with_reducible refine Kd.C_drew ?_))); (case side2 => exact HC0.out); rintro e w14 ⟨v347, rfl, ho0, hb⟩; have n0_ := Aside0.mk (Kd.R_lower ho0 (below_size (by repeat (first | (with_reducible first | exact HB.out | apply below_alloc | apply pw_below_drewN | apply below_drew1) | exact HB.out)))); have n1_ := Aside0.mk (below_step (by repeat (first | (with_reducible first | exact HB.out | apply below_alloc | apply pw_below_drewN | apply below_drew1) | exact HB.out)) hb); clear HB; have HO348 := n0_; have HB := n1_; clear n0_ n1_; (try clear hb); (try clear hb2); (try clear hk); (try clear hi); (try clear ho0); obtain ⟨Ao15, co15, eo15⟩ := Kd.R_slice HO348.out; subst eo15) | (go_at_call 13; (with_reducible refine (impl_InversionPairs.calls k _ _ t346 t349 t350 _ ?side1 ?side2 A6.out).mono ?_); (case side1 => repeat (first | exact (Kd.R_reads' HO348.out).2.2 | (with_reducible refine Kd.C_alloc ?_ _) | (with_reducible refine Kd.C_drewN ?_ _) | (with_reducible refine Kd.C_drew ?_))); (case side2 => exact (Kd.R_reads' HO348.out).2.1); rintro e w16 ⟨v351, rfl, ho0, hb⟩; have n0_ := Aside0.mk (Kd.R_below (by (with_reducible repeat (first | apply Kd.R_alloc | apply Kd.R_drewN | apply Kd.R_drew)); exact HO348.out) hb); have n1_ := Aside0.mk (Kd.S_lower (Kd.S_new' ho0 (Kd.R_lt (by (with_reducible repeat (first | apply Kd.R_alloc | apply Kd.R_drewN | apply Kd.R_drew)); exact HO348.out))) (below_size (by repeat (first | (with_reducible first | exact HB.out | apply below_alloc | apply pw_below_drewN | apply below_drew1) | exact HB.out)))); have n2_ := Aside0.mk (below_step (by repeat (first | (with_reducible first | exact HB.out | apply below_alloc | apply pw_below_drewN | apply below_drew1) | exact HB.out)) hb); clear HO348; clear HB; have HO348 := n0_; have HO352 := n1_; have HB := n2_; clear n0_ n1_ n2_; (try clear hb); (try clear hb2); (try clear hk); (try clear hi); (try clear ho0)) | (go_at_call 14; (with_reducible refine (spec_InversionPairs.calls k _ _ t346 t353 t354 _ ?side1 ?side2 A7.out).mono ?_); (case side1 => repeat (first | exact (Kd.R_reads' HO348.out).2.2 | (with_reducible refine Kd.C_alloc ?_ _) | (with_reducible refine Kd.C_drewN ?_ _) | (with_reducible refine Kd.C_drew ?_))); (case side2 => exact (Kd.R_reads' HO348.out).2.1); rintro e w17 ⟨v355, rfl, ho0, hb⟩; have n0_ := Aside0.mk (Kd.R_below (by (with_reducible repeat (first | apply Kd.R_alloc | apply Kd.R_drewN | apply Kd.R_drew)); exact HO348.out) hb); have n1_ := Aside0.mk (Kd.S_elder' (by (with_reducible repeat (first | apply Kd.S_alloc | apply Kd.S_drewN | apply Kd.S_drew)); exact HO352.out) (Kd.S_base ho0) hb); have n2_ := Aside0.mk (Kd.S_lower (Kd.S_new' (Kd.S_new' ho0 (Kd.R_lt (by (with_reducible repeat (first | apply Kd.R_alloc | apply Kd.R_drewN | apply Kd.R_drew)); exact HO348.out))) (Kd.S_lt (by (with_reducible repeat (first | apply Kd.S_alloc | apply Kd.S_drewN | apply Kd.S_drew)); exact HO352.out))) (below_size (by repeat (first | (with_reducible first | exact HB.out | apply below_alloc | apply pw_below_drewN | apply below_drew1) | exact HB.out)))); have n3_ := Aside0.mk (below_step (by repeat (first | (with_reducible first | exact HB.out | apply below_alloc | apply pw_below_drewN | apply below_drew1) | exact HB.out)) hb); clear HO348; clear HO352; clear HB; have HO348 := n0_; have HO352 := n1_; have HO356 := n2_; have HB := n3_; clear n0_ n1_ n2_ n3_; (try clear hb); (try clear hb2); (try clear hk); (try clear hi); (try clear ho0)) | (go_at_call 15; (with_reducible refine (impl_InversionsOf.calls k _ _ t346 t357 t358 _ ?side1 ?side2 A8.out).mono ?_); (case side1 => repeat (first | exact (Kd.R_reads' HO348.out).2.2 | (with_reducible refine Kd.C_alloc ?_ _) | (with_reducible refine Kd.C_drewN ?_ _) | (with_reducible refine Kd.C_drew ?_))); (case side2 => exact (Kd.R_reads' HO348.out).2.1); rintro e w18 ⟨rfl, hb⟩; have n0_ := Aside0.mk (Kd.R_below (by (with_reducible repeat (first | apply Kd.R_alloc | apply Kd.R_drewN | apply Kd.R_drew)); exact HO348.out) hb); have n1_ := Aside0.mk (Kd.S_below (by (with_reducible repeat (first | apply Kd.S_alloc | apply Kd.S_drewN | apply Kd.S_drew)); exact HO352.out) hb); have n2_ := Aside0.mk (Kd.S_below (by (with_reducible repeat (first | apply Kd.S_alloc | apply Kd.S_drewN | apply Kd.S_drew)); exact HO356.out) hb); have n3_ := Aside0.mk (below_step (by repeat (first | (with_reducible first | exact HB.out | apply below_alloc | apply pw_below_drewN | apply below_drew1) | exact HB.out)) hb); clear HO348; clear HO352; clear HO356; clear HB; have HO348 := n0_; have HO352 := n1_; have HO356 := n2_; have HB := n3_; clear n0_ n1_ n2_ n3_; (try clear hb); (try clear hb2); (try clear hk); (try clear hi)) | (go_at_call 16; (with_reducible refine (impl_DepthsOf.calls k _ _ t346 t359 t360 _ ?side1 ?side2 A9.out).mono ?_); (case side1 => repeat (first | exact (Kd.R_reads' HO348.out).2.2 | (with_reducible refine Kd.C_alloc ?_ _) | (with_reducible refine Kd.C_drewN ?_ _) | (with_reducible refine Kd.C_drew ?_))); (case side2 => exact (Kd.R_reads' HO348.out).2.1); rintro e w19 ⟨v361, rfl, ho0, hb⟩; have n0_ := Aside0.mk (Kd.R_elder' (by (with_reducible repeat (first | apply Kd.R_alloc | apply Kd.R_drewN | apply Kd.R_drew)); exact HO348.out) (Kd.R_base ho0) hb); have n1_ := Aside0.mk (Kd.S_elder' (by (with_reducible repeat (first | apply Kd.S_alloc | apply Kd.S_drewN | apply Kd.S_drew)); exact HO352.out) (Kd.R_base ho0) hb); have n2_ := Aside0.mk (Kd.S_elder' (by (with_reducible repeat (first | apply Kd.S_alloc | apply Kd.S_drewN | apply Kd.S_drew)); exact HO356.out) (Kd.R_base ho0) hb); have n3_ := Aside0.mk (Kd.R_lower (Kd.R_new' ho0 (Kd.R_lt (by (with_reducible repeat (first | apply Kd.R_alloc | apply Kd.R_drewN | apply Kd.R_drew)); exact HO348.out))) (below_size (by repeat (first | (with_reducible first | exact HB.out | apply below_alloc | apply pw_below_drewN | apply below_drew1) | exact HB.out)))); have n4_ := Aside0.mk (below_step (by repeat (first | (with_reducible first | exact HB.out | apply below_alloc | apply pw_below_drewN | apply below_drew1) | exact HB.out)) hb); clear HO348; clear HO352; clear HO356; clear HB; have HO348 := n0_; have HO352 := n1_; have HO356 := n2_; have HO362 := n3_; have HB := n4_; clear n0_ n1_ n2_ n3_ n4_; (try clear hb); (try clear hb2); (try clear hk); (try clear hi); (try clear ho0)) | (go_at_call 17; (with_reducible refine (spec_DepthsOf.calls k _ _ t346 t363 t364 _ ?side1 ?side2 A10.out).mono ?_); (case side1 => repeat (first | exact (Kd.R_reads' HO348.out).2.2 | (with_reducible refine Kd.C_alloc ?_ _) | (with_reducible refine Kd.C_drewN ?_ _) | (with_reducible refine Kd.C_drew ?_))); (case side2 => exact (Kd.R_reads' HO348.out).2.1); rintro e w20 ⟨v365, rfl, ho0, hb⟩; have n0_ := Aside0.mk (Kd.R_elder' (by (with_reducible repeat (first | apply Kd.R_alloc | apply Kd.R_drewN | apply Kd.R_drew)); exact HO348.out) (Kd.R_base ho0) hb); have n1_ := Aside0.mk (Kd.S_elder' (by (with_reducible repeat (first | apply Kd.S_alloc | apply Kd.S_drewN | apply Kd.S_drew)); exact HO352.out) (Kd.R_base ho0) hb); have n2_ := Aside0.mk (Kd.S_elder' (by (with_reducible repeat (first | apply Kd.S_alloc | apply Kd.S_drewN | apply Kd.S_drew)); exact HO356.out) (Kd.R_base ho0) hb); have n3_ := Aside0.mk (Kd.R_elder' (by (with_reducible repeat (first | apply Kd.R_alloc | apply Kd.R_drewN | apply Kd.R_drew)); exact HO362.out) (Kd.R_base ho0) hb); have n4_ := Aside0.mk (Kd.R_lower (Kd.R_new' (Kd.R_new' ho0 (Kd.R_lt (by (with_reducible repeat (first | apply Kd.R_alloc | apply Kd.R_drewN | apply Kd.R_drew)); exact HO348.out))) (Kd.R_lt (by (with_reducible repeat (first | apply Kd.R_alloc | apply Kd.R_drewN | apply Kd.R_drew)); exact HO362.out))) (below_size (by repeat (first | (with_reducible first | exact HB.out | apply below_alloc | apply pw_below_drewN | apply below_drew1) | exact HB.out)))); have n5_ := Aside0.mk (below_step (by repeat (first | (with_reducible first | exact HB.out | apply below_alloc | apply pw_below_drewN | apply below_drew1) | exact HB.out)) hb); clear HO348; clear HO352; clear HO356; clear HO362; clear HB; have HO348 := n0_; have HO352 := n1_; have HO356 := n2_; have HO362 := n3_; have HO366 := n4_; have HB := n5_; clear n0_ n1_ n2_ n3_ n4_ n5_; (try clear hb); (try clear hb2); (try clear hk); (try clear hi); (try clear ho0)) | (go_at_call 18; (with_reducible refine (impl_BelowCounts.calls k _ _ t346 t367 t368 _ ?side1 ?side2 A11.out).mono ?_); (case side1 => repeat (first | exact (Kd.R_reads' HO348.out).2.2 | (with_reducible refine Kd.C_alloc ?_ _) | (with_reducible refine Kd.C_drewN ?_ _) | (with_reducible refine Kd.C_drew ?_))); (case side2 => exact (Kd.R_reads' HO348.out).2.1); rintro e w21 ⟨v369, rfl, ho0, hb⟩; have n0_ := Aside0.mk (Kd.R_elder' (by (with_reducible repeat (first | apply Kd.R_alloc | apply Kd.R_drewN | apply Kd.R_drew)); exact HO348.out) (Kd.R_base ho0) hb); have n1_ := Aside0.mk (Kd.S_elder' (by (with_reducible repeat (first | apply Kd.S_alloc | apply Kd.S_drewN | apply Kd.S_drew)); exact HO352.out) (Kd.R_base ho0) hb); have n2_ := Aside0.mk (Kd.S_elder' (by (with_reducible repeat (first | apply Kd.S_alloc | apply Kd.S_drewN | apply Kd.S_drew)); exact HO356.out) (Kd.R_base ho0) hb); have n3_ := Aside0.mk (Kd.R_elder' (by (with_reducible repeat (first | apply Kd.R_alloc | apply Kd.R_drewN | apply Kd.R_drew)); exact HO362.out) (Kd.R_base ho0) hb); have n4_ := Aside0.mk (Kd.R_elder' (by (with_reducible repeat (first | apply Kd.R_alloc | apply Kd.R_drewN | apply Kd.R_drew)); exact HO366.out) (Kd.R_base ho0) hb); have n5_ := Aside0.mk (Kd.R_lower (Kd.R_new' (Kd.R_new' (Kd.R_new' ho0 (Kd.R_lt (by (with_reducible repeat (first | apply Kd.R_alloc | apply Kd.R_drewN | apply Kd.R_drew)); exact HO348.out))) (Kd.R_lt (by (with_reducible repeat (first | apply Kd.R_alloc | apply Kd.R_drewN | apply Kd.R_drew)); exact HO362.out))) (Kd.R_lt (by (with_reducible repeat (first | apply Kd.R_alloc | apply Kd.R_drewN | apply Kd.R_drew)); exact HO366.out))) (below_size (by repeat (first | (with_reducible first | exact HB.out | apply below_alloc | apply pw_below_drewN | apply below_drew1) | exact HB.out)))); have n6_ := Aside0.mk (below_step (by repeat (first | (with_reducible first | exact HB.out | apply below_alloc | apply pw_below_drewN | apply below_drew1) | exact HB.out)) hb); clear HO348; clear HO352; clear HO356; clear HO362; clear HO366; clear HB; have HO348 := n0_; have HO352 := n1_; have HO356 := n2_; have HO362 := n3_; have HO366 := n4_; have HO370 := n5_; have HB := n6_; clear n0_ n1_ n2_ n3_ n4_ n5_ n6_; (try clear hb); (try clear hb2); (try clear hk); (try clear hi); (try clear ho0)) | (go_at_call 19; (with_reducible refine (spec_BelowCounts.calls k _ _ t346 t371 t372 _ ?side1 ?side2 A12.out).mono ?_); (case side1 => repeat (first | exact (Kd.R_reads' HO348.out).2.2 | (with_reducible refine Kd.C_alloc ?_ _) | (with_reducible refine Kd.C_drewN ?_ _) | (with_reducible refine Kd.C_drew ?_))); (case side2 => exact (Kd.R_reads' HO348.out).2.1); rintro e w22 ⟨v373, rfl, ho0, hb⟩; have n0_ := Aside0.mk (Kd.R_elder' (by (with_reducible repeat (first | apply Kd.R_alloc | apply Kd.R_drewN | apply Kd.R_drew)); exact HO348.out) (Kd.R_base ho0) hb); have n1_ := Aside0.mk (Kd.S_elder' (by (with_reducible repeat (first | apply Kd.S_alloc | apply Kd.S_drewN | apply Kd.S_drew)); exact HO352.out) (Kd.R_base ho0) hb); have n2_ := Aside0.mk (Kd.S_elder' (by (with_reducible repeat (first | apply Kd.S_alloc | apply Kd.S_drewN | apply Kd.S_drew)); exact HO356.out) (Kd.R_base ho0) hb); have n3_ := Aside0.mk (Kd.R_elder' (by (with_reducible repeat (first | apply Kd.R_alloc | apply Kd.R_drewN | apply Kd.R_drew)); exact HO362.out) (Kd.R_base ho0) hb); have n4_ := Aside0.mk (Kd.R_elder' (by (with_reducible repeat (first | apply Kd.R_alloc | apply Kd.R_drewN | apply Kd.R_drew)); exact HO366.out) (Kd.R_base ho0) hb); have n5_ := Aside0.mk (Kd.R_elder' (by (with_reducible repeat (first | apply Kd.R_alloc | apply Kd.R_drewN | apply Kd.R_drew)); exact HO370.out) (Kd.R_base ho0) hb); have n6_ := Aside0.mk (Kd.R_lower (Kd.R_new' (Kd.R_new' (Kd.R_new' (Kd.R_new' ho0 (Kd.R_lt (by (with_reducible repeat (first | apply Kd.R_alloc | apply Kd.R_drewN | apply Kd.R_drew)); exact HO348.out))) (Kd.R_lt (by (with_reducible repeat (first | apply Kd.R_alloc | apply Kd.R_drewN | apply Kd.R_drew)); exact HO362.out))) (Kd.R_lt (by (with_reducible repeat (first | apply Kd.R_alloc | apply Kd.R_drewN | apply Kd.R_drew)); exact HO366.out))) (Kd.R_lt (by (with_reducible repeat (first | apply Kd.R_alloc | apply Kd.R_drewN | apply Kd.R_drew)); exact HO370.out))) (below_size (by repeat (first | (with_reducible first | exact HB.out | apply below_alloc | apply pw_below_drewN | apply below_drew1) | exact HB.out)))); have n7_ := Aside0.mk (below_step (by repeat (first | (with_reducible first | exact HB.out | apply below_alloc | apply pw_below_drewN | apply below_drew1) | exact HB.out)) hb); clear HO348; clear HO352; clear HO356; clear HO362; clear HO366; clear HO370; clear HB; have HO348 := n0_; have HO352 := n1_; have HO356 := n2_; have HO362 := n3_; have HO366 := n4_; have HO370 := n5_; have HO374 := n6_; have HB := n7_; clear n0_ n1_ n2_ n3_ n4_ n5_ n6_ n7_; (try clear hb); (try clear hb2); (try clear hk); (try clear hi); (try clear ho0)))
   repeat (go_quiet (first | (go_at_call 11; (with_reducible refine (laws_big.calls _ _ l0 _ _ l1 false _ ?side1 ?side2 ?side3 ?side4 A3.out).mono ?_); (case side1 => repeat (first | exact HR0.out | (with_reducible refine Kd.C_alloc ?_ _) | (with_reducible refine Kd.C_drewN ?_ _) | (with_reducible refine Kd.C_drew ?_))); (case side2 => exact HC0.out); (case side3 => repeat (first | exact HR1.out | (with_reducible refine Kd.C_alloc ?_ _) | (with_reducible refine Kd.C_drewN ?_ _) | (with_reducible refine Kd.C_drew ?_))); (case side4 => exact HC1.out); rintro e w' ⟨rfl, ⟨nd, rfl⟩⟩; (try first | exact ⟨rfl, _, World.drewN_drewN _ _ _⟩ | exact ⟨rfl, _, Eq.trans (World.drewN_drewN _ _ _) (congrArg (World.drewN _) (Nat.add_assoc _ _ _))⟩)) | (go_at_call 12; (with_reducible refine (spec_DrawInversionPairs.calls k _ _ l0 t346 _ ?side1 ?side2 A5.out).mono ?_); (case side1 => repeat (first | exact HR0.out | (with_reducible refine Kd.C_alloc ?_ _) | (with_reducible refine Kd.C_drewN ?_ _) | (with_reducible refine Kd.C_drew ?_))); (case side2 => exact HC0.out); rintro e w14 ⟨v347, rfl, ho0, hb⟩; have n0_ := Aside0.mk (Kd.R_lower ho0 (below_size (by repeat (first | (with_reducible first | exact HB.out | apply below_alloc | apply pw_below_drewN | apply below_drew1) | exact HB.out)))); have n1_ := Aside0.mk (below_step (by repeat (first | (with_reducible first | exact HB.out | apply below_alloc | apply pw_below_drewN | apply below_drew1) | exact HB.out)) hb); clear HB; have HO348 := n0_; have HB := n1_; clear n0_ n1_; (try clear hb); (try clear hb2); (try clear hk); (try clear hi); (try clear ho0); obtain ⟨Ao15, co15, eo15⟩ := Kd.R_slice HO348.out; subst eo15) | (go_at_call 13; (with_reducible refine (impl_InversionPairs.calls k _ _ t346 t349 t350 _ ?side1 ?side2 A6.out).mono ?_); (case side1 => repeat (first | exact (Kd.R_reads' HO348.out).2.2 | (with_reducible refine Kd.C_alloc ?_ _) | (with_reducible refine Kd.C_drewN ?_ _) | (with_reducible refine Kd.C_drew ?_))); (case side2 => exact (Kd.R_reads' HO348.out).2.1); rintro e w16 ⟨v351, rfl, ho0, hb⟩; have n0_ := Aside0.mk (Kd.R_below (by (with_reducible repeat (first | apply Kd.R_alloc | apply Kd.R_drewN | apply Kd.R_drew)); exact HO348.out) hb); have n1_ := Aside0.mk (Kd.S_lower (Kd.S_new' ho0 (Kd.R_lt (by (with_reducible repeat (first | apply Kd.R_alloc | apply Kd.R_drewN | apply Kd.R_drew)); exact HO348.out))) (below_size (by repeat (first | (with_reducible first | exact HB.out | apply below_alloc | apply pw_below_drewN | apply below_drew1) | exact HB.out)))); have n2_ := Aside0.mk (below_step (by repeat (first | (with_reducible first | exact HB.out | apply below_alloc | apply pw_below_drewN | apply below_drew1) | exact HB.out)) hb); clear HO348; clear HB; have HO348 := n0_; have HO352 := n1_; have HB := n2_; clear n0_ n1_ n2_; (try clear hb); (try clear hb2); (try clear hk); (try clear hi); (try clear ho0)) | (go_at_call 14; (with_reducible refine (spec_InversionPairs.calls k _ _ t346 t353 t354 _ ?side1 ?side2 A7.out).mono ?_); (case side1 => repeat (first | exact (Kd.R_reads' HO348.out).2.2 | (with_reducible refine Kd.C_alloc ?_ _) | (with_reducible refine Kd.C_drewN ?_ _) | (with_reducible refine Kd.C_drew ?_))); (case side2 => exact (Kd.R_reads' HO348.out).2.1); rintro e w17 ⟨v355, rfl, ho0, hb⟩; have n0_ := Aside0.mk (Kd.R_below (by (with_reducible repeat (first | apply Kd.R_alloc | apply Kd.R_drewN | apply Kd.R_drew)); exact HO348.out) hb); have n1_ := Aside0.mk (Kd.S_elder' (by (with_reducible repeat (first | apply Kd.S_alloc | apply Kd.S_drewN | apply Kd.S_drew)); exact HO352.out) (Kd.S_base ho0) hb); have n2_ := Aside0.mk (Kd.S_lower (Kd.S_new' (Kd.S_new' ho0 (Kd.R_lt (by (with_reducible repeat (first | apply Kd.R_alloc | apply Kd.R_drewN | apply Kd.R_drew)); exact HO348.out))) (Kd.S_lt (by (with_reducible repeat (first | apply Kd.S_alloc | apply Kd.S_drewN | apply Kd.S_drew)); exact HO352.out))) (below_size (by repeat (first | (with_reducible first | exact HB.out | apply below_alloc | apply pw_below_drewN | apply below_drew1) | exact HB.out)))); have n3_ := Aside0.mk (below_step (by repeat (first | (with_reducible first | exact HB.out | apply below_alloc | apply pw_below_drewN | apply below_drew1) | exact HB.out)) hb); clear HO348; clear HO352; clear HB; have HO348 := n0_; have HO352 := n1_; have HO356 := n2_; have HB := n3_; clear n0_ n1_ n2_ n3_; (try clear hb); (try clear hb2); (try clear hk); (try clear hi); (try clear ho0)) | (go_at_call 15; (with_reducible refine (impl_InversionsOf.calls k _ _ t346 t357 t358 _ ?side1 ?side2 A8.out).mono ?_); (case side1 => repeat (first | exact (Kd.R_reads' HO348.out).2.2 | (with_reducible refine Kd.C_alloc ?_ _) | (with_reducible refine Kd.C_drewN ?_ _) | (with_reducible refine Kd.C_drew ?_))); (case side2 => exact (Kd.R_reads' HO348.out).2.1); rintro e w18 ⟨rfl, hb⟩; have n0_ := Aside0.mk (Kd.R_below (by (with_reducible repeat (first | apply Kd.R_alloc | apply Kd.R_drewN | apply Kd.R_drew)); exact HO348.out) hb); have n1_ := Aside0.mk (Kd.S_below (by (with_reducible repeat (first | apply Kd.S_alloc | apply Kd.S_drewN | apply Kd.S_drew)); exact HO352.out) hb); have n2_ := Aside0.mk (Kd.S_below (by (with_reducible repeat (first | apply Kd.S_alloc | apply Kd.S_drewN | apply Kd.S_drew)); exact HO356.out) hb); have n3_ := Aside0.mk (below_step (by repeat (first | (with_reducible first | exact HB.out | apply below_alloc | apply pw_below_drewN | apply below_drew1) | exact HB.out)) hb); clear HO348; clear HO352; clear HO356; clear HB; have HO348 := n0_; have HO352 := n1_; have HO356 := n2_; have HB := n3_; clear n0_ n1_ n2_ n3_; (try clear hb); (try clear hb2); (try clear hk); (try clear hi)) | (go_at_call 16; (with_reducible refine (impl_DepthsOf.calls k _ _ t346 t359 t360 _ ?side1 ?side2 A9.out).mono ?_); (case side1 => repeat (first | exact (Kd.R_reads' HO348.out).2.2 | (with_reducible refine Kd.C_alloc ?_ _) | (with_reducible refine Kd.C_drewN ?_ _) | (with_reducible refine Kd.C_drew ?_))); (case side2 => exact (Kd.R_reads' HO348.out).2.1); rintro e w19 ⟨v361, rfl, ho0, hb⟩; have n0_ := Aside0.mk (Kd.R_elder' (by (with_reducible repeat (first | apply Kd.R_alloc | apply Kd.R_drewN | apply Kd.R_drew)); exact HO348.out) (Kd.R_base ho0) hb); have n1_ := Aside0.mk (Kd.S_elder' (by (with_reducible repeat (first | apply Kd.S_alloc | apply Kd.S_drewN | apply Kd.S_drew)); exact HO352.out) (Kd.R_base ho0) hb); have n2_ := Aside0.mk (Kd.S_elder' (by (with_reducible repeat (first | apply Kd.S_alloc | apply Kd.S_drewN | apply Kd.S_drew)); exact HO356.out) (Kd.R_base ho0) hb); have n3_ := Aside0.mk (Kd.R_lower (Kd.R_new' ho0 (Kd.R_lt (by (with_reducible repeat (first | apply Kd.R_alloc | apply Kd.R_drewN | apply Kd.R_drew)); exact HO348.out))) (below_size (by repeat (first | (with_reducible first | exact HB.out | apply below_alloc | apply pw_below_drewN | apply below_drew1) | exact HB.out)))); have n4_ := Aside0.mk (below_step (by repeat (first | (with_reducible first | exact HB.out | apply below_alloc | apply pw_below_drewN | apply below_drew1) | exact HB.out)) hb); clear HO348; clear HO352; clear HO356; clear HB; have HO348 := n0_; have HO352 := n1_; have HO356 := n2_; have HO362 := n3_; have HB := n4_; clear n0_ n1_ n2_ n3_ n4_; (try clear hb); (try clear hb2); (try clear hk); (try clear hi); (try clear ho0)) | (go_at_call 17; (with_reducible refine (spec_DepthsOf.calls k _ _ t346 t363 t364 _ ?side1 ?side2 A10.out).mono ?_); (case side1 => repeat (first | exact (Kd.R_reads' HO348.out).2.2 | (with_reducible refine Kd.C_alloc ?_ _) | (with_reducible refine Kd.C_drewN ?_ _) | (with_reducible refine Kd.C_drew ?_))); (case side2 => exact (Kd.R_reads' HO348.out).2.1); rintro e w20 ⟨v365, rfl, ho0, hb⟩; have n0_ := Aside0.mk (Kd.R_elder' (by (with_reducible repeat (first | apply Kd.R_alloc | apply Kd.R_drewN | apply Kd.R_drew)); exact HO348.out) (Kd.R_base ho0) hb); have n1_ := Aside0.mk (Kd.S_elder' (by (with_reducible repeat (first | apply Kd.S_alloc | apply Kd.S_drewN | apply Kd.S_drew)); exact HO352.out) (Kd.R_base ho0) hb); have n2_ := Aside0.mk (Kd.S_elder' (by (with_reducible repeat (first | apply Kd.S_alloc | apply Kd.S_drewN | apply Kd.S_drew)); exact HO356.out) (Kd.R_base ho0) hb); have n3_ := Aside0.mk (Kd.R_elder' (by (with_reducible repeat (first | apply Kd.R_alloc | apply Kd.R_drewN | apply Kd.R_drew)); exact HO362.out) (Kd.R_base ho0) hb); have n4_ := Aside0.mk (Kd.R_lower (Kd.R_new' (Kd.R_new' ho0 (Kd.R_lt (by (with_reducible repeat (first | apply Kd.R_alloc | apply Kd.R_drewN | apply Kd.R_drew)); exact HO348.out))) (Kd.R_lt (by (with_reducible repeat (first | apply Kd.R_alloc | apply Kd.R_drewN | apply Kd.R_drew)); exact HO362.out))) (below_size (by repeat (first | (with_reducible first | exact HB.out | apply below_alloc | apply pw_below_drewN | apply below_drew1) | exact HB.out)))); have n5_ := Aside0.mk (below_step (by repeat (first | (with_reducible first | exact HB.out | apply below_alloc | apply pw_below_drewN | apply below_drew1) | exact HB.out)) hb); clear HO348; clear HO352; clear HO356; clear HO362; clear HB; have HO348 := n0_; have HO352 := n1_; have HO356 := n2_; have HO362 := n3_; have HO366 := n4_; have HB := n5_; clear n0_ n1_ n2_ n3_ n4_ n5_; (try clear hb); (try clear hb2); (try clear hk); (try clear hi); (try clear ho0)) | (go_at_call 18; (with_reducible refine (impl_BelowCounts.calls k _ _ t346 t367 t368 _ ?side1 ?side2 A11.out).mono ?_); (case side1 => repeat (first | exact (Kd.R_reads' HO348.out).2.2 | (with_reducible refine Kd.C_alloc ?_ _) | (with_reducible refine Kd.C_drewN ?_ _) | (with_reducible refine Kd.C_drew ?_))); (case side2 => exact (Kd.R_reads' HO348.out).2.1); rintro e w21 ⟨v369, rfl, ho0, hb⟩; have n0_ := Aside0.mk (Kd.R_elder' (by (with_reducible repeat (first | apply Kd.R_alloc | apply Kd.R_drewN | apply Kd.R_drew)); exact HO348.out) (Kd.R_base ho0) hb); have n1_ := Aside0.mk (Kd.S_elder' (by (with_reducible repeat (first | apply Kd.S_alloc | apply Kd.S_drewN | apply Kd.S_drew)); exact HO352.out) (Kd.R_base ho0) hb); have n2_ := Aside0.mk (Kd.S_elder' (by (with_reducible repeat (first | apply Kd.S_alloc | apply Kd.S_drewN | apply Kd.S_drew)); exact HO356.out) (Kd.R_base ho0) hb); have n3_ := Aside0.mk (Kd.R_elder' (by (with_reducible repeat (first | apply Kd.R_alloc | apply Kd.R_drewN | apply Kd.R_drew)); exact HO362.out) (Kd.R_base ho0) hb); have n4_ := Aside0.mk (Kd.R_elder' (by (with_reducible repeat (first | apply Kd.R_alloc | apply Kd.R_drewN | apply Kd.R_drew)); exact HO366.out) (Kd.R_base ho0) hb); have n5_ := Aside0.mk (Kd.R_lower (Kd.R_new' (Kd.R_new' (Kd.R_new' ho0 (Kd.R_lt (by (with_reducible repeat (first | apply Kd.R_alloc | apply Kd.R_drewN | apply Kd.R_drew)); exact HO348.out))) (Kd.R_lt (by (with_reducible repeat (first | apply Kd.R_alloc | apply Kd.R_drewN | apply Kd.R_drew)); exact HO362.out))) (Kd.R_lt (by (with_reducible repeat (first | apply Kd.R_alloc | apply Kd.R_drewN | apply Kd.R_drew)); exact HO366.out))) (below_size (by repeat (first | (with_reducible first | exact HB.out | apply below_alloc | apply pw_below_drewN | apply below_drew1) | exact HB.out)))); have n6_ := Aside0.mk (below_step (by repeat (first | (with_reducible first | exact HB.out | apply below_alloc | apply pw_below_drewN | apply below_drew1) | exact HB.out)) hb); clear HO348; clear HO352; clear HO356; clear HO362; clear HO366; clear HB; have HO348 := n0_; have HO352 := n1_; have HO356 := n2_; have HO362 := n3_; have HO366 := n4_; have HO370 := n5_; have HB := n6_; clear n0_ n1_ n2_ n3_ n4_ n5_ n6_; (try clear hb); (try clear hb2); (try clear hk); (try clear hi); (try clear ho0)) | (go_at_call 19; (with_reducible refine (spec_BelowCounts.calls k _ _ t346 t371 t372 _ ?side1 ?side2 A12.out).mono ?_); (case side1 => repeat (first | exact (Kd.R_reads' HO348.out).2.2 | (with_reducible refine Kd.C_alloc ?_ _) | (with_reducible refine Kd.C_drewN ?_ _) | (with_reducible refine Kd.C_drew ?_))); (case side2 => exact (Kd.R_reads' HO348.out).2.1); rintro e w22 ⟨v373, rfl, ho0, hb⟩; have n0_ := Aside0.mk (Kd.R_elder' (by (with_reducible repeat (first | apply Kd.R_alloc | apply Kd.R_drewN | apply Kd.R_drew)); exact HO348.out) (Kd.R_base ho0) hb); have n1_ := Aside0.mk (Kd.S_elder' (by (with_reducible repeat (first | apply Kd.S_alloc | apply Kd.S_drewN | apply Kd.S_drew)); exact HO352.out) (Kd.R_base ho0) hb); have n2_ := Aside0.mk (Kd.S_elder' (by (with_reducible repeat (first | apply Kd.S_alloc | apply Kd.S_drewN | apply Kd.S_drew)); exact HO356.out) (Kd.R_base ho0) hb); have n3_ := Aside0.mk (Kd.R_elder' (by (with_reducible repeat (first | apply Kd.R_alloc | apply Kd.R_drewN | apply Kd.R_drew)); exact HO362.out) (Kd.R_base ho0) hb); have n4_ := Aside0.mk (Kd.R_elder' (by (with_reducible repeat (first | apply Kd.R_alloc | apply Kd.R_drewN | apply Kd.R_drew)); exact HO366.out) (Kd.R_base ho0) hb); have n5_ := Aside0.mk (Kd.R_elder' (by (with_reducible repeat (first | apply Kd.R_alloc | apply Kd.R_drewN | apply Kd.R_drew)); exact HO370.out) (Kd.R_base ho0) hb); have n6_ := Aside0.mk (Kd.R_lower (Kd.R_new' (Kd.R_new' (Kd.R_new' (Kd.R_new' ho0 (Kd.R_lt (by (with_reducible repeat (first | apply Kd.R_alloc | apply Kd.R_drewN | apply Kd.R_drew)); exact HO348.out))) (Kd.R_lt (by (with_reducible repeat (first | apply Kd.R_alloc | apply Kd.R_drewN | apply Kd.R_drew)); exact HO362.out))) (Kd.R_lt (by (with_reducible repeat (first | apply Kd.R_alloc | apply Kd.R_drewN | apply Kd.R_drew)); exact HO366.out))) (Kd.R_lt (by (with_reducible repeat (first | apply Kd.R_alloc | apply Kd.R_drewN | apply Kd.R_drew)); exact HO370.out))) (below_size (by repeat (first | (with_reducible first | exact HB.out | apply below_alloc | apply pw_below_drewN | apply below_drew1) | exact HB.out)))); have n7_ := Aside0.mk (below_step (by repeat (first | (with_reducible first | exact HB.out | apply below_alloc | apply pw_below_drewN | apply below_drew1) | exact HB.out)) hb); clear HO348; clear HO352; clear HO356; clear HO362; clear HO366; clear HO370; clear HB; have HO348 := n0_; have HO352 := n1_; have HO356 := n2_; have HO362 := n3_; have HO366 := n4_; have HO370 := n5_; have HO374 := n6_; have HB := n7_; clear n0_ n1_ n2_ n3_ n4_ n5_ n6_ n7_; (try clear hb); (try clear hb2); (try clear hk); (try clear hi); (try clear ho0))); go_upto_region 11 with (first | (go_at_call 11; (with_reducible refine (laws_big.calls _ _ l0 _ _ l1 false _ ?side1 ?side2 ?side3 ?side4 A3.out).mono ?_); (case side1 => repeat (first | exact HR0.out | (with_reducible refine Kd.C_alloc ?_ _) | (with_reducible refine Kd.C_drewN ?_ _) | (with_reducible refine Kd.C_drew ?_))); (case side2 => exact HC0.out); (case side3 => repeat (first | exact HR1.out | (with_reducible refine Kd.C_alloc ?_ _) | (with_reducible refine Kd.C_drewN ?_ _) | (with_reducible refine Kd.C_drew ?_))); (case side4 => exact HC1.out); rintro e w' ⟨rfl, ⟨nd, rfl⟩⟩; (try first | exact ⟨rfl, _, World.drewN_drewN _ _ _⟩ | exact ⟨rfl, _, Eq.trans (World.drewN_drewN _ _ _) (congrArg (World.drewN _) (Nat.add_assoc _ _ _))⟩)) | (go_at_call 12; (with_reducible refine (spec_DrawInversionPairs.calls k _ _ l0 t346 _ ?side1 ?side2 A5.out).mono ?_); (case side1 => repeat (first | exact HR0.out | (with_reducible refine Kd.C_alloc ?_ _) | (with_reducible refine Kd.C_drewN ?_ _) | (with_reducible refine Kd.C_drew ?_))); (case side2 => exact HC0.out); rintro e w14 ⟨v347, rfl, ho0, hb⟩; have n0_ := Aside0.mk (Kd.R_lower ho0 (below_size (by repeat (first | (with_reducible first | exact HB.out | apply below_alloc | apply pw_below_drewN | apply below_drew1) | exact HB.out)))); have n1_ := Aside0.mk (below_step (by repeat (first | (with_reducible first | exact HB.out | apply below_alloc | apply pw_below_drewN | apply below_drew1) | exact HB.out)) hb); clear HB; have HO348 := n0_; have HB := n1_; clear n0_ n1_; (try clear hb); (try clear hb2); (try clear hk); (try clear hi); (try clear ho0); obtain ⟨Ao15, co15, eo15⟩ := Kd.R_slice HO348.out; subst eo15) | (go_at_call 13; (with_reducible refine (impl_InversionPairs.calls k _ _ t346 t349 t350 _ ?side1 ?side2 A6.out).mono ?_); (case side1 => repeat (first | exact (Kd.R_reads' HO348.out).2.2 | (with_reducible refine Kd.C_alloc ?_ _) | (with_reducible refine Kd.C_drewN ?_ _) | (with_reducible refine Kd.C_drew ?_))); (case side2 => exact (Kd.R_reads' HO348.out).2.1); rintro e w16 ⟨v351, rfl, ho0, hb⟩; have n0_ := Aside0.mk (Kd.R_below (by (with_reducible repeat (first | apply Kd.R_alloc | apply Kd.R_drewN | apply Kd.R_drew)); exact HO348.out) hb); have n1_ := Aside0.mk (Kd.S_lower (Kd.S_new' ho0 (Kd.R_lt (by (with_reducible repeat (first | apply Kd.R_alloc | apply Kd.R_drewN | apply Kd.R_drew)); exact HO348.out))) (below_size (by repeat (first | (with_reducible first | exact HB.out | apply below_alloc | apply pw_below_drewN | apply below_drew1) | exact HB.out)))); have n2_ := Aside0.mk (below_step (by repeat (first | (with_reducible first | exact HB.out | apply below_alloc | apply pw_below_drewN | apply below_drew1) | exact HB.out)) hb); clear HO348; clear HB; have HO348 := n0_; have HO352 := n1_; have HB := n2_; clear n0_ n1_ n2_; (try clear hb); (try clear hb2); (try clear hk); (try clear hi); (try clear ho0)) | (go_at_call 14; (with_reducible refine (spec_InversionPairs.calls k _ _ t346 t353 t354 _ ?side1 ?side2 A7.out).mono ?_); (case side1 => repeat (first | exact (Kd.R_reads' HO348.out).2.2 | (with_reducible refine Kd.C_alloc ?_ _) | (with_reducible refine Kd.C_drewN ?_ _) | (with_reducible refine Kd.C_drew ?_))); (case side2 => exact (Kd.R_reads' HO348.out).2.1); rintro e w17 ⟨v355, rfl, ho0, hb⟩; have n0_ := Aside0.mk (Kd.R_below (by (with_reducible repeat (first | apply Kd.R_alloc | apply Kd.R_drewN | apply Kd.R_drew)); exact HO348.out) hb); have n1_ := Aside0.mk (Kd.S_elder' (by (with_reducible repeat (first | apply Kd.S_alloc | apply Kd.S_drewN | apply Kd.S_drew)); exact HO352.out) (Kd.S_base ho0) hb); have n2_ := Aside0.mk (Kd.S_lower (Kd.S_new' (Kd.S_new' ho0 (Kd.R_lt (by (with_reducible repeat (first | apply Kd.R_alloc | apply Kd.R_drewN | apply Kd.R_drew)); exact HO348.out))) (Kd.S_lt (by (with_reducible repeat (first | apply Kd.S_alloc | apply Kd.S_drewN | apply Kd.S_drew)); exact HO352.out))) (below_size (by repeat (first | (with_reducible first | exact HB.out | apply below_alloc | apply pw_below_drewN | apply below_drew1) | exact HB.out)))); have n3_ := Aside0.mk (below_step (by repeat (first | (with_reducible first | exact HB.out | apply below_alloc | apply pw_below_drewN | apply below_drew1) | exact HB.out)) hb); clear HO348; clear HO352; clear HB; have HO348 := n0_; have HO352 := n1_; have HO356 := n2_; have HB := n3_; clear n0_ n1_ n2_ n3_; (try clear hb); (try clear hb2); (try clear hk); (try clear hi); (try clear ho0)) | (go_at_call 15; (with_reducible refine (impl_InversionsOf.calls k _ _ t346 t357 t358 _ ?side1 ?side2 A8.out).mono ?_); (case side1 => repeat (first | exact (Kd.R_reads' HO348.out).2.2 | (with_reducible refine Kd.C_alloc ?_ _) | (with_reducible refine Kd.C_drewN ?_ _) | (with_reducible refine Kd.C_drew ?_))); (case side2 => exact (Kd.R_reads' HO348.out).2.1); rintro e w18 ⟨rfl, hb⟩; have n0_ := Aside0.mk (Kd.R_below (by (with_reducible repeat (first | apply Kd.R_alloc | apply Kd.R_drewN | apply Kd.R_drew)); exact HO348.out) hb); have n1_ := Aside0.mk (Kd.S_below (by (with_reducible repeat (first | apply Kd.S_alloc | apply Kd.S_drewN | apply Kd.S_drew)); exact HO352.out) hb); have n2_ := Aside0.mk (Kd.S_below (by (with_reducible repeat (first | apply Kd.S_alloc | apply Kd.S_drewN | apply Kd.S_drew)); exact HO356.out) hb); have n3_ := Aside0.mk (below_step (by repeat (first | (with_reducible first | exact HB.out | apply below_alloc | apply pw_below_drewN | apply below_drew1) | exact HB.out)) hb); clear HO348; clear HO352; clear HO356; clear HB; have HO348 := n0_; have HO352 := n1_; have HO356 := n2_; have HB := n3_; clear n0_ n1_ n2_ n3_; (try clear hb); (try clear hb2); (try clear hk); (try clear hi)) | (go_at_call 16; (with_reducible refine (impl_DepthsOf.calls k _ _ t346 t359 t360 _ ?side1 ?side2 A9.out).mono ?_); (case side1 => repeat (first | exact (Kd.R_reads' HO348.out).2.2 | (with_reducible refine Kd.C_alloc ?_ _) | (with_reducible refine Kd.C_drewN ?_ _) | (with_reducible refine Kd.C_drew ?_))); (case side2 => exact (Kd.R_reads' HO348.out).2.1); rintro e w19 ⟨v361, rfl, ho0, hb⟩; have n0_ := Aside0.mk (Kd.R_elder' (by (with_reducible repeat (first | apply Kd.R_alloc | apply Kd.R_drewN | apply Kd.R_drew)); exact HO348.out) (Kd.R_base ho0) hb); have n1_ := Aside0.mk (Kd.S_elder' (by (with_reducible repeat (first | apply Kd.S_alloc | apply Kd.S_drewN | apply Kd.S_drew)); exact HO352.out) (Kd.R_base ho0) hb); have n2_ := Aside0.mk (Kd.S_elder' (by (with_reducible repeat (first | apply Kd.S_alloc | apply Kd.S_drewN | apply Kd.S_drew)); exact HO356.out) (Kd.R_base ho0) hb); have n3_ := Aside0.mk (Kd.R_lower (Kd.R_new' ho0 (Kd.R_lt (by (with_reducible repeat (first | apply Kd.R_alloc | apply Kd.R_drewN | apply Kd.R_drew)); exact HO348.out))) (below_size (by repeat (first | (with_reducible first | exact HB.out | apply below_alloc | apply pw_below_drewN | apply below_drew1) | exact HB.out)))); have n4_ := Aside0.mk (below_step (by repeat (first | (with_reducible first | exact HB.out | apply below_alloc | apply pw_below_drewN | apply below_drew1) | exact HB.out)) hb); clear HO348; clear HO352; clear HO356; clear HB; have HO348 := n0_; have HO352 := n1_; have HO356 := n2_; have HO362 := n3_; have HB := n4_; clear n0_ n1_ n2_ n3_ n4_; (try clear hb); (try clear hb2); (try clear hk); (try clear hi); (try clear ho0)) | (go_at_call 17; (with_reducible refine (spec_DepthsOf.calls k _ _ t346 t363 t364 _ ?side1 ?side2 A10.out).mono ?_); (case side1 => repeat (first | exact (Kd.R_reads' HO348.out).2.2 | (with_reducible refine Kd.C_alloc ?_ _) | (with_reducible refine Kd.C_drewN ?_ _) | (with_reducible refine Kd.C_drew ?_))); (case side2 => exact (Kd.R_reads' HO348.out).2.1); rintro e w20 ⟨v365, rfl, ho0, hb⟩; have n0_ := Aside0.mk (Kd.R_elder' (by (with_reducible repeat (first | apply Kd.R_alloc | apply Kd.R_drewN | apply Kd.R_drew)); exact HO348.out) (Kd.R_base ho0) hb); have n1_ := Aside0.mk (Kd.S_elder' (by (with_reducible repeat (first | apply Kd.S_alloc | apply Kd.S_drewN | apply Kd.S_drew)); exact HO352.out) (Kd.R_base ho0) hb); have n2_ := Aside0.mk (Kd.S_elder' (by (with_reducible repeat (first | apply Kd.S_alloc | apply Kd.S_drewN | apply Kd.S_drew)); exact HO356.out) (Kd.R_base ho0) hb); have n3_ := Aside0.mk (Kd.R_elder' (by (with_reducible repeat (first | apply Kd.R_alloc | apply Kd.R_drewN | apply Kd.R_drew)); exact HO362.out) (Kd.R_base ho0) hb); have n4_ := Aside0.mk (Kd.R_lower (Kd.R_new' (Kd.R_new' ho0 (Kd.R_lt (by (with_reducible repeat (first | apply Kd.R_alloc | apply Kd.R_drewN | apply Kd.R_drew)); exact HO348.out))) (Kd.R_lt (by (with_reducible repeat (first | apply Kd.R_alloc | apply Kd.R_drewN | apply Kd.R_drew)); exact HO362.out))) (below_size (by repeat (first | (with_reducible first | exact HB.out | apply below_alloc | apply pw_below_drewN | apply below_drew1) | exact HB.out)))); have n5_ := Aside0.mk (below_step (by repeat (first | (with_reducible first | exact HB.out | apply below_alloc | apply pw_below_drewN | apply below_drew1) | exact HB.out)) hb); clear HO348; clear HO352; clear HO356; clear HO362; clear HB; have HO348 := n0_; have HO352 := n1_; have HO356 := n2_; have HO362 := n3_; have HO366 := n4_; have HB := n5_; clear n0_ n1_ n2_ n3_ n4_ n5_; (try clear hb); (try clear hb2); (try clear hk); (try clear hi); (try clear ho0)) | (go_at_call 18; (with_reducible refine (impl_BelowCounts.calls k _ _ t346 t367 t368 _ ?side1 ?side2 A11.out).mono ?_); (case side1 => repeat (first | exact (Kd.R_reads' HO348.out).2.2 | (with_reducible refine Kd.C_alloc ?_ _) | (with_reducible refine Kd.C_drewN ?_ _) | (with_reducible refine Kd.C_drew ?_))); (case side2 => exact (Kd.R_reads' HO348.out).2.1); rintro e w21 ⟨v369, rfl, ho0, hb⟩; have n0_ := Aside0.mk (Kd.R_elder' (by (with_reducible repeat (first | apply Kd.R_alloc | apply Kd.R_drewN | apply Kd.R_drew)); exact HO348.out) (Kd.R_base ho0) hb); have n1_ := Aside0.mk (Kd.S_elder' (by (with_reducible repeat (first | apply Kd.S_alloc | apply Kd.S_drewN | apply Kd.S_drew)); exact HO352.out) (Kd.R_base ho0) hb); have n2_ := Aside0.mk (Kd.S_elder' (by (with_reducible repeat (first | apply Kd.S_alloc | apply Kd.S_drewN | apply Kd.S_drew)); exact HO356.out) (Kd.R_base ho0) hb); have n3_ := Aside0.mk (Kd.R_elder' (by (with_reducible repeat (first | apply Kd.R_alloc | apply Kd.R_drewN | apply Kd.R_drew)); exact HO362.out) (Kd.R_base ho0) hb); have n4_ := Aside0.mk (Kd.R_elder' (by (with_reducible repeat (first | apply Kd.R_alloc | apply Kd.R_drewN | apply Kd.R_drew)); exact HO366.out) (Kd.R_base ho0) hb); have n5_ := Aside0.mk (Kd.R_lower (Kd.R_new' (Kd.R_new' (Kd.R_new' ho0 (Kd.R_lt (by (with_reducible repeat (first | apply Kd.R_alloc | apply Kd.R_drewN | apply Kd.R_drew)); exact HO348.out))) (Kd.R_lt (by (with_reducible repeat (first | apply Kd.R_alloc | apply Kd.R_drewN | apply Kd.R_drew)); exact HO362.out))) (Kd.R_lt (by (with_reducible repeat (first | apply Kd.R_alloc | apply Kd.R_drewN | apply Kd.R_drew)); exact HO366.out))) (below_size (by repeat (first | (with_reducible first | exact HB.out | apply below_alloc | apply pw_below_drewN | apply below_drew1) | exact HB.out)))); have n6_ := Aside0.mk (below_step (by repeat (first | (with_reducible first | exact HB.out | apply below_alloc | apply pw_below_drewN | apply below_drew1) | exact HB.out)) hb); clear HO348; clear HO352; clear HO356; clear HO362; clear HO366; clear HB; have HO348 := n0_; have HO352 := n1_; have HO356 := n2_; have HO362 := n3_; have HO366 := n4_; have HO370 := n5_; have HB := n6_; clear n0_ n1_ n2_ n3_ n4_ n5_ n6_; (try clear hb); (try clear hb2); (try clear hk); (try clear hi); (try clear ho0)) | (go_at_call 19; (with_reducible refine (spec_BelowCounts.calls k _ _ t346 t371 t372 _ ?side1 ?side2 A12.out).mono ?_); (case side1 => repeat (first | exact (Kd.R_reads' HO348.out).2.2 | (with_reducible refine Kd.C_alloc ?_ _) | (with_reducible refine Kd.C_drewN ?_ _) | (with_reducible refine Kd.C_drew ?_))); (case side2 => exact (Kd.R_reads' HO348.out).2.1); rintro e w22 ⟨v373, rfl, ho0, hb⟩; have n0_ := Aside0.mk (Kd.R_elder' (by (with_reducible repeat (first | apply Kd.R_alloc | apply Kd.R_drewN | apply Kd.R_drew)); exact HO348.out) (Kd.R_base ho0) hb); have n1_ := Aside0.mk (Kd.S_elder' (by (with_reducible repeat (first | apply Kd.S_alloc | apply Kd.S_drewN | apply Kd.S_drew)); exact HO352.out) (Kd.R_base ho0) hb); have n2_ := Aside0.mk (Kd.S_elder' (by (with_reducible repeat (first | apply Kd.S_alloc | apply Kd.S_drewN | apply Kd.S_drew)); exact HO356.out) (Kd.R_base ho0) hb); have n3_ := Aside0.mk (Kd.R_elder' (by (with_reducible repeat (first | apply Kd.R_alloc | apply Kd.R_drewN | apply Kd.R_drew)); exact HO362.out) (Kd.R_base ho0) hb); have n4_ := Aside0.mk (Kd.R_elder' (by (with_reducible repeat (first | apply Kd.R_alloc | apply Kd.R_drewN | apply Kd.R_drew)); exact HO366.out) (Kd.R_base ho0) hb); have n5_ := Aside0.mk (Kd.R_elder' (by (with_reducible repeat (first | apply Kd.R_alloc | apply Kd.R_drewN | apply Kd.R_drew)); exact HO370.out) (Kd.R_base ho0) hb); have n6_ := Aside0.mk (Kd.R_lower (Kd.R_new' (Kd.R_new' (Kd.R_new' (Kd.R_new' ho0 (Kd.R_lt (by (with_reducible repeat (first | apply Kd.R_alloc | apply Kd.R_drewN | apply Kd.R_drew)); exact HO348.out))) (Kd.R_lt (by (with_reducible repeat (first | apply Kd.R_alloc | apply Kd.R_drewN | apply Kd.R_drew)); exact HO362.out))) (Kd.R_lt (by (with_reducible repeat (first | apply Kd.R_alloc | apply Kd.R_drewN | apply Kd.R_drew)); exact HO366.out))) (Kd.R_lt (by (with_reducible repeat (first | apply Kd.R_alloc | apply Kd.R_drewN | apply Kd.R_drew)); exact HO370.out))) (below_size (by repeat (first | (with_reducible first | exact HB.out | apply below_alloc | apply pw_below_drewN | apply below_drew1) | exact HB.out)))); have n7_ := Aside0.mk (below_step (by repeat (first | (with_reducible first | exact HB.out | apply below_alloc | apply pw_below_drewN | apply below_drew1) | exact HB.out)) hb); clear HO348; clear HO352; clear HO356; clear HO362; clear HO366; clear HO370; clear HB; have HO348 := n0_; have HO352 := n1_; have HO356 := n2_; have HO362 := n3_; have HO366 := n4_; have HO370 := n5_; have HO374 := n6_; have HB := n7_; clear n0_ n1_ n2_ n3_ n4_ n5_ n6_ n7_; (try clear hb); (try clear hb2); (try clear hk); (try clear hi); (try clear ho0))))
   (try simp only [Act.put, List.setIfInBounds_toArray, List.set_cons_zero, List.set_cons_succ])
   go_cut [115] (fun v115 wc => ∃ (kq : Nat) (x115_12 : Bool), v115 = .bool x115_12 ∧ Aside0 (laws_FnTreesMeasured.j0 kq t346 t349 t354 t357 t359 t367 x115_12 = some r) ∧ Aside0 (kq ≤ k) ∧ Aside0 (Kd.R (Kd.int .i64) 3 wc w.heap.size (fun k_ => some k_ ≠ (v361 : Value).ownBlock ∧ some k_ ≠ (v369 : Value).ownBlock) (.slice Ao15 t346.length co15) t346) ∧ Aside0 (Kd.S (Kd.slice 3 (Kd.int .i64)) 22 wc w.heap.size (fun k_ => some k_ ≠ ((.slice Ao15 t346.length co15) : Value).ownBlock ∧ some k_ ≠ (v361 : Value).ownBlock ∧ some k_ ≠ (v369 : Value).ownBlock) v351 t349) ∧ Aside0 (Kd.R (Kd.int .i64) 3 wc w.heap.size (fun k_ => some k_ ≠ ((.slice Ao15 t346.length co15) : Value).ownBlock ∧ some k_ ≠ (v369 : Value).ownBlock) v361 t359) ∧ Aside0 (Kd.R (Kd.int .i64) 3 wc w.heap.size (fun k_ => some k_ ≠ ((.slice Ao15 t346.length co15) : Value).ownBlock ∧ some k_ ≠ (v361 : Value).ownBlock) v369 t367) ∧ Aside0 (Below w.heap.size w wc))
   case first =>
    have H := HC13.out
    clear HC13
    by_cases c23 : (t350 != t354) = true
    ·rw [if_pos c23] at H
     have c23b0 : (t350 != t354) = true := c23
     (try (have c23b1 : decide (t350 = t354) = false := by simpa using c23))
     (try (have c23b2 : (t350 == t354) = false := by simpa using c23))
     (try (have c23b3 : ¬ (t350 = t354) := by simpa using c23))
     clear c23
     (first | rw [c23b0] | (simp only [i64_w, i32_w]; rw [c23b0]) | rw [c23b1] | skip)
     have H' := Aside0.mk H
     clear H
     go_wp2
     repeat (go_quiet (fail); try go_wp2)
     go_meet
     case rel => exact ⟨_, (true), (by first | rfl | (simp; done) | (simp [*]; done)), H', ⟨by first | omega | exact Nat.le_refl _⟩, ⟨by (with_reducible repeat (first | apply Kd.R_alloc | apply Kd.R_drewN | apply Kd.R_drew)); exact Kd.R_mono HO348.out (fun _ hk => ⟨hk.1.1.1.2, hk.1.2⟩)⟩, ⟨by (with_reducible repeat (first | apply Kd.S_alloc | apply Kd.S_drewN | apply Kd.S_drew)); exact Kd.S_mono HO352.out (fun _ hk => ⟨hk.1.1.1.1.1.2, ⟨hk.1.1.1.2, hk.1.2⟩⟩)⟩, ⟨by (with_reducible repeat (first | apply Kd.R_alloc | apply Kd.R_drewN | apply Kd.R_drew)); exact Kd.R_mono HO362.out (fun _ hk => ⟨hk.1.1.1.2, hk.1.2⟩)⟩, ⟨by (with_reducible repeat (first | apply Kd.R_alloc | apply Kd.R_drewN | apply Kd.R_drew)); exact Kd.R_mono HO370.out (fun _ hk => ⟨hk.1.1.1.2, hk.1.1.2⟩)⟩, ⟨by repeat (first | (with_reducible first | exact HB.out | apply below_alloc | apply pw_below_drewN | apply below_drew1) | exact HB.out)⟩⟩
    ·as_aux_lemma =>
      rw [if_neg c23] at H
      have c23b0 : (t350 != t354) = false := by simpa using c23
      (try (have c23b1 : decide (t350 = t354) = true := by simpa using c23))
      (try (have c23b2 : (t350 == t354) = true := by simpa using c23))
      clear c23
      (first | rw [c23b0] | (simp only [i64_w, i32_w]; rw [c23b0]) | rw [c23b1] | skip)
      replace H := Option.bind_eq_some_iff.mp H
      obtain ⟨t375, A240, H⟩ := H
      replace H : (if t375 = true then (if (t358 != t350) = true then (laws_FnTreesMeasured.j0 k t346 t349 t354 t357 t359 t367 true) else (if (t360 != t364) = true then (laws_FnTreesMeasured.j0 k t346 t349 t354 t357 t359 t367 true) else ((laws_wSame.f k t359 t363).bind fun t376 => (if t376 = true then (if (t368 != t372) = true then (laws_FnTreesMeasured.j0 k t346 t349 t354 t357 t359 t367 true) else ((laws_wSame.f k t367 t371).bind fun t377 => (if t377 = true then (if (t360 != t350) = true then (laws_FnTreesMeasured.j0 k t346 t349 t354 t357 t359 t367 true) else (laws_FnTreesMeasured.j0 k t346 t349 t354 t357 t359 t367 (t368 != t350))) else (laws_FnTreesMeasured.j0 k t346 t349 t354 t357 t359 t367 true)))) else (laws_FnTreesMeasured.j0 k t346 t349 t354 t357 t359 t367 true))))) else (laws_FnTreesMeasured.j0 k t346 t349 t354 t357 t359 t367 true)) = some r := H
      have A24 := Aside0.mk A240
      clear A240
      by_cases c25 : t375 = true
      ·as_aux_lemma =>
        subst c25
        have H1 : (if (t358 != t350) = true then (laws_FnTreesMeasured.j0 k t346 t349 t354 t357 t359 t367 true) else (if (t360 != t364) = true then (laws_FnTreesMeasured.j0 k t346 t349 t354 t357 t359 t367 true) else ((laws_wSame.f k t359 t363).bind fun t376 => (if t376 = true then (if (t368 != t372) = true then (laws_FnTreesMeasured.j0 k t346 t349 t354 t357 t359 t367 true) else ((laws_wSame.f k t367 t371).bind fun t377 => (if t377 = true then (if (t360 != t350) = true then (laws_FnTreesMeasured.j0 k t346 t349 t354 t357 t359 t367 true) else (laws_FnTreesMeasured.j0 k t346 t349 t354 t357 t359 t367 (t368 != t350))) else (laws_FnTreesMeasured.j0 k t346 t349 t354 t357 t359 t367 true)))) else (laws_FnTreesMeasured.j0 k t346 t349 t354 t357 t359 t367 true))))) = some r := by rw [if_pos rfl] at H; exact H
        clear H
        have H := H1
        clear H1
        by_cases c26 : (t358 != t350) = true
        ·rw [if_pos c26] at H
         have c26b0 : (t358 != t350) = true := c26
         (try (have c26b1 : decide (t358 = t350) = false := by simpa using c26))
         (try (have c26b2 : (t358 == t350) = false := by simpa using c26))
         (try (have c26b3 : ¬ (t358 = t350) := by simpa using c26))
         clear c26
         have H' := Aside0.mk H
         clear H
         obtain ⟨Ao27, co27, eo27⟩ := Kd.S_slice HO352.out
         subst eo27
         obtain ⟨Ao28, co28, eo28⟩ := Kd.S_slice HO356.out
         subst eo28
         go_wp2_with (first | (go_at_call 20; (with_reducible refine (laws_wSameLists.calls k _ _ t349 _ _ t353 true _ ?side1 ?side2 ?side3 ?side4 A24.out).mono ?_); (case side1 => repeat (first | exact (Kd.S_reads' HO352.out).2.2 | (with_reducible refine Kd.C_alloc ?_ _) | (with_reducible refine Kd.C_drewN ?_ _) | (with_reducible refine Kd.C_drew ?_))); (case side2 => exact (Kd.S_reads' HO352.out).2.1); (case side3 => repeat (first | exact (Kd.S_reads' HO356.out).2.2 | (with_reducible refine Kd.C_alloc ?_ _) | (with_reducible refine Kd.C_drewN ?_ _) | (with_reducible refine Kd.C_drew ?_))); (case side4 => exact (Kd.S_reads' HO356.out).2.1); rintro e w' ⟨rfl, ⟨nd, rfl⟩⟩; (try first | exact ⟨rfl, _, World.drewN_drewN _ _ _⟩ | exact ⟨rfl, _, Eq.trans (World.drewN_drewN _ _ _) (congrArg (World.drewN _) (Nat.add_assoc _ _ _))⟩)))
         repeat (go_quiet (first | (go_at_call 20; (with_reducible refine (laws_wSameLists.calls k _ _ t349 _ _ t353 true _ ?side1 ?side2 ?side3 ?side4 A24.out).mono ?_); (case side1 => repeat (first | exact (Kd.S_reads' HO352.out).2.2 | (with_reducible refine Kd.C_alloc ?_ _) | (with_reducible refine Kd.C_drewN ?_ _) | (with_reducible refine Kd.C_drew ?_))); (case side2 => exact (Kd.S_reads' HO352.out).2.1); (case side3 => repeat (first | exact (Kd.S_reads' HO356.out).2.2 | (with_reducible refine Kd.C_alloc ?_ _) | (with_reducible refine Kd.C_drewN ?_ _) | (with_reducible refine Kd.C_drew ?_))); (case side4 => exact (Kd.S_reads' HO356.out).2.1); rintro e w' ⟨rfl, ⟨nd, rfl⟩⟩; (try first | exact ⟨rfl, _, World.drewN_drewN _ _ _⟩ | exact ⟨rfl, _, Eq.trans (World.drewN_drewN _ _ _) (congrArg (World.drewN _) (Nat.add_assoc _ _ _))⟩))); try go_wp2_with (first | (go_at_call 20; (with_reducible refine (laws_wSameLists.calls k _ _ t349 _ _ t353 true _ ?side1 ?side2 ?side3 ?side4 A24.out).mono ?_); (case side1 => repeat (first | exact (Kd.S_reads' HO352.out).2.2 | (with_reducible refine Kd.C_alloc ?_ _) | (with_reducible refine Kd.C_drewN ?_ _) | (with_reducible refine Kd.C_drew ?_))); (case side2 => exact (Kd.S_reads' HO352.out).2.1); (case side3 => repeat (first | exact (Kd.S_reads' HO356.out).2.2 | (with_reducible refine Kd.C_alloc ?_ _) | (with_reducible refine Kd.C_drewN ?_ _) | (with_reducible refine Kd.C_drew ?_))); (case side4 => exact (Kd.S_reads' HO356.out).2.1); rintro e w' ⟨rfl, ⟨nd, rfl⟩⟩; (try first | exact ⟨rfl, _, World.drewN_drewN _ _ _⟩ | exact ⟨rfl, _, Eq.trans (World.drewN_drewN _ _ _) (congrArg (World.drewN _) (Nat.add_assoc _ _ _))⟩))))
         go_meet
         case rel => exact ⟨_, (true), (by first | rfl | (simp; done) | (simp [*]; done)), H', ⟨by first | omega | exact Nat.le_refl _⟩, ⟨by (with_reducible repeat (first | apply Kd.R_alloc | apply Kd.R_drewN | apply Kd.R_drew)); exact Kd.R_mono HO348.out (fun _ hk => ⟨hk.1.1.1.2, hk.1.2⟩)⟩, ⟨by (with_reducible repeat (first | apply Kd.S_alloc | apply Kd.S_drewN | apply Kd.S_drew)); exact Kd.S_mono HO352.out (fun _ hk => ⟨hk.1.1.1.1.1.2, ⟨hk.1.1.1.2, hk.1.2⟩⟩)⟩, ⟨by (with_reducible repeat (first | apply Kd.R_alloc | apply Kd.R_drewN | apply Kd.R_drew)); exact Kd.R_mono HO362.out (fun _ hk => ⟨hk.1.1.1.2, hk.1.2⟩)⟩, ⟨by (with_reducible repeat (first | apply Kd.R_alloc | apply Kd.R_drewN | apply Kd.R_drew)); exact Kd.R_mono HO370.out (fun _ hk => ⟨hk.1.1.1.2, hk.1.1.2⟩)⟩, ⟨by repeat (first | (with_reducible first | exact HB.out | apply below_alloc | apply pw_below_drewN | apply below_drew1) | exact HB.out)⟩⟩
        ·as_aux_lemma =>
          rw [if_neg c26] at H
          have c26b0 : (t358 != t350) = false := by simpa using c26
          (try (have c26b1 : decide (t358 = t350) = true := by simpa using c26))
          (try (have c26b2 : (t358 == t350) = true := by simpa using c26))
          clear c26
          by_cases c29 : (t360 != t364) = true
          ·rw [if_pos c29] at H
           have c29b0 : (t360 != t364) = true := c29
           (try (have c29b1 : decide (t360 = t364) = false := by simpa using c29))
           (try (have c29b2 : (t360 == t364) = false := by simpa using c29))
           (try (have c29b3 : ¬ (t360 = t364) := by simpa using c29))
           clear c29
           have H' := Aside0.mk H
           clear H
           obtain ⟨Ao30, co30, eo30⟩ := Kd.S_slice HO352.out
           subst eo30
           obtain ⟨Ao31, co31, eo31⟩ := Kd.S_slice HO356.out
           subst eo31
           go_wp2_with (first | (go_at_call 20; (with_reducible refine (laws_wSameLists.calls k _ _ t349 _ _ t353 true _ ?side1 ?side2 ?side3 ?side4 A24.out).mono ?_); (case side1 => repeat (first | exact (Kd.S_reads' HO352.out).2.2 | (with_reducible refine Kd.C_alloc ?_ _) | (with_reducible refine Kd.C_drewN ?_ _) | (with_reducible refine Kd.C_drew ?_))); (case side2 => exact (Kd.S_reads' HO352.out).2.1); (case side3 => repeat (first | exact (Kd.S_reads' HO356.out).2.2 | (with_reducible refine Kd.C_alloc ?_ _) | (with_reducible refine Kd.C_drewN ?_ _) | (with_reducible refine Kd.C_drew ?_))); (case side4 => exact (Kd.S_reads' HO356.out).2.1); rintro e w' ⟨rfl, ⟨nd, rfl⟩⟩; (try first | exact ⟨rfl, _, World.drewN_drewN _ _ _⟩ | exact ⟨rfl, _, Eq.trans (World.drewN_drewN _ _ _) (congrArg (World.drewN _) (Nat.add_assoc _ _ _))⟩)))
           repeat (go_quiet (first | (go_at_call 20; (with_reducible refine (laws_wSameLists.calls k _ _ t349 _ _ t353 true _ ?side1 ?side2 ?side3 ?side4 A24.out).mono ?_); (case side1 => repeat (first | exact (Kd.S_reads' HO352.out).2.2 | (with_reducible refine Kd.C_alloc ?_ _) | (with_reducible refine Kd.C_drewN ?_ _) | (with_reducible refine Kd.C_drew ?_))); (case side2 => exact (Kd.S_reads' HO352.out).2.1); (case side3 => repeat (first | exact (Kd.S_reads' HO356.out).2.2 | (with_reducible refine Kd.C_alloc ?_ _) | (with_reducible refine Kd.C_drewN ?_ _) | (with_reducible refine Kd.C_drew ?_))); (case side4 => exact (Kd.S_reads' HO356.out).2.1); rintro e w' ⟨rfl, ⟨nd, rfl⟩⟩; (try first | exact ⟨rfl, _, World.drewN_drewN _ _ _⟩ | exact ⟨rfl, _, Eq.trans (World.drewN_drewN _ _ _) (congrArg (World.drewN _) (Nat.add_assoc _ _ _))⟩))); try go_wp2_with (first | (go_at_call 20; (with_reducible refine (laws_wSameLists.calls k _ _ t349 _ _ t353 true _ ?side1 ?side2 ?side3 ?side4 A24.out).mono ?_); (case side1 => repeat (first | exact (Kd.S_reads' HO352.out).2.2 | (with_reducible refine Kd.C_alloc ?_ _) | (with_reducible refine Kd.C_drewN ?_ _) | (with_reducible refine Kd.C_drew ?_))); (case side2 => exact (Kd.S_reads' HO352.out).2.1); (case side3 => repeat (first | exact (Kd.S_reads' HO356.out).2.2 | (with_reducible refine Kd.C_alloc ?_ _) | (with_reducible refine Kd.C_drewN ?_ _) | (with_reducible refine Kd.C_drew ?_))); (case side4 => exact (Kd.S_reads' HO356.out).2.1); rintro e w' ⟨rfl, ⟨nd, rfl⟩⟩; (try first | exact ⟨rfl, _, World.drewN_drewN _ _ _⟩ | exact ⟨rfl, _, Eq.trans (World.drewN_drewN _ _ _) (congrArg (World.drewN _) (Nat.add_assoc _ _ _))⟩))))
           go_meet
           case rel => exact ⟨_, (true), (by first | rfl | (simp; done) | (simp [*]; done)), H', ⟨by first | omega | exact Nat.le_refl _⟩, ⟨by (with_reducible repeat (first | apply Kd.R_alloc | apply Kd.R_drewN | apply Kd.R_drew)); exact Kd.R_mono HO348.out (fun _ hk => ⟨hk.1.1.1.2, hk.1.2⟩)⟩, ⟨by (with_reducible repeat (first | apply Kd.S_alloc | apply Kd.S_drewN | apply Kd.S_drew)); exact Kd.S_mono HO352.out (fun _ hk => ⟨hk.1.1.1.1.1.2, ⟨hk.1.1.1.2, hk.1.2⟩⟩)⟩, ⟨by (with_reducible repeat (first | apply Kd.R_alloc | apply Kd.R_drewN | apply Kd.R_drew)); exact Kd.R_mono HO362.out (fun _ hk => ⟨hk.1.1.1.2, hk.1.2⟩)⟩, ⟨by (with_reducible repeat (first | apply Kd.R_alloc | apply Kd.R_drewN | apply Kd.R_drew)); exact Kd.R_mono HO370.out (fun _ hk => ⟨hk.1.1.1.2, hk.1.1.2⟩)⟩, ⟨by repeat (first | (with_reducible first | exact HB.out | apply below_alloc | apply pw_below_drewN | apply below_drew1) | exact HB.out)⟩⟩
          ·as_aux_lemma =>
            rw [if_neg c29] at H
            have c29b0 : (t360 != t364) = false := by simpa using c29
            (try (have c29b1 : decide (t360 = t364) = true := by simpa using c29))
            (try (have c29b2 : (t360 == t364) = true := by simpa using c29))
            clear c29
            replace H := Option.bind_eq_some_iff.mp H
            obtain ⟨t376, A320, H⟩ := H
            replace H : (if t376 = true then (if (t368 != t372) = true then (laws_FnTreesMeasured.j0 k t346 t349 t354 t357 t359 t367 true) else ((laws_wSame.f k t367 t371).bind fun t377 => (if t377 = true then (if (t360 != t350) = true then (laws_FnTreesMeasured.j0 k t346 t349 t354 t357 t359 t367 true) else (laws_FnTreesMeasured.j0 k t346 t349 t354 t357 t359 t367 (t368 != t350))) else (laws_FnTreesMeasured.j0 k t346 t349 t354 t357 t359 t367 true)))) else (laws_FnTreesMeasured.j0 k t346 t349 t354 t357 t359 t367 true)) = some r := H
            have A32 := Aside0.mk A320
            clear A320
            by_cases c33 : t376 = true
            ·subst c33
             have H1 : (if (t368 != t372) = true then (laws_FnTreesMeasured.j0 k t346 t349 t354 t357 t359 t367 true) else ((laws_wSame.f k t367 t371).bind fun t377 => (if t377 = true then (if (t360 != t350) = true then (laws_FnTreesMeasured.j0 k t346 t349 t354 t357 t359 t367 true) else (laws_FnTreesMeasured.j0 k t346 t349 t354 t357 t359 t367 (t368 != t350))) else (laws_FnTreesMeasured.j0 k t346 t349 t354 t357 t359 t367 true)))) = some r := by rw [if_pos rfl] at H; exact H
             clear H
             have H := H1
             clear H1
             by_cases c34 : (t368 != t372) = true
             ·rw [if_pos c34] at H
              have c34b0 : (t368 != t372) = true := c34
              (try (have c34b1 : decide (t368 = t372) = false := by simpa using c34))
              (try (have c34b2 : (t368 == t372) = false := by simpa using c34))
              (try (have c34b3 : ¬ (t368 = t372) := by simpa using c34))
              clear c34
              have H' := Aside0.mk H
              clear H
              obtain ⟨Ao35, co35, eo35⟩ := Kd.S_slice HO352.out
              subst eo35
              obtain ⟨Ao36, co36, eo36⟩ := Kd.S_slice HO356.out
              subst eo36
              go_wp2_with (first | (go_at_call 20; (with_reducible refine (laws_wSameLists.calls k _ _ t349 _ _ t353 true _ ?side1 ?side2 ?side3 ?side4 A24.out).mono ?_); (case side1 => repeat (first | exact (Kd.S_reads' HO352.out).2.2 | (with_reducible refine Kd.C_alloc ?_ _) | (with_reducible refine Kd.C_drewN ?_ _) | (with_reducible refine Kd.C_drew ?_))); (case side2 => exact (Kd.S_reads' HO352.out).2.1); (case side3 => repeat (first | exact (Kd.S_reads' HO356.out).2.2 | (with_reducible refine Kd.C_alloc ?_ _) | (with_reducible refine Kd.C_drewN ?_ _) | (with_reducible refine Kd.C_drew ?_))); (case side4 => exact (Kd.S_reads' HO356.out).2.1); rintro e w' ⟨rfl, ⟨nd, rfl⟩⟩; (try first | exact ⟨rfl, _, World.drewN_drewN _ _ _⟩ | exact ⟨rfl, _, Eq.trans (World.drewN_drewN _ _ _) (congrArg (World.drewN _) (Nat.add_assoc _ _ _))⟩); obtain ⟨Ao37, co37, eo37⟩ := Kd.R_slice HO362.out; subst eo37; obtain ⟨Ao38, co38, eo38⟩ := Kd.R_slice HO366.out; subst eo38) | (go_at_call 21; (with_reducible refine (laws_wSame.calls k _ _ t359 _ _ t363 true _ ?side1 ?side2 ?side3 ?side4 A32.out).mono ?_); (case side1 => repeat (first | exact (Kd.R_reads' HO362.out).2.2 | (with_reducible refine Kd.C_alloc ?_ _) | (with_reducible refine Kd.C_drewN ?_ _) | (with_reducible refine Kd.C_drew ?_))); (case side2 => exact (Kd.R_reads' HO362.out).2.1); (case side3 => repeat (first | exact (Kd.R_reads' HO366.out).2.2 | (with_reducible refine Kd.C_alloc ?_ _) | (with_reducible refine Kd.C_drewN ?_ _) | (with_reducible refine Kd.C_drew ?_))); (case side4 => exact (Kd.R_reads' HO366.out).2.1); rintro e w' ⟨rfl, ⟨nd, rfl⟩⟩; (try first | exact ⟨rfl, _, World.drewN_drewN _ _ _⟩ | exact ⟨rfl, _, Eq.trans (World.drewN_drewN _ _ _) (congrArg (World.drewN _) (Nat.add_assoc _ _ _))⟩)))
              repeat (go_quiet (first | (go_at_call 20; (with_reducible refine (laws_wSameLists.calls k _ _ t349 _ _ t353 true _ ?side1 ?side2 ?side3 ?side4 A24.out).mono ?_); (case side1 => repeat (first | exact (Kd.S_reads' HO352.out).2.2 | (with_reducible refine Kd.C_alloc ?_ _) | (with_reducible refine Kd.C_drewN ?_ _) | (with_reducible refine Kd.C_drew ?_))); (case side2 => exact (Kd.S_reads' HO352.out).2.1); (case side3 => repeat (first | exact (Kd.S_reads' HO356.out).2.2 | (with_reducible refine Kd.C_alloc ?_ _) | (with_reducible refine Kd.C_drewN ?_ _) | (with_reducible refine Kd.C_drew ?_))); (case side4 => exact (Kd.S_reads' HO356.out).2.1); rintro e w' ⟨rfl, ⟨nd, rfl⟩⟩; (try first | exact ⟨rfl, _, World.drewN_drewN _ _ _⟩ | exact ⟨rfl, _, Eq.trans (World.drewN_drewN _ _ _) (congrArg (World.drewN _) (Nat.add_assoc _ _ _))⟩); obtain ⟨Ao37, co37, eo37⟩ := Kd.R_slice HO362.out; subst eo37; obtain ⟨Ao38, co38, eo38⟩ := Kd.R_slice HO366.out; subst eo38) | (go_at_call 21; (with_reducible refine (laws_wSame.calls k _ _ t359 _ _ t363 true _ ?side1 ?side2 ?side3 ?side4 A32.out).mono ?_); (case side1 => repeat (first | exact (Kd.R_reads' HO362.out).2.2 | (with_reducible refine Kd.C_alloc ?_ _) | (with_reducible refine Kd.C_drewN ?_ _) | (with_reducible refine Kd.C_drew ?_))); (case side2 => exact (Kd.R_reads' HO362.out).2.1); (case side3 => repeat (first | exact (Kd.R_reads' HO366.out).2.2 | (with_reducible refine Kd.C_alloc ?_ _) | (with_reducible refine Kd.C_drewN ?_ _) | (with_reducible refine Kd.C_drew ?_))); (case side4 => exact (Kd.R_reads' HO366.out).2.1); rintro e w' ⟨rfl, ⟨nd, rfl⟩⟩; (try first | exact ⟨rfl, _, World.drewN_drewN _ _ _⟩ | exact ⟨rfl, _, Eq.trans (World.drewN_drewN _ _ _) (congrArg (World.drewN _) (Nat.add_assoc _ _ _))⟩))); try go_wp2_with (first | (go_at_call 20; (with_reducible refine (laws_wSameLists.calls k _ _ t349 _ _ t353 true _ ?side1 ?side2 ?side3 ?side4 A24.out).mono ?_); (case side1 => repeat (first | exact (Kd.S_reads' HO352.out).2.2 | (with_reducible refine Kd.C_alloc ?_ _) | (with_reducible refine Kd.C_drewN ?_ _) | (with_reducible refine Kd.C_drew ?_))); (case side2 => exact (Kd.S_reads' HO352.out).2.1); (case side3 => repeat (first | exact (Kd.S_reads' HO356.out).2.2 | (with_reducible refine Kd.C_alloc ?_ _) | (with_reducible refine Kd.C_drewN ?_ _) | (with_reducible refine Kd.C_drew ?_))); (case side4 => exact (Kd.S_reads' HO356.out).2.1); rintro e w' ⟨rfl, ⟨nd, rfl⟩⟩; (try first | exact ⟨rfl, _, World.drewN_drewN _ _ _⟩ | exact ⟨rfl, _, Eq.trans (World.drewN_drewN _ _ _) (congrArg (World.drewN _) (Nat.add_assoc _ _ _))⟩); obtain ⟨Ao37, co37, eo37⟩ := Kd.R_slice HO362.out; subst eo37; obtain ⟨Ao38, co38, eo38⟩ := Kd.R_slice HO366.out; subst eo38) | (go_at_call 21; (with_reducible refine (laws_wSame.calls k _ _ t359 _ _ t363 true _ ?side1 ?side2 ?side3 ?side4 A32.out).mono ?_); (case side1 => repeat (first | exact (Kd.R_reads' HO362.out).2.2 | (with_reducible refine Kd.C_alloc ?_ _) | (with_reducible refine Kd.C_drewN ?_ _) | (with_reducible refine Kd.C_drew ?_))); (case side2 => exact (Kd.R_reads' HO362.out).2.1); (case side3 => repeat (first | exact (Kd.R_reads' HO366.out).2.2 | (with_reducible refine Kd.C_alloc ?_ _) | (with_reducible refine Kd.C_drewN ?_ _) | (with_reducible refine Kd.C_drew ?_))); (case side4 => exact (Kd.R_reads' HO366.out).2.1); rintro e w' ⟨rfl, ⟨nd, rfl⟩⟩; (try first | exact ⟨rfl, _, World.drewN_drewN _ _ _⟩ | exact ⟨rfl, _, Eq.trans (World.drewN_drewN _ _ _) (congrArg (World.drewN _) (Nat.add_assoc _ _ _))⟩))))
              go_meet
              case rel => exact ⟨_, (true), (by first | rfl | (simp; done) | (simp [*]; done)), H', ⟨by first | omega | exact Nat.le_refl _⟩, ⟨by (with_reducible repeat (first | apply Kd.R_alloc | apply Kd.R_drewN | apply Kd.R_drew)); exact Kd.R_mono HO348.out (fun _ hk => ⟨hk.1.1.1.2, hk.1.2⟩)⟩, ⟨by (with_reducible repeat (first | apply Kd.S_alloc | apply Kd.S_drewN | apply Kd.S_drew)); exact Kd.S_mono HO352.out (fun _ hk => ⟨hk.1.1.1.1.1.2, ⟨hk.1.1.1.2, hk.1.2⟩⟩)⟩, ⟨by (with_reducible repeat (first | apply Kd.R_alloc | apply Kd.R_drewN | apply Kd.R_drew)); exact Kd.R_mono HO362.out (fun _ hk => ⟨hk.1.1.1.2, hk.1.2⟩)⟩, ⟨by (with_reducible repeat (first | apply Kd.R_alloc | apply Kd.R_drewN | apply Kd.R_drew)); exact Kd.R_mono HO370.out (fun _ hk => ⟨hk.1.1.1.2, hk.1.1.2⟩)⟩, ⟨by repeat (first | (with_reducible first | exact HB.out | apply below_alloc | apply pw_below_drewN | apply below_drew1) | exact HB.out)⟩⟩
             ·rw [if_neg c34] at H
              have c34b0 : (t368 != t372) = false := by simpa using c34
              (try (have c34b1 : decide (t368 = t372) = true := by simpa using c34))
              (try (have c34b2 : (t368 == t372) = true := by simpa using c34))
              clear c34
              replace H := Option.bind_eq_some_iff.mp H
              obtain ⟨t377, A390, H⟩ := H
              replace H : (if t377 = true then (if (t360 != t350) = true then (laws_FnTreesMeasured.j0 k t346 t349 t354 t357 t359 t367 true) else (laws_FnTreesMeasured.j0 k t346 t349 t354 t357 t359 t367 (t368 != t350))) else (laws_FnTreesMeasured.j0 k t346 t349 t354 t357 t359 t367 true)) = some r := H
              have A39 := Aside0.mk A390
              clear A390
              by_cases c40 : t377 = true
              ·subst c40
               have H1 : (if (t360 != t350) = true then (laws_FnTreesMeasured.j0 k t346 t349 t354 t357 t359 t367 true) else (laws_FnTreesMeasured.j0 k t346 t349 t354 t357 t359 t367 (t368 != t350))) = some r := by rw [if_pos rfl] at H; exact H
               clear H
               have H := H1
               clear H1
               by_cases c41 : (t360 != t350) = true
               ·rw [if_pos c41] at H
                have c41b0 : (t360 != t350) = true := c41
                (try (have c41b1 : decide (t360 = t350) = false := by simpa using c41))
                (try (have c41b2 : (t360 == t350) = false := by simpa using c41))
                (try (have c41b3 : ¬ (t360 = t350) := by simpa using c41))
                clear c41
                have H' := Aside0.mk H
                clear H
                obtain ⟨Ao42, co42, eo42⟩ := Kd.S_slice HO352.out
                subst eo42
                obtain ⟨Ao43, co43, eo43⟩ := Kd.S_slice HO356.out
                subst eo43
                go_wp2_with (first | (go_at_call 20; (with_reducible refine (laws_wSameLists.calls k _ _ t349 _ _ t353 true _ ?side1 ?side2 ?side3 ?side4 A24.out).mono ?_); (case side1 => repeat (first | exact (Kd.S_reads' HO352.out).2.2 | (with_reducible refine Kd.C_alloc ?_ _) | (with_reducible refine Kd.C_drewN ?_ _) | (with_reducible refine Kd.C_drew ?_))); (case side2 => exact (Kd.S_reads' HO352.out).2.1); (case side3 => repeat (first | exact (Kd.S_reads' HO356.out).2.2 | (with_reducible refine Kd.C_alloc ?_ _) | (with_reducible refine Kd.C_drewN ?_ _) | (with_reducible refine Kd.C_drew ?_))); (case side4 => exact (Kd.S_reads' HO356.out).2.1); rintro e w' ⟨rfl, ⟨nd, rfl⟩⟩; (try first | exact ⟨rfl, _, World.drewN_drewN _ _ _⟩ | exact ⟨rfl, _, Eq.trans (World.drewN_drewN _ _ _) (congrArg (World.drewN _) (Nat.add_assoc _ _ _))⟩); obtain ⟨Ao44, co44, eo44⟩ := Kd.R_slice HO362.out; subst eo44; obtain ⟨Ao45, co45, eo45⟩ := Kd.R_slice HO366.out; subst eo45) | (go_at_call 21; (with_reducible refine (laws_wSame.calls k _ _ t359 _ _ t363 true _ ?side1 ?side2 ?side3 ?side4 A32.out).mono ?_); (case side1 => repeat (first | exact (Kd.R_reads' HO362.out).2.2 | (with_reducible refine Kd.C_alloc ?_ _) | (with_reducible refine Kd.C_drewN ?_ _) | (with_reducible refine Kd.C_drew ?_))); (case side2 => exact (Kd.R_reads' HO362.out).2.1); (case side3 => repeat (first | exact (Kd.R_reads' HO366.out).2.2 | (with_reducible refine Kd.C_alloc ?_ _) | (with_reducible refine Kd.C_drewN ?_ _) | (with_reducible refine Kd.C_drew ?_))); (case side4 => exact (Kd.R_reads' HO366.out).2.1); rintro e w' ⟨rfl, ⟨nd, rfl⟩⟩; (try first | exact ⟨rfl, _, World.drewN_drewN _ _ _⟩ | exact ⟨rfl, _, Eq.trans (World.drewN_drewN _ _ _) (congrArg (World.drewN _) (Nat.add_assoc _ _ _))⟩); obtain ⟨Ao46, co46, eo46⟩ := Kd.R_slice HO370.out; subst eo46; obtain ⟨Ao47, co47, eo47⟩ := Kd.R_slice HO374.out; subst eo47) | (go_at_call 21; (with_reducible refine (laws_wSame.calls k _ _ t367 _ _ t371 true _ ?side1 ?side2 ?side3 ?side4 A39.out).mono ?_); (case side1 => repeat (first | exact (Kd.R_reads' HO370.out).2.2 | (with_reducible refine Kd.C_alloc ?_ _) | (with_reducible refine Kd.C_drewN ?_ _) | (with_reducible refine Kd.C_drew ?_))); (case side2 => exact (Kd.R_reads' HO370.out).2.1); (case side3 => repeat (first | exact (Kd.R_reads' HO374.out).2.2 | (with_reducible refine Kd.C_alloc ?_ _) | (with_reducible refine Kd.C_drewN ?_ _) | (with_reducible refine Kd.C_drew ?_))); (case side4 => exact (Kd.R_reads' HO374.out).2.1); rintro e w' ⟨rfl, ⟨nd, rfl⟩⟩; (try first | exact ⟨rfl, _, World.drewN_drewN _ _ _⟩ | exact ⟨rfl, _, Eq.trans (World.drewN_drewN _ _ _) (congrArg (World.drewN _) (Nat.add_assoc _ _ _))⟩)))
                repeat (go_quiet (first | (go_at_call 20; (with_reducible refine (laws_wSameLists.calls k _ _ t349 _ _ t353 true _ ?side1 ?side2 ?side3 ?side4 A24.out).mono ?_); (case side1 => repeat (first | exact (Kd.S_reads' HO352.out).2.2 | (with_reducible refine Kd.C_alloc ?_ _) | (with_reducible refine Kd.C_drewN ?_ _) | (with_reducible refine Kd.C_drew ?_))); (case side2 => exact (Kd.S_reads' HO352.out).2.1); (case side3 => repeat (first | exact (Kd.S_reads' HO356.out).2.2 | (with_reducible refine Kd.C_alloc ?_ _) | (with_reducible refine Kd.C_drewN ?_ _) | (with_reducible refine Kd.C_drew ?_))); (case side4 => exact (Kd.S_reads' HO356.out).2.1); rintro e w' ⟨rfl, ⟨nd, rfl⟩⟩; (try first | exact ⟨rfl, _, World.drewN_drewN _ _ _⟩ | exact ⟨rfl, _, Eq.trans (World.drewN_drewN _ _ _) (congrArg (World.drewN _) (Nat.add_assoc _ _ _))⟩); obtain ⟨Ao44, co44, eo44⟩ := Kd.R_slice HO362.out; subst eo44; obtain ⟨Ao45, co45, eo45⟩ := Kd.R_slice HO366.out; subst eo45) | (go_at_call 21; (with_reducible refine (laws_wSame.calls k _ _ t359 _ _ t363 true _ ?side1 ?side2 ?side3 ?side4 A32.out).mono ?_); (case side1 => repeat (first | exact (Kd.R_reads' HO362.out).2.2 | (with_reducible refine Kd.C_alloc ?_ _) | (with_reducible refine Kd.C_drewN ?_ _) | (with_reducible refine Kd.C_drew ?_))); (case side2 => exact (Kd.R_reads' HO362.out).2.1); (case side3 => repeat (first | exact (Kd.R_reads' HO366.out).2.2 | (with_reducible refine Kd.C_alloc ?_ _) | (with_reducible refine Kd.C_drewN ?_ _) | (with_reducible refine Kd.C_drew ?_))); (case side4 => exact (Kd.R_reads' HO366.out).2.1); rintro e w' ⟨rfl, ⟨nd, rfl⟩⟩; (try first | exact ⟨rfl, _, World.drewN_drewN _ _ _⟩ | exact ⟨rfl, _, Eq.trans (World.drewN_drewN _ _ _) (congrArg (World.drewN _) (Nat.add_assoc _ _ _))⟩); obtain ⟨Ao46, co46, eo46⟩ := Kd.R_slice HO370.out; subst eo46; obtain ⟨Ao47, co47, eo47⟩ := Kd.R_slice HO374.out; subst eo47) | (go_at_call 21; (with_reducible refine (laws_wSame.calls k _ _ t367 _ _ t371 true _ ?side1 ?side2 ?side3 ?side4 A39.out).mono ?_); (case side1 => repeat (first | exact (Kd.R_reads' HO370.out).2.2 | (with_reducible refine Kd.C_alloc ?_ _) | (with_reducible refine Kd.C_drewN ?_ _) | (with_reducible refine Kd.C_drew ?_))); (case side2 => exact (Kd.R_reads' HO370.out).2.1); (case side3 => repeat (first | exact (Kd.R_reads' HO374.out).2.2 | (with_reducible refine Kd.C_alloc ?_ _) | (with_reducible refine Kd.C_drewN ?_ _) | (with_reducible refine Kd.C_drew ?_))); (case side4 => exact (Kd.R_reads' HO374.out).2.1); rintro e w' ⟨rfl, ⟨nd, rfl⟩⟩; (try first | exact ⟨rfl, _, World.drewN_drewN _ _ _⟩ | exact ⟨rfl, _, Eq.trans (World.drewN_drewN _ _ _) (congrArg (World.drewN _) (Nat.add_assoc _ _ _))⟩))); try go_wp2_with (first | (go_at_call 20; (with_reducible refine (laws_wSameLists.calls k _ _ t349 _ _ t353 true _ ?side1 ?side2 ?side3 ?side4 A24.out).mono ?_); (case side1 => repeat (first | exact (Kd.S_reads' HO352.out).2.2 | (with_reducible refine Kd.C_alloc ?_ _) | (with_reducible refine Kd.C_drewN ?_ _) | (with_reducible refine Kd.C_drew ?_))); (case side2 => exact (Kd.S_reads' HO352.out).2.1); (case side3 => repeat (first | exact (Kd.S_reads' HO356.out).2.2 | (with_reducible refine Kd.C_alloc ?_ _) | (with_reducible refine Kd.C_drewN ?_ _) | (with_reducible refine Kd.C_drew ?_))); (case side4 => exact (Kd.S_reads' HO356.out).2.1); rintro e w' ⟨rfl, ⟨nd, rfl⟩⟩; (try first | exact ⟨rfl, _, World.drewN_drewN _ _ _⟩ | exact ⟨rfl, _, Eq.trans (World.drewN_drewN _ _ _) (congrArg (World.drewN _) (Nat.add_assoc _ _ _))⟩); obtain ⟨Ao44, co44, eo44⟩ := Kd.R_slice HO362.out; subst eo44; obtain ⟨Ao45, co45, eo45⟩ := Kd.R_slice HO366.out; subst eo45) | (go_at_call 21; (with_reducible refine (laws_wSame.calls k _ _ t359 _ _ t363 true _ ?side1 ?side2 ?side3 ?side4 A32.out).mono ?_); (case side1 => repeat (first | exact (Kd.R_reads' HO362.out).2.2 | (with_reducible refine Kd.C_alloc ?_ _) | (with_reducible refine Kd.C_drewN ?_ _) | (with_reducible refine Kd.C_drew ?_))); (case side2 => exact (Kd.R_reads' HO362.out).2.1); (case side3 => repeat (first | exact (Kd.R_reads' HO366.out).2.2 | (with_reducible refine Kd.C_alloc ?_ _) | (with_reducible refine Kd.C_drewN ?_ _) | (with_reducible refine Kd.C_drew ?_))); (case side4 => exact (Kd.R_reads' HO366.out).2.1); rintro e w' ⟨rfl, ⟨nd, rfl⟩⟩; (try first | exact ⟨rfl, _, World.drewN_drewN _ _ _⟩ | exact ⟨rfl, _, Eq.trans (World.drewN_drewN _ _ _) (congrArg (World.drewN _) (Nat.add_assoc _ _ _))⟩); obtain ⟨Ao46, co46, eo46⟩ := Kd.R_slice HO370.out; subst eo46; obtain ⟨Ao47, co47, eo47⟩ := Kd.R_slice HO374.out; subst eo47) | (go_at_call 21; (with_reducible refine (laws_wSame.calls k _ _ t367 _ _ t371 true _ ?side1 ?side2 ?side3 ?side4 A39.out).mono ?_); (case side1 => repeat (first | exact (Kd.R_reads' HO370.out).2.2 | (with_reducible refine Kd.C_alloc ?_ _) | (with_reducible refine Kd.C_drewN ?_ _) | (with_reducible refine Kd.C_drew ?_))); (case side2 => exact (Kd.R_reads' HO370.out).2.1); (case side3 => repeat (first | exact (Kd.R_reads' HO374.out).2.2 | (with_reducible refine Kd.C_alloc ?_ _) | (with_reducible refine Kd.C_drewN ?_ _) | (with_reducible refine Kd.C_drew ?_))); (case side4 => exact (Kd.R_reads' HO374.out).2.1); rintro e w' ⟨rfl, ⟨nd, rfl⟩⟩; (try first | exact ⟨rfl, _, World.drewN_drewN _ _ _⟩ | exact ⟨rfl, _, Eq.trans (World.drewN_drewN _ _ _) (congrArg (World.drewN _) (Nat.add_assoc _ _ _))⟩))))
                go_meet
                case rel => exact ⟨_, (true), (by first | rfl | (simp; done) | (simp [*]; done)), H', ⟨by first | omega | exact Nat.le_refl _⟩, ⟨by (with_reducible repeat (first | apply Kd.R_alloc | apply Kd.R_drewN | apply Kd.R_drew)); exact Kd.R_mono HO348.out (fun _ hk => ⟨hk.1.1.1.2, hk.1.2⟩)⟩, ⟨by (with_reducible repeat (first | apply Kd.S_alloc | apply Kd.S_drewN | apply Kd.S_drew)); exact Kd.S_mono HO352.out (fun _ hk => ⟨hk.1.1.1.1.1.2, ⟨hk.1.1.1.2, hk.1.2⟩⟩)⟩, ⟨by (with_reducible repeat (first | apply Kd.R_alloc | apply Kd.R_drewN | apply Kd.R_drew)); exact Kd.R_mono HO362.out (fun _ hk => ⟨hk.1.1.1.2, hk.1.2⟩)⟩, ⟨by (with_reducible repeat (first | apply Kd.R_alloc | apply Kd.R_drewN | apply Kd.R_drew)); exact Kd.R_mono HO370.out (fun _ hk => ⟨hk.1.1.1.2, hk.1.1.2⟩)⟩, ⟨by repeat (first | (with_reducible first | exact HB.out | apply below_alloc | apply pw_below_drewN | apply below_drew1) | exact HB.out)⟩⟩
               ·rw [if_neg c41] at H
                have c41b0 : (t360 != t350) = false := by simpa using c41
                (try (have c41b1 : decide (t360 = t350) = true := by simpa using c41))
                (try (have c41b2 : (t360 == t350) = true := by simpa using c41))
                clear c41
                have H' := Aside0.mk H
                clear H
                obtain ⟨Ao48, co48, eo48⟩ := Kd.S_slice HO352.out
                subst eo48
                obtain ⟨Ao49, co49, eo49⟩ := Kd.S_slice HO356.out
                subst eo49
                go_wp2_with (first | (go_at_call 20; (with_reducible refine (laws_wSameLists.calls k _ _ t349 _ _ t353 true _ ?side1 ?side2 ?side3 ?side4 A24.out).mono ?_); (case side1 => repeat (first | exact (Kd.S_reads' HO352.out).2.2 | (with_reducible refine Kd.C_alloc ?_ _) | (with_reducible refine Kd.C_drewN ?_ _) | (with_reducible refine Kd.C_drew ?_))); (case side2 => exact (Kd.S_reads' HO352.out).2.1); (case side3 => repeat (first | exact (Kd.S_reads' HO356.out).2.2 | (with_reducible refine Kd.C_alloc ?_ _) | (with_reducible refine Kd.C_drewN ?_ _) | (with_reducible refine Kd.C_drew ?_))); (case side4 => exact (Kd.S_reads' HO356.out).2.1); rintro e w' ⟨rfl, ⟨nd, rfl⟩⟩; (try first | exact ⟨rfl, _, World.drewN_drewN _ _ _⟩ | exact ⟨rfl, _, Eq.trans (World.drewN_drewN _ _ _) (congrArg (World.drewN _) (Nat.add_assoc _ _ _))⟩); obtain ⟨Ao50, co50, eo50⟩ := Kd.R_slice HO362.out; subst eo50; obtain ⟨Ao51, co51, eo51⟩ := Kd.R_slice HO366.out; subst eo51) | (go_at_call 21; (with_reducible refine (laws_wSame.calls k _ _ t359 _ _ t363 true _ ?side1 ?side2 ?side3 ?side4 A32.out).mono ?_); (case side1 => repeat (first | exact (Kd.R_reads' HO362.out).2.2 | (with_reducible refine Kd.C_alloc ?_ _) | (with_reducible refine Kd.C_drewN ?_ _) | (with_reducible refine Kd.C_drew ?_))); (case side2 => exact (Kd.R_reads' HO362.out).2.1); (case side3 => repeat (first | exact (Kd.R_reads' HO366.out).2.2 | (with_reducible refine Kd.C_alloc ?_ _) | (with_reducible refine Kd.C_drewN ?_ _) | (with_reducible refine Kd.C_drew ?_))); (case side4 => exact (Kd.R_reads' HO366.out).2.1); rintro e w' ⟨rfl, ⟨nd, rfl⟩⟩; (try first | exact ⟨rfl, _, World.drewN_drewN _ _ _⟩ | exact ⟨rfl, _, Eq.trans (World.drewN_drewN _ _ _) (congrArg (World.drewN _) (Nat.add_assoc _ _ _))⟩); obtain ⟨Ao52, co52, eo52⟩ := Kd.R_slice HO370.out; subst eo52; obtain ⟨Ao53, co53, eo53⟩ := Kd.R_slice HO374.out; subst eo53) | (go_at_call 21; (with_reducible refine (laws_wSame.calls k _ _ t367 _ _ t371 true _ ?side1 ?side2 ?side3 ?side4 A39.out).mono ?_); (case side1 => repeat (first | exact (Kd.R_reads' HO370.out).2.2 | (with_reducible refine Kd.C_alloc ?_ _) | (with_reducible refine Kd.C_drewN ?_ _) | (with_reducible refine Kd.C_drew ?_))); (case side2 => exact (Kd.R_reads' HO370.out).2.1); (case side3 => repeat (first | exact (Kd.R_reads' HO374.out).2.2 | (with_reducible refine Kd.C_alloc ?_ _) | (with_reducible refine Kd.C_drewN ?_ _) | (with_reducible refine Kd.C_drew ?_))); (case side4 => exact (Kd.R_reads' HO374.out).2.1); rintro e w' ⟨rfl, ⟨nd, rfl⟩⟩; (try first | exact ⟨rfl, _, World.drewN_drewN _ _ _⟩ | exact ⟨rfl, _, Eq.trans (World.drewN_drewN _ _ _) (congrArg (World.drewN _) (Nat.add_assoc _ _ _))⟩)))
                repeat (go_quiet (first | (go_at_call 20; (with_reducible refine (laws_wSameLists.calls k _ _ t349 _ _ t353 true _ ?side1 ?side2 ?side3 ?side4 A24.out).mono ?_); (case side1 => repeat (first | exact (Kd.S_reads' HO352.out).2.2 | (with_reducible refine Kd.C_alloc ?_ _) | (with_reducible refine Kd.C_drewN ?_ _) | (with_reducible refine Kd.C_drew ?_))); (case side2 => exact (Kd.S_reads' HO352.out).2.1); (case side3 => repeat (first | exact (Kd.S_reads' HO356.out).2.2 | (with_reducible refine Kd.C_alloc ?_ _) | (with_reducible refine Kd.C_drewN ?_ _) | (with_reducible refine Kd.C_drew ?_))); (case side4 => exact (Kd.S_reads' HO356.out).2.1); rintro e w' ⟨rfl, ⟨nd, rfl⟩⟩; (try first | exact ⟨rfl, _, World.drewN_drewN _ _ _⟩ | exact ⟨rfl, _, Eq.trans (World.drewN_drewN _ _ _) (congrArg (World.drewN _) (Nat.add_assoc _ _ _))⟩); obtain ⟨Ao50, co50, eo50⟩ := Kd.R_slice HO362.out; subst eo50; obtain ⟨Ao51, co51, eo51⟩ := Kd.R_slice HO366.out; subst eo51) | (go_at_call 21; (with_reducible refine (laws_wSame.calls k _ _ t359 _ _ t363 true _ ?side1 ?side2 ?side3 ?side4 A32.out).mono ?_); (case side1 => repeat (first | exact (Kd.R_reads' HO362.out).2.2 | (with_reducible refine Kd.C_alloc ?_ _) | (with_reducible refine Kd.C_drewN ?_ _) | (with_reducible refine Kd.C_drew ?_))); (case side2 => exact (Kd.R_reads' HO362.out).2.1); (case side3 => repeat (first | exact (Kd.R_reads' HO366.out).2.2 | (with_reducible refine Kd.C_alloc ?_ _) | (with_reducible refine Kd.C_drewN ?_ _) | (with_reducible refine Kd.C_drew ?_))); (case side4 => exact (Kd.R_reads' HO366.out).2.1); rintro e w' ⟨rfl, ⟨nd, rfl⟩⟩; (try first | exact ⟨rfl, _, World.drewN_drewN _ _ _⟩ | exact ⟨rfl, _, Eq.trans (World.drewN_drewN _ _ _) (congrArg (World.drewN _) (Nat.add_assoc _ _ _))⟩); obtain ⟨Ao52, co52, eo52⟩ := Kd.R_slice HO370.out; subst eo52; obtain ⟨Ao53, co53, eo53⟩ := Kd.R_slice HO374.out; subst eo53) | (go_at_call 21; (with_reducible refine (laws_wSame.calls k _ _ t367 _ _ t371 true _ ?side1 ?side2 ?side3 ?side4 A39.out).mono ?_); (case side1 => repeat (first | exact (Kd.R_reads' HO370.out).2.2 | (with_reducible refine Kd.C_alloc ?_ _) | (with_reducible refine Kd.C_drewN ?_ _) | (with_reducible refine Kd.C_drew ?_))); (case side2 => exact (Kd.R_reads' HO370.out).2.1); (case side3 => repeat (first | exact (Kd.R_reads' HO374.out).2.2 | (with_reducible refine Kd.C_alloc ?_ _) | (with_reducible refine Kd.C_drewN ?_ _) | (with_reducible refine Kd.C_drew ?_))); (case side4 => exact (Kd.R_reads' HO374.out).2.1); rintro e w' ⟨rfl, ⟨nd, rfl⟩⟩; (try first | exact ⟨rfl, _, World.drewN_drewN _ _ _⟩ | exact ⟨rfl, _, Eq.trans (World.drewN_drewN _ _ _) (congrArg (World.drewN _) (Nat.add_assoc _ _ _))⟩))); try go_wp2_with (first | (go_at_call 20; (with_reducible refine (laws_wSameLists.calls k _ _ t349 _ _ t353 true _ ?side1 ?side2 ?side3 ?side4 A24.out).mono ?_); (case side1 => repeat (first | exact (Kd.S_reads' HO352.out).2.2 | (with_reducible refine Kd.C_alloc ?_ _) | (with_reducible refine Kd.C_drewN ?_ _) | (with_reducible refine Kd.C_drew ?_))); (case side2 => exact (Kd.S_reads' HO352.out).2.1); (case side3 => repeat (first | exact (Kd.S_reads' HO356.out).2.2 | (with_reducible refine Kd.C_alloc ?_ _) | (with_reducible refine Kd.C_drewN ?_ _) | (with_reducible refine Kd.C_drew ?_))); (case side4 => exact (Kd.S_reads' HO356.out).2.1); rintro e w' ⟨rfl, ⟨nd, rfl⟩⟩; (try first | exact ⟨rfl, _, World.drewN_drewN _ _ _⟩ | exact ⟨rfl, _, Eq.trans (World.drewN_drewN _ _ _) (congrArg (World.drewN _) (Nat.add_assoc _ _ _))⟩); obtain ⟨Ao50, co50, eo50⟩ := Kd.R_slice HO362.out; subst eo50; obtain ⟨Ao51, co51, eo51⟩ := Kd.R_slice HO366.out; subst eo51) | (go_at_call 21; (with_reducible refine (laws_wSame.calls k _ _ t359 _ _ t363 true _ ?side1 ?side2 ?side3 ?side4 A32.out).mono ?_); (case side1 => repeat (first | exact (Kd.R_reads' HO362.out).2.2 | (with_reducible refine Kd.C_alloc ?_ _) | (with_reducible refine Kd.C_drewN ?_ _) | (with_reducible refine Kd.C_drew ?_))); (case side2 => exact (Kd.R_reads' HO362.out).2.1); (case side3 => repeat (first | exact (Kd.R_reads' HO366.out).2.2 | (with_reducible refine Kd.C_alloc ?_ _) | (with_reducible refine Kd.C_drewN ?_ _) | (with_reducible refine Kd.C_drew ?_))); (case side4 => exact (Kd.R_reads' HO366.out).2.1); rintro e w' ⟨rfl, ⟨nd, rfl⟩⟩; (try first | exact ⟨rfl, _, World.drewN_drewN _ _ _⟩ | exact ⟨rfl, _, Eq.trans (World.drewN_drewN _ _ _) (congrArg (World.drewN _) (Nat.add_assoc _ _ _))⟩); obtain ⟨Ao52, co52, eo52⟩ := Kd.R_slice HO370.out; subst eo52; obtain ⟨Ao53, co53, eo53⟩ := Kd.R_slice HO374.out; subst eo53) | (go_at_call 21; (with_reducible refine (laws_wSame.calls k _ _ t367 _ _ t371 true _ ?side1 ?side2 ?side3 ?side4 A39.out).mono ?_); (case side1 => repeat (first | exact (Kd.R_reads' HO370.out).2.2 | (with_reducible refine Kd.C_alloc ?_ _) | (with_reducible refine Kd.C_drewN ?_ _) | (with_reducible refine Kd.C_drew ?_))); (case side2 => exact (Kd.R_reads' HO370.out).2.1); (case side3 => repeat (first | exact (Kd.R_reads' HO374.out).2.2 | (with_reducible refine Kd.C_alloc ?_ _) | (with_reducible refine Kd.C_drewN ?_ _) | (with_reducible refine Kd.C_drew ?_))); (case side4 => exact (Kd.R_reads' HO374.out).2.1); rintro e w' ⟨rfl, ⟨nd, rfl⟩⟩; (try first | exact ⟨rfl, _, World.drewN_drewN _ _ _⟩ | exact ⟨rfl, _, Eq.trans (World.drewN_drewN _ _ _) (congrArg (World.drewN _) (Nat.add_assoc _ _ _))⟩))))
                go_meet
                case rel => exact ⟨_, ((t368 != t350)), (by first | rfl | (simp; done) | (simp [*]; done)), H', ⟨by first | omega | exact Nat.le_refl _⟩, ⟨by (with_reducible repeat (first | apply Kd.R_alloc | apply Kd.R_drewN | apply Kd.R_drew)); exact Kd.R_mono HO348.out (fun _ hk => ⟨hk.1.1.1.2, hk.1.2⟩)⟩, ⟨by (with_reducible repeat (first | apply Kd.S_alloc | apply Kd.S_drewN | apply Kd.S_drew)); exact Kd.S_mono HO352.out (fun _ hk => ⟨hk.1.1.1.1.1.2, ⟨hk.1.1.1.2, hk.1.2⟩⟩)⟩, ⟨by (with_reducible repeat (first | apply Kd.R_alloc | apply Kd.R_drewN | apply Kd.R_drew)); exact Kd.R_mono HO362.out (fun _ hk => ⟨hk.1.1.1.2, hk.1.2⟩)⟩, ⟨by (with_reducible repeat (first | apply Kd.R_alloc | apply Kd.R_drewN | apply Kd.R_drew)); exact Kd.R_mono HO370.out (fun _ hk => ⟨hk.1.1.1.2, hk.1.1.2⟩)⟩, ⟨by repeat (first | (with_reducible first | exact HB.out | apply below_alloc | apply pw_below_drewN | apply below_drew1) | exact HB.out)⟩⟩
              ·replace c40 := Bool.eq_false_iff.mpr c40
               subst c40
               have H1 : (laws_FnTreesMeasured.j0 k t346 t349 t354 t357 t359 t367 true) = some r := by rw [if_neg (show ¬ (false = true) by decide)] at H; exact H
               clear H
               have H := H1
               clear H1
               have H' := Aside0.mk H
               clear H
               obtain ⟨Ao54, co54, eo54⟩ := Kd.S_slice HO352.out
               subst eo54
               obtain ⟨Ao55, co55, eo55⟩ := Kd.S_slice HO356.out
               subst eo55
               go_wp2_with (first | (go_at_call 20; (with_reducible refine (laws_wSameLists.calls k _ _ t349 _ _ t353 true _ ?side1 ?side2 ?side3 ?side4 A24.out).mono ?_); (case side1 => repeat (first | exact (Kd.S_reads' HO352.out).2.2 | (with_reducible refine Kd.C_alloc ?_ _) | (with_reducible refine Kd.C_drewN ?_ _) | (with_reducible refine Kd.C_drew ?_))); (case side2 => exact (Kd.S_reads' HO352.out).2.1); (case side3 => repeat (first | exact (Kd.S_reads' HO356.out).2.2 | (with_reducible refine Kd.C_alloc ?_ _) | (with_reducible refine Kd.C_drewN ?_ _) | (with_reducible refine Kd.C_drew ?_))); (case side4 => exact (Kd.S_reads' HO356.out).2.1); rintro e w' ⟨rfl, ⟨nd, rfl⟩⟩; (try first | exact ⟨rfl, _, World.drewN_drewN _ _ _⟩ | exact ⟨rfl, _, Eq.trans (World.drewN_drewN _ _ _) (congrArg (World.drewN _) (Nat.add_assoc _ _ _))⟩); obtain ⟨Ao56, co56, eo56⟩ := Kd.R_slice HO362.out; subst eo56; obtain ⟨Ao57, co57, eo57⟩ := Kd.R_slice HO366.out; subst eo57) | (go_at_call 21; (with_reducible refine (laws_wSame.calls k _ _ t359 _ _ t363 true _ ?side1 ?side2 ?side3 ?side4 A32.out).mono ?_); (case side1 => repeat (first | exact (Kd.R_reads' HO362.out).2.2 | (with_reducible refine Kd.C_alloc ?_ _) | (with_reducible refine Kd.C_drewN ?_ _) | (with_reducible refine Kd.C_drew ?_))); (case side2 => exact (Kd.R_reads' HO362.out).2.1); (case side3 => repeat (first | exact (Kd.R_reads' HO366.out).2.2 | (with_reducible refine Kd.C_alloc ?_ _) | (with_reducible refine Kd.C_drewN ?_ _) | (with_reducible refine Kd.C_drew ?_))); (case side4 => exact (Kd.R_reads' HO366.out).2.1); rintro e w' ⟨rfl, ⟨nd, rfl⟩⟩; (try first | exact ⟨rfl, _, World.drewN_drewN _ _ _⟩ | exact ⟨rfl, _, Eq.trans (World.drewN_drewN _ _ _) (congrArg (World.drewN _) (Nat.add_assoc _ _ _))⟩); obtain ⟨Ao58, co58, eo58⟩ := Kd.R_slice HO370.out; subst eo58; obtain ⟨Ao59, co59, eo59⟩ := Kd.R_slice HO374.out; subst eo59) | (go_at_call 21; (with_reducible refine (laws_wSame.calls k _ _ t367 _ _ t371 false _ ?side1 ?side2 ?side3 ?side4 A39.out).mono ?_); (case side1 => repeat (first | exact (Kd.R_reads' HO370.out).2.2 | (with_reducible refine Kd.C_alloc ?_ _) | (with_reducible refine Kd.C_drewN ?_ _) | (with_reducible refine Kd.C_drew ?_))); (case side2 => exact (Kd.R_reads' HO370.out).2.1); (case side3 => repeat (first | exact (Kd.R_reads' HO374.out).2.2 | (with_reducible refine Kd.C_alloc ?_ _) | (with_reducible refine Kd.C_drewN ?_ _) | (with_reducible refine Kd.C_drew ?_))); (case side4 => exact (Kd.R_reads' HO374.out).2.1); rintro e w' ⟨rfl, ⟨nd, rfl⟩⟩; (try first | exact ⟨rfl, _, World.drewN_drewN _ _ _⟩ | exact ⟨rfl, _, Eq.trans (World.drewN_drewN _ _ _) (congrArg (World.drewN _) (Nat.add_assoc _ _ _))⟩)))
               repeat (go_quiet (first | (go_at_call 20; (with_reducible refine (laws_wSameLists.calls k _ _ t349 _ _ t353 true _ ?side1 ?side2 ?side3 ?side4 A24.out).mono ?_); (case side1 => repeat (first | exact (Kd.S_reads' HO352.out).2.2 | (with_reducible refine Kd.C_alloc ?_ _) | (with_reducible refine Kd.C_drewN ?_ _) | (with_reducible refine Kd.C_drew ?_))); (case side2 => exact (Kd.S_reads' HO352.out).2.1); (case side3 => repeat (first | exact (Kd.S_reads' HO356.out).2.2 | (with_reducible refine Kd.C_alloc ?_ _) | (with_reducible refine Kd.C_drewN ?_ _) | (with_reducible refine Kd.C_drew ?_))); (case side4 => exact (Kd.S_reads' HO356.out).2.1); rintro e w' ⟨rfl, ⟨nd, rfl⟩⟩; (try first | exact ⟨rfl, _, World.drewN_drewN _ _ _⟩ | exact ⟨rfl, _, Eq.trans (World.drewN_drewN _ _ _) (congrArg (World.drewN _) (Nat.add_assoc _ _ _))⟩); obtain ⟨Ao56, co56, eo56⟩ := Kd.R_slice HO362.out; subst eo56; obtain ⟨Ao57, co57, eo57⟩ := Kd.R_slice HO366.out; subst eo57) | (go_at_call 21; (with_reducible refine (laws_wSame.calls k _ _ t359 _ _ t363 true _ ?side1 ?side2 ?side3 ?side4 A32.out).mono ?_); (case side1 => repeat (first | exact (Kd.R_reads' HO362.out).2.2 | (with_reducible refine Kd.C_alloc ?_ _) | (with_reducible refine Kd.C_drewN ?_ _) | (with_reducible refine Kd.C_drew ?_))); (case side2 => exact (Kd.R_reads' HO362.out).2.1); (case side3 => repeat (first | exact (Kd.R_reads' HO366.out).2.2 | (with_reducible refine Kd.C_alloc ?_ _) | (with_reducible refine Kd.C_drewN ?_ _) | (with_reducible refine Kd.C_drew ?_))); (case side4 => exact (Kd.R_reads' HO366.out).2.1); rintro e w' ⟨rfl, ⟨nd, rfl⟩⟩; (try first | exact ⟨rfl, _, World.drewN_drewN _ _ _⟩ | exact ⟨rfl, _, Eq.trans (World.drewN_drewN _ _ _) (congrArg (World.drewN _) (Nat.add_assoc _ _ _))⟩); obtain ⟨Ao58, co58, eo58⟩ := Kd.R_slice HO370.out; subst eo58; obtain ⟨Ao59, co59, eo59⟩ := Kd.R_slice HO374.out; subst eo59) | (go_at_call 21; (with_reducible refine (laws_wSame.calls k _ _ t367 _ _ t371 false _ ?side1 ?side2 ?side3 ?side4 A39.out).mono ?_); (case side1 => repeat (first | exact (Kd.R_reads' HO370.out).2.2 | (with_reducible refine Kd.C_alloc ?_ _) | (with_reducible refine Kd.C_drewN ?_ _) | (with_reducible refine Kd.C_drew ?_))); (case side2 => exact (Kd.R_reads' HO370.out).2.1); (case side3 => repeat (first | exact (Kd.R_reads' HO374.out).2.2 | (with_reducible refine Kd.C_alloc ?_ _) | (with_reducible refine Kd.C_drewN ?_ _) | (with_reducible refine Kd.C_drew ?_))); (case side4 => exact (Kd.R_reads' HO374.out).2.1); rintro e w' ⟨rfl, ⟨nd, rfl⟩⟩; (try first | exact ⟨rfl, _, World.drewN_drewN _ _ _⟩ | exact ⟨rfl, _, Eq.trans (World.drewN_drewN _ _ _) (congrArg (World.drewN _) (Nat.add_assoc _ _ _))⟩))); try go_wp2_with (first | (go_at_call 20; (with_reducible refine (laws_wSameLists.calls k _ _ t349 _ _ t353 true _ ?side1 ?side2 ?side3 ?side4 A24.out).mono ?_); (case side1 => repeat (first | exact (Kd.S_reads' HO352.out).2.2 | (with_reducible refine Kd.C_alloc ?_ _) | (with_reducible refine Kd.C_drewN ?_ _) | (with_reducible refine Kd.C_drew ?_))); (case side2 => exact (Kd.S_reads' HO352.out).2.1); (case side3 => repeat (first | exact (Kd.S_reads' HO356.out).2.2 | (with_reducible refine Kd.C_alloc ?_ _) | (with_reducible refine Kd.C_drewN ?_ _) | (with_reducible refine Kd.C_drew ?_))); (case side4 => exact (Kd.S_reads' HO356.out).2.1); rintro e w' ⟨rfl, ⟨nd, rfl⟩⟩; (try first | exact ⟨rfl, _, World.drewN_drewN _ _ _⟩ | exact ⟨rfl, _, Eq.trans (World.drewN_drewN _ _ _) (congrArg (World.drewN _) (Nat.add_assoc _ _ _))⟩); obtain ⟨Ao56, co56, eo56⟩ := Kd.R_slice HO362.out; subst eo56; obtain ⟨Ao57, co57, eo57⟩ := Kd.R_slice HO366.out; subst eo57) | (go_at_call 21; (with_reducible refine (laws_wSame.calls k _ _ t359 _ _ t363 true _ ?side1 ?side2 ?side3 ?side4 A32.out).mono ?_); (case side1 => repeat (first | exact (Kd.R_reads' HO362.out).2.2 | (with_reducible refine Kd.C_alloc ?_ _) | (with_reducible refine Kd.C_drewN ?_ _) | (with_reducible refine Kd.C_drew ?_))); (case side2 => exact (Kd.R_reads' HO362.out).2.1); (case side3 => repeat (first | exact (Kd.R_reads' HO366.out).2.2 | (with_reducible refine Kd.C_alloc ?_ _) | (with_reducible refine Kd.C_drewN ?_ _) | (with_reducible refine Kd.C_drew ?_))); (case side4 => exact (Kd.R_reads' HO366.out).2.1); rintro e w' ⟨rfl, ⟨nd, rfl⟩⟩; (try first | exact ⟨rfl, _, World.drewN_drewN _ _ _⟩ | exact ⟨rfl, _, Eq.trans (World.drewN_drewN _ _ _) (congrArg (World.drewN _) (Nat.add_assoc _ _ _))⟩); obtain ⟨Ao58, co58, eo58⟩ := Kd.R_slice HO370.out; subst eo58; obtain ⟨Ao59, co59, eo59⟩ := Kd.R_slice HO374.out; subst eo59) | (go_at_call 21; (with_reducible refine (laws_wSame.calls k _ _ t367 _ _ t371 false _ ?side1 ?side2 ?side3 ?side4 A39.out).mono ?_); (case side1 => repeat (first | exact (Kd.R_reads' HO370.out).2.2 | (with_reducible refine Kd.C_alloc ?_ _) | (with_reducible refine Kd.C_drewN ?_ _) | (with_reducible refine Kd.C_drew ?_))); (case side2 => exact (Kd.R_reads' HO370.out).2.1); (case side3 => repeat (first | exact (Kd.R_reads' HO374.out).2.2 | (with_reducible refine Kd.C_alloc ?_ _) | (with_reducible refine Kd.C_drewN ?_ _) | (with_reducible refine Kd.C_drew ?_))); (case side4 => exact (Kd.R_reads' HO374.out).2.1); rintro e w' ⟨rfl, ⟨nd, rfl⟩⟩; (try first | exact ⟨rfl, _, World.drewN_drewN _ _ _⟩ | exact ⟨rfl, _, Eq.trans (World.drewN_drewN _ _ _) (congrArg (World.drewN _) (Nat.add_assoc _ _ _))⟩))))
               go_meet
               case rel => exact ⟨_, (true), (by first | rfl | (simp; done) | (simp [*]; done)), H', ⟨by first | omega | exact Nat.le_refl _⟩, ⟨by (with_reducible repeat (first | apply Kd.R_alloc | apply Kd.R_drewN | apply Kd.R_drew)); exact Kd.R_mono HO348.out (fun _ hk => ⟨hk.1.1.1.2, hk.1.2⟩)⟩, ⟨by (with_reducible repeat (first | apply Kd.S_alloc | apply Kd.S_drewN | apply Kd.S_drew)); exact Kd.S_mono HO352.out (fun _ hk => ⟨hk.1.1.1.1.1.2, ⟨hk.1.1.1.2, hk.1.2⟩⟩)⟩, ⟨by (with_reducible repeat (first | apply Kd.R_alloc | apply Kd.R_drewN | apply Kd.R_drew)); exact Kd.R_mono HO362.out (fun _ hk => ⟨hk.1.1.1.2, hk.1.2⟩)⟩, ⟨by (with_reducible repeat (first | apply Kd.R_alloc | apply Kd.R_drewN | apply Kd.R_drew)); exact Kd.R_mono HO370.out (fun _ hk => ⟨hk.1.1.1.2, hk.1.1.2⟩)⟩, ⟨by repeat (first | (with_reducible first | exact HB.out | apply below_alloc | apply pw_below_drewN | apply below_drew1) | exact HB.out)⟩⟩
            ·replace c33 := Bool.eq_false_iff.mpr c33
             subst c33
             have H1 : (laws_FnTreesMeasured.j0 k t346 t349 t354 t357 t359 t367 true) = some r := by rw [if_neg (show ¬ (false = true) by decide)] at H; exact H
             clear H
             have H := H1
             clear H1
             have H' := Aside0.mk H
             clear H
             obtain ⟨Ao60, co60, eo60⟩ := Kd.S_slice HO352.out
             subst eo60
             obtain ⟨Ao61, co61, eo61⟩ := Kd.S_slice HO356.out
             subst eo61
             go_wp2_with (first | (go_at_call 20; (with_reducible refine (laws_wSameLists.calls k _ _ t349 _ _ t353 true _ ?side1 ?side2 ?side3 ?side4 A24.out).mono ?_); (case side1 => repeat (first | exact (Kd.S_reads' HO352.out).2.2 | (with_reducible refine Kd.C_alloc ?_ _) | (with_reducible refine Kd.C_drewN ?_ _) | (with_reducible refine Kd.C_drew ?_))); (case side2 => exact (Kd.S_reads' HO352.out).2.1); (case side3 => repeat (first | exact (Kd.S_reads' HO356.out).2.2 | (with_reducible refine Kd.C_alloc ?_ _) | (with_reducible refine Kd.C_drewN ?_ _) | (with_reducible refine Kd.C_drew ?_))); (case side4 => exact (Kd.S_reads' HO356.out).2.1); rintro e w' ⟨rfl, ⟨nd, rfl⟩⟩; (try first | exact ⟨rfl, _, World.drewN_drewN _ _ _⟩ | exact ⟨rfl, _, Eq.trans (World.drewN_drewN _ _ _) (congrArg (World.drewN _) (Nat.add_assoc _ _ _))⟩); obtain ⟨Ao62, co62, eo62⟩ := Kd.R_slice HO362.out; subst eo62; obtain ⟨Ao63, co63, eo63⟩ := Kd.R_slice HO366.out; subst eo63) | (go_at_call 21; (with_reducible refine (laws_wSame.calls k _ _ t359 _ _ t363 false _ ?side1 ?side2 ?side3 ?side4 A32.out).mono ?_); (case side1 => repeat (first | exact (Kd.R_reads' HO362.out).2.2 | (with_reducible refine Kd.C_alloc ?_ _) | (with_reducible refine Kd.C_drewN ?_ _) | (with_reducible refine Kd.C_drew ?_))); (case side2 => exact (Kd.R_reads' HO362.out).2.1); (case side3 => repeat (first | exact (Kd.R_reads' HO366.out).2.2 | (with_reducible refine Kd.C_alloc ?_ _) | (with_reducible refine Kd.C_drewN ?_ _) | (with_reducible refine Kd.C_drew ?_))); (case side4 => exact (Kd.R_reads' HO366.out).2.1); rintro e w' ⟨rfl, ⟨nd, rfl⟩⟩; (try first | exact ⟨rfl, _, World.drewN_drewN _ _ _⟩ | exact ⟨rfl, _, Eq.trans (World.drewN_drewN _ _ _) (congrArg (World.drewN _) (Nat.add_assoc _ _ _))⟩)))
             repeat (go_quiet (first | (go_at_call 20; (with_reducible refine (laws_wSameLists.calls k _ _ t349 _ _ t353 true _ ?side1 ?side2 ?side3 ?side4 A24.out).mono ?_); (case side1 => repeat (first | exact (Kd.S_reads' HO352.out).2.2 | (with_reducible refine Kd.C_alloc ?_ _) | (with_reducible refine Kd.C_drewN ?_ _) | (with_reducible refine Kd.C_drew ?_))); (case side2 => exact (Kd.S_reads' HO352.out).2.1); (case side3 => repeat (first | exact (Kd.S_reads' HO356.out).2.2 | (with_reducible refine Kd.C_alloc ?_ _) | (with_reducible refine Kd.C_drewN ?_ _) | (with_reducible refine Kd.C_drew ?_))); (case side4 => exact (Kd.S_reads' HO356.out).2.1); rintro e w' ⟨rfl, ⟨nd, rfl⟩⟩; (try first | exact ⟨rfl, _, World.drewN_drewN _ _ _⟩ | exact ⟨rfl, _, Eq.trans (World.drewN_drewN _ _ _) (congrArg (World.drewN _) (Nat.add_assoc _ _ _))⟩); obtain ⟨Ao62, co62, eo62⟩ := Kd.R_slice HO362.out; subst eo62; obtain ⟨Ao63, co63, eo63⟩ := Kd.R_slice HO366.out; subst eo63) | (go_at_call 21; (with_reducible refine (laws_wSame.calls k _ _ t359 _ _ t363 false _ ?side1 ?side2 ?side3 ?side4 A32.out).mono ?_); (case side1 => repeat (first | exact (Kd.R_reads' HO362.out).2.2 | (with_reducible refine Kd.C_alloc ?_ _) | (with_reducible refine Kd.C_drewN ?_ _) | (with_reducible refine Kd.C_drew ?_))); (case side2 => exact (Kd.R_reads' HO362.out).2.1); (case side3 => repeat (first | exact (Kd.R_reads' HO366.out).2.2 | (with_reducible refine Kd.C_alloc ?_ _) | (with_reducible refine Kd.C_drewN ?_ _) | (with_reducible refine Kd.C_drew ?_))); (case side4 => exact (Kd.R_reads' HO366.out).2.1); rintro e w' ⟨rfl, ⟨nd, rfl⟩⟩; (try first | exact ⟨rfl, _, World.drewN_drewN _ _ _⟩ | exact ⟨rfl, _, Eq.trans (World.drewN_drewN _ _ _) (congrArg (World.drewN _) (Nat.add_assoc _ _ _))⟩))); try go_wp2_with (first | (go_at_call 20; (with_reducible refine (laws_wSameLists.calls k _ _ t349 _ _ t353 true _ ?side1 ?side2 ?side3 ?side4 A24.out).mono ?_); (case side1 => repeat (first | exact (Kd.S_reads' HO352.out).2.2 | (with_reducible refine Kd.C_alloc ?_ _) | (with_reducible refine Kd.C_drewN ?_ _) | (with_reducible refine Kd.C_drew ?_))); (case side2 => exact (Kd.S_reads' HO352.out).2.1); (case side3 => repeat (first | exact (Kd.S_reads' HO356.out).2.2 | (with_reducible refine Kd.C_alloc ?_ _) | (with_reducible refine Kd.C_drewN ?_ _) | (with_reducible refine Kd.C_drew ?_))); (case side4 => exact (Kd.S_reads' HO356.out).2.1); rintro e w' ⟨rfl, ⟨nd, rfl⟩⟩; (try first | exact ⟨rfl, _, World.drewN_drewN _ _ _⟩ | exact ⟨rfl, _, Eq.trans (World.drewN_drewN _ _ _) (congrArg (World.drewN _) (Nat.add_assoc _ _ _))⟩); obtain ⟨Ao62, co62, eo62⟩ := Kd.R_slice HO362.out; subst eo62; obtain ⟨Ao63, co63, eo63⟩ := Kd.R_slice HO366.out; subst eo63) | (go_at_call 21; (with_reducible refine (laws_wSame.calls k _ _ t359 _ _ t363 false _ ?side1 ?side2 ?side3 ?side4 A32.out).mono ?_); (case side1 => repeat (first | exact (Kd.R_reads' HO362.out).2.2 | (with_reducible refine Kd.C_alloc ?_ _) | (with_reducible refine Kd.C_drewN ?_ _) | (with_reducible refine Kd.C_drew ?_))); (case side2 => exact (Kd.R_reads' HO362.out).2.1); (case side3 => repeat (first | exact (Kd.R_reads' HO366.out).2.2 | (with_reducible refine Kd.C_alloc ?_ _) | (with_reducible refine Kd.C_drewN ?_ _) | (with_reducible refine Kd.C_drew ?_))); (case side4 => exact (Kd.R_reads' HO366.out).2.1); rintro e w' ⟨rfl, ⟨nd, rfl⟩⟩; (try first | exact ⟨rfl, _, World.drewN_drewN _ _ _⟩ | exact ⟨rfl, _, Eq.trans (World.drewN_drewN _ _ _) (congrArg (World.drewN _) (Nat.add_assoc _ _ _))⟩))))
             go_meet
             case rel => exact ⟨_, (true), (by first | rfl | (simp; done) | (simp [*]; done)), H', ⟨by first | omega | exact Nat.le_refl _⟩, ⟨by (with_reducible repeat (first | apply Kd.R_alloc | apply Kd.R_drewN | apply Kd.R_drew)); exact Kd.R_mono HO348.out (fun _ hk => ⟨hk.1.1.1.2, hk.1.2⟩)⟩, ⟨by (with_reducible repeat (first | apply Kd.S_alloc | apply Kd.S_drewN | apply Kd.S_drew)); exact Kd.S_mono HO352.out (fun _ hk => ⟨hk.1.1.1.1.1.2, ⟨hk.1.1.1.2, hk.1.2⟩⟩)⟩, ⟨by (with_reducible repeat (first | apply Kd.R_alloc | apply Kd.R_drewN | apply Kd.R_drew)); exact Kd.R_mono HO362.out (fun _ hk => ⟨hk.1.1.1.2, hk.1.2⟩)⟩, ⟨by (with_reducible repeat (first | apply Kd.R_alloc | apply Kd.R_drewN | apply Kd.R_drew)); exact Kd.R_mono HO370.out (fun _ hk => ⟨hk.1.1.1.2, hk.1.1.2⟩)⟩, ⟨by repeat (first | (with_reducible first | exact HB.out | apply below_alloc | apply pw_below_drewN | apply below_drew1) | exact HB.out)⟩⟩
      ·replace c25 := Bool.eq_false_iff.mpr c25
       subst c25
       have H1 : (laws_FnTreesMeasured.j0 k t346 t349 t354 t357 t359 t367 true) = some r := by rw [if_neg (show ¬ (false = true) by decide)] at H; exact H
       clear H
       have H := H1
       clear H1
       have H' := Aside0.mk H
       clear H
       obtain ⟨Ao64, co64, eo64⟩ := Kd.S_slice HO352.out
       subst eo64
       obtain ⟨Ao65, co65, eo65⟩ := Kd.S_slice HO356.out
       subst eo65
       go_wp2_with (first | (go_at_call 20; (with_reducible refine (laws_wSameLists.calls k _ _ t349 _ _ t353 false _ ?side1 ?side2 ?side3 ?side4 A24.out).mono ?_); (case side1 => repeat (first | exact (Kd.S_reads' HO352.out).2.2 | (with_reducible refine Kd.C_alloc ?_ _) | (with_reducible refine Kd.C_drewN ?_ _) | (with_reducible refine Kd.C_drew ?_))); (case side2 => exact (Kd.S_reads' HO352.out).2.1); (case side3 => repeat (first | exact (Kd.S_reads' HO356.out).2.2 | (with_reducible refine Kd.C_alloc ?_ _) | (with_reducible refine Kd.C_drewN ?_ _) | (with_reducible refine Kd.C_drew ?_))); (case side4 => exact (Kd.S_reads' HO356.out).2.1); rintro e w' ⟨rfl, ⟨nd, rfl⟩⟩; (try first | exact ⟨rfl, _, World.drewN_drewN _ _ _⟩ | exact ⟨rfl, _, Eq.trans (World.drewN_drewN _ _ _) (congrArg (World.drewN _) (Nat.add_assoc _ _ _))⟩)))
       repeat (go_quiet (first | (go_at_call 20; (with_reducible refine (laws_wSameLists.calls k _ _ t349 _ _ t353 false _ ?side1 ?side2 ?side3 ?side4 A24.out).mono ?_); (case side1 => repeat (first | exact (Kd.S_reads' HO352.out).2.2 | (with_reducible refine Kd.C_alloc ?_ _) | (with_reducible refine Kd.C_drewN ?_ _) | (with_reducible refine Kd.C_drew ?_))); (case side2 => exact (Kd.S_reads' HO352.out).2.1); (case side3 => repeat (first | exact (Kd.S_reads' HO356.out).2.2 | (with_reducible refine Kd.C_alloc ?_ _) | (with_reducible refine Kd.C_drewN ?_ _) | (with_reducible refine Kd.C_drew ?_))); (case side4 => exact (Kd.S_reads' HO356.out).2.1); rintro e w' ⟨rfl, ⟨nd, rfl⟩⟩; (try first | exact ⟨rfl, _, World.drewN_drewN _ _ _⟩ | exact ⟨rfl, _, Eq.trans (World.drewN_drewN _ _ _) (congrArg (World.drewN _) (Nat.add_assoc _ _ _))⟩))); try go_wp2_with (first | (go_at_call 20; (with_reducible refine (laws_wSameLists.calls k _ _ t349 _ _ t353 false _ ?side1 ?side2 ?side3 ?side4 A24.out).mono ?_); (case side1 => repeat (first | exact (Kd.S_reads' HO352.out).2.2 | (with_reducible refine Kd.C_alloc ?_ _) | (with_reducible refine Kd.C_drewN ?_ _) | (with_reducible refine Kd.C_drew ?_))); (case side2 => exact (Kd.S_reads' HO352.out).2.1); (case side3 => repeat (first | exact (Kd.S_reads' HO356.out).2.2 | (with_reducible refine Kd.C_alloc ?_ _) | (with_reducible refine Kd.C_drewN ?_ _) | (with_reducible refine Kd.C_drew ?_))); (case side4 => exact (Kd.S_reads' HO356.out).2.1); rintro e w' ⟨rfl, ⟨nd, rfl⟩⟩; (try first | exact ⟨rfl, _, World.drewN_drewN _ _ _⟩ | exact ⟨rfl, _, Eq.trans (World.drewN_drewN _ _ _) (congrArg (World.drewN _) (Nat.add_assoc _ _ _))⟩))))
       go_meet
       case rel => exact ⟨_, (true), (by first | rfl | (simp; done) | (simp [*]; done)), H', ⟨by first | omega | exact Nat.le_refl _⟩, ⟨by (with_reducible repeat (first | apply Kd.R_alloc | apply Kd.R_drewN | apply Kd.R_drew)); exact Kd.R_mono HO348.out (fun _ hk => ⟨hk.1.1.1.2, hk.1.2⟩)⟩, ⟨by (with_reducible repeat (first | apply Kd.S_alloc | apply Kd.S_drewN | apply Kd.S_drew)); exact Kd.S_mono HO352.out (fun _ hk => ⟨hk.1.1.1.1.1.2, ⟨hk.1.1.1.2, hk.1.2⟩⟩)⟩, ⟨by (with_reducible repeat (first | apply Kd.R_alloc | apply Kd.R_drewN | apply Kd.R_drew)); exact Kd.R_mono HO362.out (fun _ hk => ⟨hk.1.1.1.2, hk.1.2⟩)⟩, ⟨by (with_reducible repeat (first | apply Kd.R_alloc | apply Kd.R_drewN | apply Kd.R_drew)); exact Kd.R_mono HO370.out (fun _ hk => ⟨hk.1.1.1.2, hk.1.1.2⟩)⟩, ⟨by repeat (first | (with_reducible first | exact HB.out | apply below_alloc | apply pw_below_drewN | apply below_drew1) | exact HB.out)⟩⟩
   case rest =>
    clear HC13
    try clear c1
    try clear c2
    try clear p2
    try clear c3
    try clear c4
    try clear c23
    try clear c23b0
    try clear c23b1
    try clear c23b2
    try clear c25
    try clear c26
    try clear c26b0
    try clear c26b1
    try clear c26b2
    try clear c29
    try clear c29b0
    try clear c29b1
    try clear c29b2
    try clear c33
    try clear c34
    try clear c34b0
    try clear c34b1
    try clear c34b2
    try clear c40
    try clear c41
    try clear c41b0
    try clear c41b1
    try clear c41b2
    obtain ⟨kq, x115_12, rfl, HA, HJ12, HO_5, HO_6, HO_12, HO_16, HB⟩ := hcut
    cases kq with
    | zero => exact absurd HA.out (by simp [laws_FnTreesMeasured.j0])
    | succ kj12 =>
     have H := HA.out
     clear HA
     simp only [laws_FnTreesMeasured.j0] at H
     by_cases c66 : x115_12 = true
     ·subst c66
      have H1 : (some false) = some r := by rw [if_pos rfl] at H; exact H
      clear H
      have H := H1
      clear H1
      obtain rfl := Option.some.inj H
      go_wp2
      repeat (go_quiet (fail); try go_wp2)
      go_ret
      exact ⟨by first | rfl | (simp [errW_none, errW_some] <;> rfl) | (simp [*, errW_none, errW_some] <;> rfl), by repeat (first | (with_reducible first | exact HB.out | apply below_alloc | apply pw_below_drewN | apply below_drew1) | exact HB.out)⟩
     ·as_aux_lemma =>
       replace c66 := Bool.eq_false_iff.mpr c66
       subst c66
       have H1 : (if t354 = true then (if t357 = (t349.length : Int) then ((laws_wSum.f kj12 t359).bind fun t378 => ((laws_wSum.f kj12 t367).bind fun t379 => (if t378 = t379 then (if 0 < (t367.length : Int) then (laws_FnTreesMeasured.j1 kj12 t346 t349 t359 ((rd t367 0) != (t346.length : Int))) else (none)) else (laws_FnTreesMeasured.j1 kj12 t346 t349 t359 true)))) else (laws_FnTreesMeasured.j1 kj12 t346 t349 t359 true)) else (some true)) = some r := by rw [if_neg (show ¬ (false = true) by decide)] at H; exact H
       clear H
       have H := H1
       clear H1
       by_cases c67 : t354 = true
       ·as_aux_lemma =>
         subst c67
         have H1 : (if t357 = (t349.length : Int) then ((laws_wSum.f kj12 t359).bind fun t378 => ((laws_wSum.f kj12 t367).bind fun t379 => (if t378 = t379 then (if 0 < (t367.length : Int) then (laws_FnTreesMeasured.j1 kj12 t346 t349 t359 ((rd t367 0) != (t346.length : Int))) else (none)) else (laws_FnTreesMeasured.j1 kj12 t346 t349 t359 true)))) else (laws_FnTreesMeasured.j1 kj12 t346 t349 t359 true)) = some r := by rw [if_pos rfl] at H; exact H
         clear H
         have H := H1
         clear H1
         have HC68 := Aside0.mk H
         clear H
         go_upto_region 15 with (fail)
         repeat (go_quiet (fail); go_upto_region 15 with (fail))
         go_cut [136] (fun v136 wc => ∃ (kq : Nat) (x136_67 : Bool), v136 = .bool x136_67 ∧ Aside0 (laws_FnTreesMeasured.j1 kq t346 t349 t359 x136_67 = some r) ∧ Aside0 (kq ≤ kj12) ∧ Aside0 (Kd.R (Kd.int .i64) 3 wc w.heap.size (fun k_ => some k_ ≠ (v361 : Value).ownBlock) (.slice Ao15 t346.length co15) t346) ∧ Aside0 (Kd.S (Kd.slice 3 (Kd.int .i64)) 22 wc w.heap.size (fun k_ => some k_ ≠ ((.slice Ao15 t346.length co15) : Value).ownBlock ∧ some k_ ≠ (v361 : Value).ownBlock) v351 t349) ∧ Aside0 (Kd.R (Kd.int .i64) 3 wc w.heap.size (fun k_ => some k_ ≠ ((.slice Ao15 t346.length co15) : Value).ownBlock) v361 t359) ∧ Aside0 (Below w.heap.size w wc))
         case first =>
          have H := HC68.out
          clear HC68
          by_cases c69 : t357 = (t349.length : Int)
          ·rw [if_pos c69] at H
           have c69b0 : (t357 == (t349.length : Int)) = true := beq_iff_eq.mpr c69
           have c69b1 : (t357 != (t349.length : Int)) = false := bne_eq_false_iff_eq.mpr c69
           clear c69
           (first | rw [c69b0] | (simp only [i64_w, i32_w]; rw [c69b0]) | rw [c69b1] | skip)
           replace H := Option.bind_eq_some_iff.mp H
           obtain ⟨t378, A700, H⟩ := H
           replace H : ((laws_wSum.f kj12 t367).bind fun t379 => (if t378 = t379 then (if 0 < (t367.length : Int) then (laws_FnTreesMeasured.j1 kj12 t346 t349 t359 ((rd t367 0) != (t346.length : Int))) else (none)) else (laws_FnTreesMeasured.j1 kj12 t346 t349 t359 true))) = some r := H
           have A70 := Aside0.mk A700
           clear A700
           replace H := Option.bind_eq_some_iff.mp H
           obtain ⟨t379, A710, H⟩ := H
           replace H : (if t378 = t379 then (if 0 < (t367.length : Int) then (laws_FnTreesMeasured.j1 kj12 t346 t349 t359 ((rd t367 0) != (t346.length : Int))) else (none)) else (laws_FnTreesMeasured.j1 kj12 t346 t349 t359 true)) = some r := H
           have A71 := Aside0.mk A710
           clear A710
           by_cases c72 : t378 = t379
           ·rw [if_pos c72] at H
            have c72b0 : (t378 == t379) = true := beq_iff_eq.mpr c72
            have c72b1 : (t378 != t379) = false := bne_eq_false_iff_eq.mpr c72
            clear c72
            by_cases c73 : 0 < (t367.length : Int)
            ·rw [if_pos c73] at H
             have c73b0 : decide (0 < (t367.length : Int)) = true := decide_eq_true c73
             have c73b1 : decide (0 < t367.length) = true := decide_eq_true (by omega)
             clear c73
             have H' := Aside0.mk H
             clear H
             obtain ⟨Ao74, co74, eo74⟩ := Kd.S_slice HO_6.out
             subst eo74
             obtain ⟨Ao75, co75, eo75⟩ := Kd.R_slice HO_12.out
             subst eo75
             go_wp2_with (first | (go_at_call 22; (with_reducible refine (laws_wSum.calls kj12 _ _ t359 t378 _ ?side1 ?side2 A70.out).mono ?_); (case side1 => repeat (first | exact (Kd.R_reads' HO_12.out).2.2 | (with_reducible refine Kd.C_alloc ?_ _) | (with_reducible refine Kd.C_drewN ?_ _) | (with_reducible refine Kd.C_drew ?_))); (case side2 => exact (Kd.R_reads' HO_12.out).2.1); rintro e w' ⟨rfl, ⟨nd, rfl⟩⟩; (try first | exact ⟨rfl, _, World.drewN_drewN _ _ _⟩ | exact ⟨rfl, _, Eq.trans (World.drewN_drewN _ _ _) (congrArg (World.drewN _) (Nat.add_assoc _ _ _))⟩); obtain ⟨Ao76, co76, eo76⟩ := Kd.R_slice HO_16.out; subst eo76) | (go_at_call 22; (with_reducible refine (laws_wSum.calls kj12 _ _ t367 t379 _ ?side1 ?side2 A71.out).mono ?_); (case side1 => repeat (first | exact (Kd.R_reads' HO_16.out).2.2 | (with_reducible refine Kd.C_alloc ?_ _) | (with_reducible refine Kd.C_drewN ?_ _) | (with_reducible refine Kd.C_drew ?_))); (case side2 => exact (Kd.R_reads' HO_16.out).2.1); rintro e w' ⟨rfl, ⟨nd, rfl⟩⟩; (try first | exact ⟨rfl, _, World.drewN_drewN _ _ _⟩ | exact ⟨rfl, _, Eq.trans (World.drewN_drewN _ _ _) (congrArg (World.drewN _) (Nat.add_assoc _ _ _))⟩); have p380 : 0 ≤ (0 : Int) := (by omega); have q380 : 0 < (t367.length : Int) := of_decide_eq_true (by first | (with_reducible assumption) | assumption); obtain ⟨ad380, e380, hx380_0⟩ := Kd.at_int (Kd.R_reads' HO_16.out).2.2 0 p380 q380; cases e380; have qi380 : (0 < t367.length) = True := eq_true (by omega); (try rw [show ((0 : Int)).toNat = 0 from rfl] at hx380_0); (try rw [Addr.add_zero'] at hx380_0); replace p380 := eq_true p380; replace q380 := eq_true q380))
             repeat (go_quiet (first | (go_at_call 22; (with_reducible refine (laws_wSum.calls kj12 _ _ t359 t378 _ ?side1 ?side2 A70.out).mono ?_); (case side1 => repeat (first | exact (Kd.R_reads' HO_12.out).2.2 | (with_reducible refine Kd.C_alloc ?_ _) | (with_reducible refine Kd.C_drewN ?_ _) | (with_reducible refine Kd.C_drew ?_))); (case side2 => exact (Kd.R_reads' HO_12.out).2.1); rintro e w' ⟨rfl, ⟨nd, rfl⟩⟩; (try first | exact ⟨rfl, _, World.drewN_drewN _ _ _⟩ | exact ⟨rfl, _, Eq.trans (World.drewN_drewN _ _ _) (congrArg (World.drewN _) (Nat.add_assoc _ _ _))⟩); obtain ⟨Ao76, co76, eo76⟩ := Kd.R_slice HO_16.out; subst eo76) | (go_at_call 22; (with_reducible refine (laws_wSum.calls kj12 _ _ t367 t379 _ ?side1 ?side2 A71.out).mono ?_); (case side1 => repeat (first | exact (Kd.R_reads' HO_16.out).2.2 | (with_reducible refine Kd.C_alloc ?_ _) | (with_reducible refine Kd.C_drewN ?_ _) | (with_reducible refine Kd.C_drew ?_))); (case side2 => exact (Kd.R_reads' HO_16.out).2.1); rintro e w' ⟨rfl, ⟨nd, rfl⟩⟩; (try first | exact ⟨rfl, _, World.drewN_drewN _ _ _⟩ | exact ⟨rfl, _, Eq.trans (World.drewN_drewN _ _ _) (congrArg (World.drewN _) (Nat.add_assoc _ _ _))⟩); have p380 : 0 ≤ (0 : Int) := (by omega); have q380 : 0 < (t367.length : Int) := of_decide_eq_true (by first | (with_reducible assumption) | assumption); obtain ⟨ad380, e380, hx380_0⟩ := Kd.at_int (Kd.R_reads' HO_16.out).2.2 0 p380 q380; cases e380; have qi380 : (0 < t367.length) = True := eq_true (by omega); (try rw [show ((0 : Int)).toNat = 0 from rfl] at hx380_0); (try rw [Addr.add_zero'] at hx380_0); replace p380 := eq_true p380; replace q380 := eq_true q380)); try go_wp2_with (first | (go_at_call 22; (with_reducible refine (laws_wSum.calls kj12 _ _ t359 t378 _ ?side1 ?side2 A70.out).mono ?_); (case side1 => repeat (first | exact (Kd.R_reads' HO_12.out).2.2 | (with_reducible refine Kd.C_alloc ?_ _) | (with_reducible refine Kd.C_drewN ?_ _) | (with_reducible refine Kd.C_drew ?_))); (case side2 => exact (Kd.R_reads' HO_12.out).2.1); rintro e w' ⟨rfl, ⟨nd, rfl⟩⟩; (try first | exact ⟨rfl, _, World.drewN_drewN _ _ _⟩ | exact ⟨rfl, _, Eq.trans (World.drewN_drewN _ _ _) (congrArg (World.drewN _) (Nat.add_assoc _ _ _))⟩); obtain ⟨Ao76, co76, eo76⟩ := Kd.R_slice HO_16.out; subst eo76) | (go_at_call 22; (with_reducible refine (laws_wSum.calls kj12 _ _ t367 t379 _ ?side1 ?side2 A71.out).mono ?_); (case side1 => repeat (first | exact (Kd.R_reads' HO_16.out).2.2 | (with_reducible refine Kd.C_alloc ?_ _) | (with_reducible refine Kd.C_drewN ?_ _) | (with_reducible refine Kd.C_drew ?_))); (case side2 => exact (Kd.R_reads' HO_16.out).2.1); rintro e w' ⟨rfl, ⟨nd, rfl⟩⟩; (try first | exact ⟨rfl, _, World.drewN_drewN _ _ _⟩ | exact ⟨rfl, _, Eq.trans (World.drewN_drewN _ _ _) (congrArg (World.drewN _) (Nat.add_assoc _ _ _))⟩); have p380 : 0 ≤ (0 : Int) := (by omega); have q380 : 0 < (t367.length : Int) := of_decide_eq_true (by first | (with_reducible assumption) | assumption); obtain ⟨ad380, e380, hx380_0⟩ := Kd.at_int (Kd.R_reads' HO_16.out).2.2 0 p380 q380; cases e380; have qi380 : (0 < t367.length) = True := eq_true (by omega); (try rw [show ((0 : Int)).toNat = 0 from rfl] at hx380_0); (try rw [Addr.add_zero'] at hx380_0); replace p380 := eq_true p380; replace q380 := eq_true q380)))
             go_meet
             case rel => exact ⟨_, (((rd t367 0) != (t346.length : Int))), (by first | rfl | (simp; done) | (simp [*]; done)), H', ⟨by have := HJ12.out; first | omega | exact Nat.le_refl _⟩, ⟨by (with_reducible repeat (first | apply Kd.R_alloc | apply Kd.R_drewN | apply Kd.R_drew)); exact Kd.R_mono HO_5.out (fun _ hk => hk.1)⟩, ⟨by (with_reducible repeat (first | apply Kd.S_alloc | apply Kd.S_drewN | apply Kd.S_drew)); exact Kd.S_mono HO_6.out (fun _ hk => ⟨hk.1, hk.2.1⟩)⟩, ⟨by (with_reducible repeat (first | apply Kd.R_alloc | apply Kd.R_drewN | apply Kd.R_drew)); exact Kd.R_mono HO_12.out (fun _ hk => hk.1)⟩, ⟨by repeat (first | (with_reducible first | exact HB.out | apply below_alloc | apply pw_below_drewN | apply below_drew1) | exact HB.out)⟩⟩
            ·rw [if_neg c73] at H
             exact absurd H (by simp)
           ·rw [if_neg c72] at H
            have c72b0 : (t378 == t379) = false := beq_eq_false_iff_ne.mpr c72
            have c72b1 : (t378 != t379) = true := bne_iff_ne.mpr c72
            have H' := Aside0.mk H
            clear H
            obtain ⟨Ao77, co77, eo77⟩ := Kd.S_slice HO_6.out
            subst eo77
            obtain ⟨Ao78, co78, eo78⟩ := Kd.R_slice HO_12.out
            subst eo78
            go_wp2_with (first | (go_at_call 22; (with_reducible refine (laws_wSum.calls kj12 _ _ t359 t378 _ ?side1 ?side2 A70.out).mono ?_); (case side1 => repeat (first | exact (Kd.R_reads' HO_12.out).2.2 | (with_reducible refine Kd.C_alloc ?_ _) | (with_reducible refine Kd.C_drewN ?_ _) | (with_reducible refine Kd.C_drew ?_))); (case side2 => exact (Kd.R_reads' HO_12.out).2.1); rintro e w' ⟨rfl, ⟨nd, rfl⟩⟩; (try first | exact ⟨rfl, _, World.drewN_drewN _ _ _⟩ | exact ⟨rfl, _, Eq.trans (World.drewN_drewN _ _ _) (congrArg (World.drewN _) (Nat.add_assoc _ _ _))⟩); obtain ⟨Ao79, co79, eo79⟩ := Kd.R_slice HO_16.out; subst eo79) | (go_at_call 22; (with_reducible refine (laws_wSum.calls kj12 _ _ t367 t379 _ ?side1 ?side2 A71.out).mono ?_); (case side1 => repeat (first | exact (Kd.R_reads' HO_16.out).2.2 | (with_reducible refine Kd.C_alloc ?_ _) | (with_reducible refine Kd.C_drewN ?_ _) | (with_reducible refine Kd.C_drew ?_))); (case side2 => exact (Kd.R_reads' HO_16.out).2.1); rintro e w' ⟨rfl, ⟨nd, rfl⟩⟩; (try first | exact ⟨rfl, _, World.drewN_drewN _ _ _⟩ | exact ⟨rfl, _, Eq.trans (World.drewN_drewN _ _ _) (congrArg (World.drewN _) (Nat.add_assoc _ _ _))⟩)))
            repeat (go_quiet (first | (go_at_call 22; (with_reducible refine (laws_wSum.calls kj12 _ _ t359 t378 _ ?side1 ?side2 A70.out).mono ?_); (case side1 => repeat (first | exact (Kd.R_reads' HO_12.out).2.2 | (with_reducible refine Kd.C_alloc ?_ _) | (with_reducible refine Kd.C_drewN ?_ _) | (with_reducible refine Kd.C_drew ?_))); (case side2 => exact (Kd.R_reads' HO_12.out).2.1); rintro e w' ⟨rfl, ⟨nd, rfl⟩⟩; (try first | exact ⟨rfl, _, World.drewN_drewN _ _ _⟩ | exact ⟨rfl, _, Eq.trans (World.drewN_drewN _ _ _) (congrArg (World.drewN _) (Nat.add_assoc _ _ _))⟩); obtain ⟨Ao79, co79, eo79⟩ := Kd.R_slice HO_16.out; subst eo79) | (go_at_call 22; (with_reducible refine (laws_wSum.calls kj12 _ _ t367 t379 _ ?side1 ?side2 A71.out).mono ?_); (case side1 => repeat (first | exact (Kd.R_reads' HO_16.out).2.2 | (with_reducible refine Kd.C_alloc ?_ _) | (with_reducible refine Kd.C_drewN ?_ _) | (with_reducible refine Kd.C_drew ?_))); (case side2 => exact (Kd.R_reads' HO_16.out).2.1); rintro e w' ⟨rfl, ⟨nd, rfl⟩⟩; (try first | exact ⟨rfl, _, World.drewN_drewN _ _ _⟩ | exact ⟨rfl, _, Eq.trans (World.drewN_drewN _ _ _) (congrArg (World.drewN _) (Nat.add_assoc _ _ _))⟩))); try go_wp2_with (first | (go_at_call 22; (with_reducible refine (laws_wSum.calls kj12 _ _ t359 t378 _ ?side1 ?side2 A70.out).mono ?_); (case side1 => repeat (first | exact (Kd.R_reads' HO_12.out).2.2 | (with_reducible refine Kd.C_alloc ?_ _) | (with_reducible refine Kd.C_drewN ?_ _) | (with_reducible refine Kd.C_drew ?_))); (case side2 => exact (Kd.R_reads' HO_12.out).2.1); rintro e w' ⟨rfl, ⟨nd, rfl⟩⟩; (try first | exact ⟨rfl, _, World.drewN_drewN _ _ _⟩ | exact ⟨rfl, _, Eq.trans (World.drewN_drewN _ _ _) (congrArg (World.drewN _) (Nat.add_assoc _ _ _))⟩); obtain ⟨Ao79, co79, eo79⟩ := Kd.R_slice HO_16.out; subst eo79) | (go_at_call 22; (with_reducible refine (laws_wSum.calls kj12 _ _ t367 t379 _ ?side1 ?side2 A71.out).mono ?_); (case side1 => repeat (first | exact (Kd.R_reads' HO_16.out).2.2 | (with_reducible refine Kd.C_alloc ?_ _) | (with_reducible refine Kd.C_drewN ?_ _) | (with_reducible refine Kd.C_drew ?_))); (case side2 => exact (Kd.R_reads' HO_16.out).2.1); rintro e w' ⟨rfl, ⟨nd, rfl⟩⟩; (try first | exact ⟨rfl, _, World.drewN_drewN _ _ _⟩ | exact ⟨rfl, _, Eq.trans (World.drewN_drewN _ _ _) (congrArg (World.drewN _) (Nat.add_assoc _ _ _))⟩))))
            go_meet
            case rel => exact ⟨_, (true), (by first | rfl | (simp; done) | (simp [*]; done)), H', ⟨by have := HJ12.out; first | omega | exact Nat.le_refl _⟩, ⟨by (with_reducible repeat (first | apply Kd.R_alloc | apply Kd.R_drewN | apply Kd.R_drew)); exact Kd.R_mono HO_5.out (fun _ hk => hk.1)⟩, ⟨by (with_reducible repeat (first | apply Kd.S_alloc | apply Kd.S_drewN | apply Kd.S_drew)); exact Kd.S_mono HO_6.out (fun _ hk => ⟨hk.1, hk.2.1⟩)⟩, ⟨by (with_reducible repeat (first | apply Kd.R_alloc | apply Kd.R_drewN | apply Kd.R_drew)); exact Kd.R_mono HO_12.out (fun _ hk => hk.1)⟩, ⟨by repeat (first | (with_reducible first | exact HB.out | apply below_alloc | apply pw_below_drewN | apply below_drew1) | exact HB.out)⟩⟩
          ·rw [if_neg c69] at H
           have c69b0 : (t357 == (t349.length : Int)) = false := beq_eq_false_iff_ne.mpr c69
           have c69b1 : (t357 != (t349.length : Int)) = true := bne_iff_ne.mpr c69
           (first | rw [c69b0] | (simp only [i64_w, i32_w]; rw [c69b0]) | rw [c69b1] | skip)
           have H' := Aside0.mk H
           clear H
           obtain ⟨Ao80, co80, eo80⟩ := Kd.S_slice HO_6.out
           subst eo80
           go_wp2
           repeat (go_quiet (fail); try go_wp2)
           go_meet
           case rel => exact ⟨_, (true), (by first | rfl | (simp; done) | (simp [*]; done)), H', ⟨by have := HJ12.out; first | omega | exact Nat.le_refl _⟩, ⟨by (with_reducible repeat (first | apply Kd.R_alloc | apply Kd.R_drewN | apply Kd.R_drew)); exact Kd.R_mono HO_5.out (fun _ hk => hk.1)⟩, ⟨by (with_reducible repeat (first | apply Kd.S_alloc | apply Kd.S_drewN | apply Kd.S_drew)); exact Kd.S_mono HO_6.out (fun _ hk => ⟨hk.1, hk.2.1⟩)⟩, ⟨by (with_reducible repeat (first | apply Kd.R_alloc | apply Kd.R_drewN | apply Kd.R_drew)); exact Kd.R_mono HO_12.out (fun _ hk => hk.1)⟩, ⟨by repeat (first | (with_reducible first | exact HB.out | apply below_alloc | apply pw_below_drewN | apply below_drew1) | exact HB.out)⟩⟩
         case rest =>
          clear HC68
          try clear c1
          try clear c2
          try clear p2
          try clear c3
          try clear p3
          try clear q3
          try clear hx3
          try clear qi3
          try clear c4
          try clear c6
          try clear c7
          try clear c23
          try clear c23b0
          try clear c23b1
          try clear c23b2
          try clear c25
          try clear c26
          try clear c26b0
          try clear c26b1
          try clear c26b2
          try clear c29
          try clear c29b0
          try clear c29b1
          try clear c29b2
          try clear c33
          try clear c34
          try clear c34b0
          try clear c34b1
          try clear c34b2
          try clear p38
          try clear q38
          try clear hx38
          try clear qi38
          try clear c40
          try clear c41
          try clear c41b0
          try clear c41b1
          try clear c41b2
          try clear c66
          try clear c67
          try clear c69
          try clear c69b0
          try clear c69b1
          try clear c72
          try clear c72b0
          try clear c72b1
          try clear c73
          try clear c73b0
          try clear c73b1
          try clear hx380_0
          try clear p2
          try clear p380
          try clear q380
          obtain ⟨kq, x136_67, rfl, HA, HJ67, HO_5, HO_6, HO_12, HB⟩ := hcut
          cases kq with
          | zero => exact absurd HA.out (by simp [laws_FnTreesMeasured.j1])
          | succ kj67 =>
           have H := HA.out
           clear HA
           simp only [laws_FnTreesMeasured.j1] at H
           by_cases c81 : x136_67 = true
           ·subst c81
            have H1 : (some false) = some r := by rw [if_pos rfl] at H; exact H
            clear H
            have H := H1
            clear H1
            obtain rfl := Option.some.inj H
            go_wp2
            repeat (go_quiet (fail); try go_wp2)
            go_ret
            exact ⟨by first | rfl | (simp [errW_none, errW_some] <;> rfl) | (simp [*, errW_none, errW_some] <;> rfl), by repeat (first | (with_reducible first | exact HB.out | apply below_alloc | apply pw_below_drewN | apply below_drew1) | exact HB.out)⟩
           ·as_aux_lemma =>
             replace c81 := Bool.eq_false_iff.mpr c81
             subst c81
             have H1 : ((impl_BreadthOrder.f kj67 t346).bind fun bt381 => (if bt381.2 = true then (laws_FnTreesMeasured.l0 kj67 t346 t349 t359 bt381.1 2) else (some false))) = some r := by rw [if_neg (show ¬ (false = true) by decide)] at H; exact H
             clear H
             have H := H1
             clear H1
             replace H := Option.bind_eq_some_iff.mp H
             obtain ⟨⟨t381, t382⟩, A820, H⟩ := H
             replace H : (if t382 = true then (laws_FnTreesMeasured.l0 kj67 t346 t349 t359 t381 2) else (some false)) = some r := H
             have A82 := Aside0.mk A820
             clear A820
             by_cases c83 : t382 = true
             ·as_aux_lemma =>
               subst c83
               have H1 : (laws_FnTreesMeasured.l0 kj67 t346 t349 t359 t381 2) = some r := by rw [if_pos rfl] at H; exact H
               clear H
               have H := H1
               clear H1
               have H' := Aside0.mk H
               clear H
               go_wp2_with (first | (go_at_call 23; (with_reducible refine (impl_BreadthOrder.calls kj67 _ _ t346 t381 true _ ?side1 ?side2 A82.out).mono ?_); (case side1 => repeat (first | exact (Kd.R_reads' HO_5.out).2.2 | (with_reducible refine Kd.C_alloc ?_ _) | (with_reducible refine Kd.C_drewN ?_ _) | (with_reducible refine Kd.C_drew ?_))); (case side2 => exact (Kd.R_reads' HO_5.out).2.1); rintro e w84 ⟨v383, rfl, ho0, hb⟩; have n0_ := Aside0.mk (Kd.R_elder' (by (with_reducible repeat (first | apply Kd.R_alloc | apply Kd.R_drewN | apply Kd.R_drew)); exact HO_5.out) (Kd.R_base ho0) hb); have n1_ := Aside0.mk (Kd.S_elder' (by (with_reducible repeat (first | apply Kd.S_alloc | apply Kd.S_drewN | apply Kd.S_drew)); exact HO_6.out) (Kd.R_base ho0) hb); have n2_ := Aside0.mk (Kd.R_elder' (by (with_reducible repeat (first | apply Kd.R_alloc | apply Kd.R_drewN | apply Kd.R_drew)); exact HO_12.out) (Kd.R_base ho0) hb); have n3_ := Aside0.mk (Kd.R_lower (Kd.R_new' (Kd.R_new' ho0 (Kd.R_lt (by (with_reducible repeat (first | apply Kd.R_alloc | apply Kd.R_drewN | apply Kd.R_drew)); exact HO_5.out))) (Kd.R_lt (by (with_reducible repeat (first | apply Kd.R_alloc | apply Kd.R_drewN | apply Kd.R_drew)); exact HO_12.out))) (below_size (by repeat (first | (with_reducible first | exact HB.out | apply below_alloc | apply pw_below_drewN | apply below_drew1) | exact HB.out)))); have n4_ := Aside0.mk (below_step (by repeat (first | (with_reducible first | exact HB.out | apply below_alloc | apply pw_below_drewN | apply below_drew1) | exact HB.out)) hb); clear HO_5; clear HO_6; clear HO_12; clear HB; have HO_5 := n0_; have HO_6 := n1_; have HO_12 := n2_; have HO384 := n3_; have HB := n4_; clear n0_ n1_ n2_ n3_ n4_; (try clear hb); (try clear hb2); (try clear hk); (try clear hi); (try clear ho0)))
               repeat (go_quiet (first | (go_at_call 23; (with_reducible refine (impl_BreadthOrder.calls kj67 _ _ t346 t381 true _ ?side1 ?side2 A82.out).mono ?_); (case side1 => repeat (first | exact (Kd.R_reads' HO_5.out).2.2 | (with_reducible refine Kd.C_alloc ?_ _) | (with_reducible refine Kd.C_drewN ?_ _) | (with_reducible refine Kd.C_drew ?_))); (case side2 => exact (Kd.R_reads' HO_5.out).2.1); rintro e w84 ⟨v383, rfl, ho0, hb⟩; have n0_ := Aside0.mk (Kd.R_elder' (by (with_reducible repeat (first | apply Kd.R_alloc | apply Kd.R_drewN | apply Kd.R_drew)); exact HO_5.out) (Kd.R_base ho0) hb); have n1_ := Aside0.mk (Kd.S_elder' (by (with_reducible repeat (first | apply Kd.S_alloc | apply Kd.S_drewN | apply Kd.S_drew)); exact HO_6.out) (Kd.R_base ho0) hb); have n2_ := Aside0.mk (Kd.R_elder' (by (with_reducible repeat (first | apply Kd.R_alloc | apply Kd.R_drewN | apply Kd.R_drew)); exact HO_12.out) (Kd.R_base ho0) hb); have n3_ := Aside0.mk (Kd.R_lower (Kd.R_new' (Kd.R_new' ho0 (Kd.R_lt (by (with_reducible repeat (first | apply Kd.R_alloc | apply Kd.R_drewN | apply Kd.R_drew)); exact HO_5.out))) (Kd.R_lt (by (with_reducible repeat (first | apply Kd.R_alloc | apply Kd.R_drewN | apply Kd.R_drew)); exact HO_12.out))) (below_size (by repeat (first | (with_reducible first | exact HB.out | apply below_alloc | apply pw_below_drewN | apply below_drew1) | exact HB.out)))); have n4_ := Aside0.mk (below_step (by repeat (first | (with_reducible first | exact HB.out | apply below_alloc | apply pw_below_drewN | apply below_drew1) | exact HB.out)) hb); clear HO_5; clear HO_6; clear HO_12; clear HB; have HO_5 := n0_; have HO_6 := n1_; have HO_12 := n2_; have HO384 := n3_; have HB := n4_; clear n0_ n1_ n2_ n3_ n4_; (try clear hb); (try clear hb2); (try clear hk); (try clear hi); (try clear ho0))); try go_wp2_with (first | (go_at_call 23; (with_reducible refine (impl_BreadthOrder.calls kj67 _ _ t346 t381 true _ ?side1 ?side2 A82.out).mono ?_); (case side1 => repeat (first | exact (Kd.R_reads' HO_5.out).2.2 | (with_reducible refine Kd.C_alloc ?_ _) | (with_reducible refine Kd.C_drewN ?_ _) | (with_reducible refine Kd.C_drew ?_))); (case side2 => exact (Kd.R_reads' HO_5.out).2.1); rintro e w84 ⟨v383, rfl, ho0, hb⟩; have n0_ := Aside0.mk (Kd.R_elder' (by (with_reducible repeat (first | apply Kd.R_alloc | apply Kd.R_drewN | apply Kd.R_drew)); exact HO_5.out) (Kd.R_base ho0) hb); have n1_ := Aside0.mk (Kd.S_elder' (by (with_reducible repeat (first | apply Kd.S_alloc | apply Kd.S_drewN | apply Kd.S_drew)); exact HO_6.out) (Kd.R_base ho0) hb); have n2_ := Aside0.mk (Kd.R_elder' (by (with_reducible repeat (first | apply Kd.R_alloc | apply Kd.R_drewN | apply Kd.R_drew)); exact HO_12.out) (Kd.R_base ho0) hb); have n3_ := Aside0.mk (Kd.R_lower (Kd.R_new' (Kd.R_new' ho0 (Kd.R_lt (by (with_reducible repeat (first | apply Kd.R_alloc | apply Kd.R_drewN | apply Kd.R_drew)); exact HO_5.out))) (Kd.R_lt (by (with_reducible repeat (first | apply Kd.R_alloc | apply Kd.R_drewN | apply Kd.R_drew)); exact HO_12.out))) (below_size (by repeat (first | (with_reducible first | exact HB.out | apply below_alloc | apply pw_below_drewN | apply below_drew1) | exact HB.out)))); have n4_ := Aside0.mk (below_step (by repeat (first | (with_reducible first | exact HB.out | apply below_alloc | apply pw_below_drewN | apply below_drew1) | exact HB.out)) hb); clear HO_5; clear HO_6; clear HO_12; clear HB; have HO_5 := n0_; have HO_6 := n1_; have HO_12 := n2_; have HO384 := n3_; have HB := n4_; clear n0_ n1_ n2_ n3_ n4_; (try clear hb); (try clear hb2); (try clear hk); (try clear hi); (try clear ho0))))
               go_loopg [22] kj67 (fun kq v22 w' => ∃ (x22_3 : Int), v22 = .int .i64 x22_3 ∧ Aside0 (laws_FnTreesMeasured.l0 kq t346 t349 t359 t381 x22_3 = some r) ∧ Aside0 (kq ≤ kj67) ∧ Aside0 (Kd.R (Kd.int .i64) 3 w' w.heap.size (fun k_ => some k_ ≠ (v361 : Value).ownBlock ∧ some k_ ≠ (v383 : Value).ownBlock) (.slice Ao15 t346.length co15) t346) ∧ Aside0 (Kd.S (Kd.slice 3 (Kd.int .i64)) 22 w' w.heap.size (fun k_ => some k_ ≠ ((.slice Ao15 t346.length co15) : Value).ownBlock ∧ some k_ ≠ (v361 : Value).ownBlock ∧ some k_ ≠ (v383 : Value).ownBlock) v351 t349) ∧ Aside0 (Kd.R (Kd.int .i64) 3 w' w.heap.size (fun k_ => some k_ ≠ ((.slice Ao15 t346.length co15) : Value).ownBlock ∧ some k_ ≠ (v383 : Value).ownBlock) v361 t359) ∧ Aside0 (Kd.R (Kd.int .i64) 3 w' w.heap.size (fun k_ => some k_ ≠ ((.slice Ao15 t346.length co15) : Value).ownBlock ∧ some k_ ≠ (v361 : Value).ownBlock) v383 t381) ∧ Aside0 (Below w.heap.size w w'))
               case atStart => exact ⟨(2), (by first | rfl | (simp; done) | (simp [*]; done)), H', ⟨Nat.le_refl _⟩, ⟨by (with_reducible repeat (first | apply Kd.R_alloc | apply Kd.R_drewN | apply Kd.R_drew)); exact HO_5.out⟩, ⟨by (with_reducible repeat (first | apply Kd.S_alloc | apply Kd.S_drewN | apply Kd.S_drew)); exact Kd.S_mono HO_6.out (fun _ hk => ⟨hk.1.1, ⟨hk.1.2, hk.2⟩⟩)⟩, ⟨by (with_reducible repeat (first | apply Kd.R_alloc | apply Kd.R_drewN | apply Kd.R_drew)); exact HO_12.out⟩, ⟨by (with_reducible repeat (first | apply Kd.R_alloc | apply Kd.R_drewN | apply Kd.R_drew)); exact Kd.R_mono HO384.out (fun _ hk => ⟨hk.1.2, hk.2⟩)⟩, ⟨by repeat (first | (with_reducible first | exact HB.out | apply below_alloc | apply pw_below_drewN | apply below_drew1) | exact HB.out)⟩⟩
               case round =>
                clear H'
                try clear c1
                try clear c2
                try clear p2
                try clear c3
                try clear p3
                try clear q3
                try clear hx3
                try clear qi3
                try clear c4
                try clear c6
                try clear c7
                try clear c8
                try clear c23
                try clear c23b0
                try clear c23b1
                try clear c23b2
                try clear c25
                try clear c26
                try clear c26b0
                try clear c26b1
                try clear c26b2
                try clear c29
                try clear c29b0
                try clear c29b1
                try clear c29b2
                try clear c33
                try clear c34
                try clear c34b0
                try clear c34b1
                try clear c34b2
                try clear p38
                try clear q38
                try clear hx38
                try clear qi38
                try clear c40
                try clear c41
                try clear c41b0
                try clear c41b1
                try clear c41b2
                try clear c66
                try clear c67
                try clear c69
                try clear c69b0
                try clear c69b1
                try clear c72
                try clear c72b0
                try clear c72b1
                try clear c73
                try clear c73b0
                try clear c73b1
                try clear c81
                try clear c83
                try clear hx380_0
                try clear p2
                try clear p3
                try clear p38
                try clear p380
                try clear q3
                try clear q38
                try clear q380
                obtain ⟨x22_3, rfl, HA, HK3, HO_5, HO_6, HO_12, HO_20, HB⟩ := hrel
                cases gk with
                | zero => exact absurd HA.out (by simp [laws_FnTreesMeasured.l0])
                | succ k3 =>
                 have H := HA.out
                 clear HA
                 simp only [laws_FnTreesMeasured.l0] at H
                 by_cases c85 : x22_3 < (t381.length : Int)
                 ·as_aux_lemma =>
                   rw [if_pos c85] at H
                   have c85b0 : decide (x22_3 < (t381.length : Int)) = true := decide_eq_true c85
                   clear c85
                   by_cases c86 : 0 ≤ x22_3
                   ·as_aux_lemma =>
                     rw [if_pos c86] at H
                     have c86b0 : decide (0 ≤ x22_3) = true := decide_eq_true c86
                     clear c86
                     obtain ⟨ji87, hji87⟩ : ∃ j_ : Int, (wrap64 ((rd t381 x22_3) - 1)) = j_ := ⟨_, rfl⟩
                     replace H : (if 0 ≤ (ji87) then (if (ji87) < (t359.length : Int) then (if 0 ≤ (wrap64 (x22_3 - 1)) then (if (wrap64 (x22_3 - 1)) < (t381.length : Int) then (if 0 ≤ (wrap64 ((rd t381 (wrap64 (x22_3 - 1))) - 1)) then (if (wrap64 ((rd t381 (wrap64 (x22_3 - 1))) - 1)) < (t359.length : Int) then (if (rd t359 (ji87)) < (rd t359 (wrap64 ((rd t381 (wrap64 (x22_3 - 1))) - 1))) then (some false) else (laws_FnTreesMeasured.l0 k3 t346 t349 t359 t381 (wrap64 (x22_3 + 1)))) else (none)) else (none)) else (none)) else (none)) else (none)) else (none)) = some r := by first | (rw [hji87] at H; exact H) | (simp only [hji87] at H ⊢; exact H)
                     have hji87w : (IntKind.i64.wrap ((rd t381 x22_3) - 1)) = ji87 := (i64_w _).trans hji87
                     by_cases c88 : 0 ≤ (ji87)
                     ·as_aux_lemma =>
                       rw [if_pos c88] at H
                       have c88b0 : decide (0 ≤ (ji87)) = true := decide_eq_true c88
                       clear c88
                       by_cases c89 : (ji87) < (t359.length : Int)
                       ·as_aux_lemma =>
                         rw [if_pos c89] at H
                         have c89b0 : decide ((ji87) < (t359.length : Int)) = true := decide_eq_true c89
                         clear c89
                         obtain ⟨ji90, hji90⟩ : ∃ j_ : Int, (wrap64 (x22_3 - 1)) = j_ := ⟨_, rfl⟩
                         replace H : (if 0 ≤ (ji90) then (if (ji90) < (t381.length : Int) then (if 0 ≤ (wrap64 ((rd t381 (ji90)) - 1)) then (if (wrap64 ((rd t381 (ji90)) - 1)) < (t359.length : Int) then (if (rd t359 (ji87)) < (rd t359 (wrap64 ((rd t381 (ji90)) - 1))) then (some false) else (laws_FnTreesMeasured.l0 k3 t346 t349 t359 t381 (wrap64 (x22_3 + 1)))) else (none)) else (none)) else (none)) else (none)) = some r := by first | (rw [hji90] at H; exact H) | (simp only [hji90] at H ⊢; exact H)
                         have hji90w : (IntKind.i64.wrap (x22_3 - 1)) = ji90 := (i64_w _).trans hji90
                         by_cases c91 : 0 ≤ (ji90)
                         ·rw [if_pos c91] at H
                          have c91b0 : decide (0 ≤ (ji90)) = true := decide_eq_true c91
                          clear c91
                          by_cases c92 : (ji90) < (t381.length : Int)
                          ·rw [if_pos c92] at H
                           have c92b0 : decide ((ji90) < (t381.length : Int)) = true := decide_eq_true c92
                           clear c92
                           obtain ⟨ji93, hji93⟩ : ∃ j_ : Int, (wrap64 ((rd t381 (ji90)) - 1)) = j_ := ⟨_, rfl⟩
                           replace H : (if 0 ≤ (ji93) then (if (ji93) < (t359.length : Int) then (if (rd t359 (ji87)) < (rd t359 (ji93)) then (some false) else (laws_FnTreesMeasured.l0 k3 t346 t349 t359 t381 (wrap64 (x22_3 + 1)))) else (none)) else (none)) = some r := by first | (rw [hji93] at H; exact H) | (simp only [hji93] at H ⊢; exact H)
                           have hji93w : (IntKind.i64.wrap ((rd t381 (ji90)) - 1)) = ji93 := (i64_w _).trans hji93
                           by_cases c94 : 0 ≤ (ji93)
                           ·rw [if_pos c94] at H
                            have c94b0 : decide (0 ≤ (ji93)) = true := decide_eq_true c94
                            clear c94
                            by_cases c95 : (ji93) < (t359.length : Int)
                            ·rw [if_pos c95] at H
                             have c95b0 : decide ((ji93) < (t359.length : Int)) = true := decide_eq_true c95
                             clear c95
                             by_cases c96 : (rd t359 (ji87)) < (rd t359 (ji93))
                             ·rw [if_pos c96] at H
                              have c96b0 : decide ((rd t359 (ji87)) < (rd t359 (ji93))) = true := decide_eq_true c96
                              clear c96
                              obtain rfl := Option.some.inj H
                              obtain ⟨Ao97, co97, eo97⟩ := Kd.R_slice HO_20.out
                              subst eo97
                              have p385 : 0 ≤ (x22_3 : Int) := of_decide_eq_true (by first | (with_reducible assumption) | assumption)
                              have q385 : x22_3 < (t381.length : Int) := of_decide_eq_true (by first | (with_reducible assumption) | assumption)
                              obtain ⟨ad385, e385, hx385_0⟩ := Kd.at_int (Kd.R_reads' HO_20.out).2.2 x22_3 p385 q385
                              cases e385
                              replace p385 := eq_true p385
                              replace q385 := eq_true q385
                              obtain ⟨Ao98, co98, eo98⟩ := Kd.R_slice HO_12.out
                              subst eo98
                              have p386 : 0 ≤ ((ji87) : Int) := of_decide_eq_true (by first | (with_reducible assumption) | assumption)
                              have q386 : (ji87) < (t359.length : Int) := of_decide_eq_true (by first | (with_reducible assumption) | assumption)
                              obtain ⟨ad386, e386, hx386_0⟩ := Kd.at_int (Kd.R_reads' HO_12.out).2.2 (ji87) p386 q386
                              cases e386
                              replace p386 := eq_true p386
                              replace q386 := eq_true q386
                              have p387 : 0 ≤ ((ji90) : Int) := of_decide_eq_true (by first | (with_reducible assumption) | assumption)
                              have q387 : (ji90) < (t381.length : Int) := of_decide_eq_true (by first | (with_reducible assumption) | assumption)
                              obtain ⟨ad387, e387, hx387_0⟩ := Kd.at_int (Kd.R_reads' HO_20.out).2.2 (ji90) p387 q387
                              obtain rfl : ad385 = ad387 := (by injection e387)
                              replace p387 := eq_true p387
                              replace q387 := eq_true q387
                              have p388 : 0 ≤ ((ji93) : Int) := of_decide_eq_true (by first | (with_reducible assumption) | assumption)
                              have q388 : (ji93) < (t359.length : Int) := of_decide_eq_true (by first | (with_reducible assumption) | assumption)
                              obtain ⟨ad388, e388, hx388_0⟩ := Kd.at_int (Kd.R_reads' HO_12.out).2.2 (ji93) p388 q388
                              obtain rfl : ad386 = ad388 := (by injection e388)
                              replace p388 := eq_true p388
                              replace q388 := eq_true q388
                              go_wp2
                              repeat (go_quiet (fail); try go_wp2)
                              go_ret
                              exact ⟨by first | rfl | (simp [errW_none, errW_some] <;> rfl) | (simp only [← hji87, ← hji90, ← hji93]; first | rfl | (simp [errW_none, errW_some] <;> rfl)) | (simp [*, errW_none, errW_some] <;> rfl), by repeat (first | (with_reducible first | exact HB.out | apply below_alloc | apply pw_below_drewN | apply below_drew1) | exact HB.out)⟩
                             ·rw [if_neg c96] at H
                              have c96b0 : decide ((rd t359 (ji87)) < (rd t359 (ji93))) = false := decide_eq_false c96
                              clear c96
                              have H' := Aside0.mk H
                              clear H
                              obtain ⟨Ao99, co99, eo99⟩ := Kd.R_slice HO_20.out
                              subst eo99
                              have p385 : 0 ≤ (x22_3 : Int) := of_decide_eq_true (by first | (with_reducible assumption) | assumption)
                              have q385 : x22_3 < (t381.length : Int) := of_decide_eq_true (by first | (with_reducible assumption) | assumption)
                              obtain ⟨ad385, e385, hx385_0⟩ := Kd.at_int (Kd.R_reads' HO_20.out).2.2 x22_3 p385 q385
                              cases e385
                              replace p385 := eq_true p385
                              replace q385 := eq_true q385
                              obtain ⟨Ao100, co100, eo100⟩ := Kd.R_slice HO_12.out
                              subst eo100
                              have p386 : 0 ≤ ((ji87) : Int) := of_decide_eq_true (by first | (with_reducible assumption) | assumption)
                              have q386 : (ji87) < (t359.length : Int) := of_decide_eq_true (by first | (with_reducible assumption) | assumption)
                              obtain ⟨ad386, e386, hx386_0⟩ := Kd.at_int (Kd.R_reads' HO_12.out).2.2 (ji87) p386 q386
                              cases e386
                              replace p386 := eq_true p386
                              replace q386 := eq_true q386
                              have p387 : 0 ≤ ((ji90) : Int) := of_decide_eq_true (by first | (with_reducible assumption) | assumption)
                              have q387 : (ji90) < (t381.length : Int) := of_decide_eq_true (by first | (with_reducible assumption) | assumption)
                              obtain ⟨ad387, e387, hx387_0⟩ := Kd.at_int (Kd.R_reads' HO_20.out).2.2 (ji90) p387 q387
                              obtain rfl : ad385 = ad387 := (by injection e387)
                              replace p387 := eq_true p387
                              replace q387 := eq_true q387
                              have p388 : 0 ≤ ((ji93) : Int) := of_decide_eq_true (by first | (with_reducible assumption) | assumption)
                              have q388 : (ji93) < (t359.length : Int) := of_decide_eq_true (by first | (with_reducible assumption) | assumption)
                              obtain ⟨ad388, e388, hx388_0⟩ := Kd.at_int (Kd.R_reads' HO_12.out).2.2 (ji93) p388 q388
                              obtain rfl : ad386 = ad388 := (by injection e388)
                              replace p388 := eq_true p388
                              replace q388 := eq_true q388
                              go_wp2
                              repeat (go_quiet (fail); try go_wp2)
                              go_roundg k3
                              case measure => have := HJ12.out; have := HJ67.out; have := HK3.out; omega
                              case rel => exact ⟨(wrap64 (x22_3 + 1)), (by first | rfl | (simp; done) | (simp [*]; done)), H', ⟨by have := HJ12.out; have := HJ67.out; have := HK3.out; omega⟩, ⟨by (with_reducible repeat (first | apply Kd.R_alloc | apply Kd.R_drewN | apply Kd.R_drew)); exact HO_5.out⟩, ⟨by (with_reducible repeat (first | apply Kd.S_alloc | apply Kd.S_drewN | apply Kd.S_drew)); exact HO_6.out⟩, ⟨by (with_reducible repeat (first | apply Kd.R_alloc | apply Kd.R_drewN | apply Kd.R_drew)); exact HO_12.out⟩, ⟨by (with_reducible repeat (first | apply Kd.R_alloc | apply Kd.R_drewN | apply Kd.R_drew)); exact HO_20.out⟩, ⟨by repeat (first | (with_reducible first | exact HB.out | apply below_alloc | apply pw_below_drewN | apply below_drew1) | exact HB.out)⟩⟩
                            ·rw [if_neg c95] at H
                             exact absurd H (by simp)
                           ·rw [if_neg c94] at H
                            exact absurd H (by simp)
                          ·rw [if_neg c92] at H
                           exact absurd H (by simp)
                         ·rw [if_neg c91] at H
                          exact absurd H (by simp)
                       ·rw [if_neg c89] at H
                        exact absurd H (by simp)
                     ·rw [if_neg c88] at H
                      exact absurd H (by simp)
                   ·rw [if_neg c86] at H
                    exact absurd H (by simp)
                 ·as_aux_lemma =>
                   rw [if_neg c85] at H
                   have c85b0 : decide (x22_3 < (t381.length : Int)) = false := decide_eq_false c85
                   clear c85
                   have H' := Aside0.mk H
                   clear H
                   obtain ⟨Ao101, co101, eo101⟩ := Kd.R_slice HO_20.out
                   subst eo101
                   go_wp2
                   repeat (go_quiet (fail); try go_wp2)
                   go_loopg [170] k3 (fun kq v170 w' => ∃ (x170_4 : Int), v170 = .int .i64 x170_4 ∧ Aside0 (laws_FnTreesMeasured.l1 kq t346 t349 t359 t346 (t346.length : Int) x170_4 = some r) ∧ Aside0 (kq ≤ k3) ∧ Aside0 (Kd.R (Kd.int .i64) 3 w' w.heap.size (fun k_ => some k_ ≠ (v361 : Value).ownBlock) (.slice Ao15 t346.length co15) t346) ∧ Aside0 (Kd.S (Kd.slice 3 (Kd.int .i64)) 22 w' w.heap.size (fun k_ => some k_ ≠ ((.slice Ao15 t346.length co15) : Value).ownBlock ∧ some k_ ≠ (v361 : Value).ownBlock ∧ some k_ ≠ ((.slice Ao15 t346.length co15) : Value).ownBlock) v351 t349) ∧ Aside0 (Kd.R (Kd.int .i64) 3 w' w.heap.size (fun k_ => some k_ ≠ ((.slice Ao15 t346.length co15) : Value).ownBlock ∧ some k_ ≠ ((.slice Ao15 t346.length co15) : Value).ownBlock) v361 t359) ∧ Aside0 (Kd.R (Kd.int .i64) 3 w' w.heap.size (fun k_ => some k_ ≠ (v361 : Value).ownBlock) (.slice Ao15 t346.length co15) t346) ∧ Aside0 (Below w.heap.size w w'))
                   case atStart => exact ⟨(0), (by first | rfl | (simp; done) | (simp [*]; done)), H', ⟨Nat.le_refl _⟩, ⟨by (with_reducible repeat (first | apply Kd.R_alloc | apply Kd.R_drewN | apply Kd.R_drew)); exact Kd.R_mono HO_5.out (fun _ hk => hk.1)⟩, ⟨by (with_reducible repeat (first | apply Kd.S_alloc | apply Kd.S_drewN | apply Kd.S_drew)); exact Kd.S_mono HO_6.out (fun _ hk => ⟨hk.1, ⟨hk.2.1, hk.1⟩⟩)⟩, ⟨by (with_reducible repeat (first | apply Kd.R_alloc | apply Kd.R_drewN | apply Kd.R_drew)); exact Kd.R_mono HO_12.out (fun _ hk => ⟨hk.1, hk.1⟩)⟩, ⟨by (with_reducible repeat (first | apply Kd.R_alloc | apply Kd.R_drewN | apply Kd.R_drew)); exact Kd.R_mono HO_5.out (fun _ hk => hk.1)⟩, ⟨by repeat (first | (with_reducible first | exact HB.out | apply below_alloc | apply pw_below_drewN | apply below_drew1) | exact HB.out)⟩⟩
                   case round =>
                    clear H'
                    try clear c1
                    try clear c2
                    try clear p2
                    try clear c3
                    try clear p3
                    try clear q3
                    try clear hx3
                    try clear qi3
                    try clear c4
                    try clear c6
                    try clear p6
                    try clear c7
                    try clear c8
                    try clear c9
                    try clear c23
                    try clear c23b0
                    try clear c23b1
                    try clear c23b2
                    try clear c25
                    try clear c26
                    try clear c26b0
                    try clear c26b1
                    try clear c26b2
                    try clear c29
                    try clear c29b0
                    try clear c29b1
                    try clear c29b2
                    try clear c33
                    try clear c34
                    try clear c34b0
                    try clear c34b1
                    try clear c34b2
                    try clear p38
                    try clear q38
                    try clear hx38
                    try clear qi38
                    try clear c40
                    try clear c41
                    try clear c41b0
                    try clear c41b1
                    try clear c41b2
                    try clear p64
                    try clear c66
                    try clear c67
                    try clear c69
                    try clear c69b0
                    try clear c69b1
                    try clear c72
                    try clear c72b0
                    try clear c72b1
                    try clear c73
                    try clear c73b0
                    try clear c73b1
                    try clear c81
                    try clear c83
                    try clear c85
                    try clear c85b0
                    try clear c86
                    try clear c86b0
                    try clear c88
                    try clear c88b0
                    try clear c89
                    try clear c89b0
                    try clear c91
                    try clear c91b0
                    try clear c92
                    try clear c92b0
                    try clear c94
                    try clear c94b0
                    try clear c95
                    try clear c95b0
                    try clear c96
                    try clear c96b0
                    try clear hx380_0
                    try clear hx385_0
                    try clear hx386_0
                    try clear hx387_0
                    try clear hx388_0
                    try clear p2
                    try clear p3
                    try clear p38
                    try clear p380
                    try clear p385
                    try clear p386
                    try clear p387
                    try clear p388
                    try clear q3
                    try clear q38
                    try clear q380
                    try clear q385
                    try clear q386
                    try clear q387
                    try clear q388
                    obtain ⟨x170_4, rfl, HA, HK4, HO_5, HO_6, HO_12, HO_168, HB⟩ := hrel
                    cases gk with
                    | zero => exact absurd HA.out (by simp [laws_FnTreesMeasured.l1])
                    | succ k4 =>
                     have H := HA.out
                     clear HA
                     simp only [laws_FnTreesMeasured.l1] at H
                     by_cases c102 : x170_4 < (t346.length : Int)
                     ·as_aux_lemma =>
                       rw [if_pos c102] at H
                       have c102b0 : decide (x170_4 < (t346.length : Int)) = true := decide_eq_true c102
                       clear c102
                       by_cases c103 : 0 ≤ x170_4
                       ·as_aux_lemma =>
                         rw [if_pos c103] at H
                         have c103b0 : decide (0 ≤ x170_4) = true := decide_eq_true c103
                         clear c103
                         by_cases c104 : x170_4 < (t346.length : Int)
                         ·as_aux_lemma =>
                           rw [if_pos c104] at H
                           have c104b0 : decide (x170_4 < (t346.length : Int)) = true := decide_eq_true c104
                           clear c104
                           by_cases c105 : (rd t346 x170_4) = 0
                           ·as_aux_lemma =>
                             rw [if_pos c105] at H
                             have c105b0 : ((rd t346 x170_4) == 0) = true := beq_iff_eq.mpr c105
                             have c105b1 : ((rd t346 x170_4) != 0) = false := bne_eq_false_iff_eq.mpr c105
                             clear c105
                             by_cases c106 : x170_4 < (t359.length : Int)
                             ·as_aux_lemma =>
                               rw [if_pos c106] at H
                               have c106b0 : decide (x170_4 < (t359.length : Int)) = true := decide_eq_true c106
                               clear c106
                               by_cases c107 : (rd t359 x170_4) = 1
                               ·as_aux_lemma =>
                                 rw [if_pos c107] at H
                                 have c107b0 : ((rd t359 x170_4) == 1) = true := beq_iff_eq.mpr c107
                                 have c107b1 : ((rd t359 x170_4) != 1) = false := bne_eq_false_iff_eq.mpr c107
                                 clear c107
                                 by_cases c108 : (rd t346 x170_4) > 0
                                 ·rw [if_pos c108] at H
                                  have c108b0 : decide (0 < (rd t346 x170_4)) = true := decide_eq_true c108
                                  clear c108
                                  obtain ⟨ji109, hji109⟩ : ∃ j_ : Int, (wrap64 ((rd t346 x170_4) - 1)) = j_ := ⟨_, rfl⟩
                                  replace H : (if 0 ≤ (ji109) then (if (ji109) < (t359.length : Int) then (if (rd t359 x170_4) = (wrap64 ((rd t359 (ji109)) + 1)) then (laws_FnTreesMeasured.l1 k4 t346 t349 t359 t346 (t346.length : Int) (wrap64 (x170_4 + 1))) else (some false)) else (none)) else (none)) = some r := by first | (rw [hji109] at H; exact H) | (simp only [hji109] at H ⊢; exact H)
                                  have hji109w : (IntKind.i64.wrap ((rd t346 x170_4) - 1)) = ji109 := (i64_w _).trans hji109
                                  by_cases c110 : 0 ≤ (ji109)
                                  ·rw [if_pos c110] at H
                                   have c110b0 : decide (0 ≤ (ji109)) = true := decide_eq_true c110
                                   clear c110
                                   by_cases c111 : (ji109) < (t359.length : Int)
                                   ·rw [if_pos c111] at H
                                    have c111b0 : decide ((ji109) < (t359.length : Int)) = true := decide_eq_true c111
                                    clear c111
                                    by_cases c112 : (rd t359 x170_4) = (wrap64 ((rd t359 (ji109)) + 1))
                                    ·rw [if_pos c112] at H
                                     have c112b0 : ((rd t359 x170_4) == (wrap64 ((rd t359 (ji109)) + 1))) = true := beq_iff_eq.mpr c112
                                     have c112b1 : ((rd t359 x170_4) != (wrap64 ((rd t359 (ji109)) + 1))) = false := bne_eq_false_iff_eq.mpr c112
                                     clear c112
                                     have H' := Aside0.mk H
                                     clear H
                                     have p389 : 0 ≤ (x170_4 : Int) := of_decide_eq_true (by first | (with_reducible assumption) | assumption)
                                     have q389 : x170_4 < (t346.length : Int) := of_decide_eq_true (by first | (with_reducible assumption) | assumption)
                                     obtain ⟨ad389, e389, hx389_0⟩ := Kd.at_int (Kd.R_reads' HO_168.out).2.2 x170_4 p389 q389
                                     cases e389
                                     replace p389 := eq_true p389
                                     replace q389 := eq_true q389
                                     obtain ⟨Ao113, co113, eo113⟩ := Kd.R_slice HO_12.out
                                     subst eo113
                                     have p390 : 0 ≤ (x170_4 : Int) := of_decide_eq_true (by first | (with_reducible assumption) | assumption)
                                     have q390 : x170_4 < (t359.length : Int) := of_decide_eq_true (by first | (with_reducible assumption) | assumption)
                                     obtain ⟨ad390, e390, hx390_0⟩ := Kd.at_int (Kd.R_reads' HO_12.out).2.2 x170_4 p390 q390
                                     cases e390
                                     replace p390 := eq_true p390
                                     replace q390 := eq_true q390
                                     have p391 : 0 ≤ (x170_4 : Int) := of_decide_eq_true (by first | (with_reducible assumption) | assumption)
                                     have q391 : x170_4 < (t359.length : Int) := of_decide_eq_true (by first | (with_reducible assumption) | assumption)
                                     obtain ⟨ad391, e391, hx391_0⟩ := Kd.at_int (Kd.R_reads' HO_12.out).2.2 x170_4 p391 q391
                                     obtain rfl : ad390 = ad391 := (by injection e391)
                                     replace p391 := eq_true p391
                                     replace q391 := eq_true q391
                                     have p392 : 0 ≤ ((ji109) : Int) := of_decide_eq_true (by first | (with_reducible assumption) | assumption)
                                     have q392 : (ji109) < (t359.length : Int) := of_decide_eq_true (by first | (with_reducible assumption) | assumption)
                                     obtain ⟨ad392, e392, hx392_0⟩ := Kd.at_int (Kd.R_reads' HO_12.out).2.2 (ji109) p392 q392
                                     obtain rfl : ad390 = ad392 := (by injection e392)
                                     replace p392 := eq_true p392
                                     replace q392 := eq_true q392
                                     go_wp2
                                     repeat (go_quiet (fail); try go_wp2)
                                     go_roundg k4
                                     case measure => have := HJ12.out; have := HJ67.out; have := HK3.out; have := HK4.out; omega
                                     case rel => exact ⟨(wrap64 (x170_4 + 1)), (by first | rfl | (simp; done) | (simp [*]; done)), H', ⟨by have := HJ12.out; have := HJ67.out; have := HK3.out; have := HK4.out; omega⟩, ⟨by (with_reducible repeat (first | apply Kd.R_alloc | apply Kd.R_drewN | apply Kd.R_drew)); exact HO_5.out⟩, ⟨by (with_reducible repeat (first | apply Kd.S_alloc | apply Kd.S_drewN | apply Kd.S_drew)); exact HO_6.out⟩, ⟨by (with_reducible repeat (first | apply Kd.R_alloc | apply Kd.R_drewN | apply Kd.R_drew)); exact HO_12.out⟩, ⟨by (with_reducible repeat (first | apply Kd.R_alloc | apply Kd.R_drewN | apply Kd.R_drew)); exact HO_168.out⟩, ⟨by repeat (first | (with_reducible first | exact HB.out | apply below_alloc | apply pw_below_drewN | apply below_drew1) | exact HB.out)⟩⟩
                                    ·rw [if_neg c112] at H
                                     have c112b0 : ((rd t359 x170_4) == (wrap64 ((rd t359 (ji109)) + 1))) = false := beq_eq_false_iff_ne.mpr c112
                                     have c112b1 : ((rd t359 x170_4) != (wrap64 ((rd t359 (ji109)) + 1))) = true := bne_iff_ne.mpr c112
                                     obtain rfl := Option.some.inj H
                                     have p389 : 0 ≤ (x170_4 : Int) := of_decide_eq_true (by first | (with_reducible assumption) | assumption)
                                     have q389 : x170_4 < (t346.length : Int) := of_decide_eq_true (by first | (with_reducible assumption) | assumption)
                                     obtain ⟨ad389, e389, hx389_0⟩ := Kd.at_int (Kd.R_reads' HO_168.out).2.2 x170_4 p389 q389
                                     cases e389
                                     replace p389 := eq_true p389
                                     replace q389 := eq_true q389
                                     obtain ⟨Ao114, co114, eo114⟩ := Kd.R_slice HO_12.out
                                     subst eo114
                                     have p390 : 0 ≤ (x170_4 : Int) := of_decide_eq_true (by first | (with_reducible assumption) | assumption)
                                     have q390 : x170_4 < (t359.length : Int) := of_decide_eq_true (by first | (with_reducible assumption) | assumption)
                                     obtain ⟨ad390, e390, hx390_0⟩ := Kd.at_int (Kd.R_reads' HO_12.out).2.2 x170_4 p390 q390
                                     cases e390
                                     replace p390 := eq_true p390
                                     replace q390 := eq_true q390
                                     have p391 : 0 ≤ (x170_4 : Int) := of_decide_eq_true (by first | (with_reducible assumption) | assumption)
                                     have q391 : x170_4 < (t359.length : Int) := of_decide_eq_true (by first | (with_reducible assumption) | assumption)
                                     obtain ⟨ad391, e391, hx391_0⟩ := Kd.at_int (Kd.R_reads' HO_12.out).2.2 x170_4 p391 q391
                                     obtain rfl : ad390 = ad391 := (by injection e391)
                                     replace p391 := eq_true p391
                                     replace q391 := eq_true q391
                                     have p392 : 0 ≤ ((ji109) : Int) := of_decide_eq_true (by first | (with_reducible assumption) | assumption)
                                     have q392 : (ji109) < (t359.length : Int) := of_decide_eq_true (by first | (with_reducible assumption) | assumption)
                                     obtain ⟨ad392, e392, hx392_0⟩ := Kd.at_int (Kd.R_reads' HO_12.out).2.2 (ji109) p392 q392
                                     obtain rfl : ad390 = ad392 := (by injection e392)
                                     replace p392 := eq_true p392
                                     replace q392 := eq_true q392
                                     go_wp2
                                     repeat (go_quiet (fail); try go_wp2)
                                     go_ret
                                     exact ⟨by first | rfl | (simp [errW_none, errW_some] <;> rfl) | (simp only [← hji109]; first | rfl | (simp [errW_none, errW_some] <;> rfl)) | (simp [*, errW_none, errW_some] <;> rfl), by repeat (first | (with_reducible first | exact HB.out | apply below_alloc | apply pw_below_drewN | apply below_drew1) | exact HB.out)⟩
                                   ·rw [if_neg c111] at H
                                    exact absurd H (by simp)
                                  ·rw [if_neg c110] at H
                                   exact absurd H (by simp)
                                 ·rw [if_neg c108] at H
                                  have c108b0 : decide (0 < (rd t346 x170_4)) = false := decide_eq_false c108
                                  clear c108
                                  have H' := Aside0.mk H
                                  clear H
                                  have p389 : 0 ≤ (x170_4 : Int) := of_decide_eq_true (by first | (with_reducible assumption) | assumption)
                                  have q389 : x170_4 < (t346.length : Int) := of_decide_eq_true (by first | (with_reducible assumption) | assumption)
                                  obtain ⟨ad389, e389, hx389_0⟩ := Kd.at_int (Kd.R_reads' HO_168.out).2.2 x170_4 p389 q389
                                  cases e389
                                  replace p389 := eq_true p389
                                  replace q389 := eq_true q389
                                  obtain ⟨Ao115, co115, eo115⟩ := Kd.R_slice HO_12.out
                                  subst eo115
                                  have p390 : 0 ≤ (x170_4 : Int) := of_decide_eq_true (by first | (with_reducible assumption) | assumption)
                                  have q390 : x170_4 < (t359.length : Int) := of_decide_eq_true (by first | (with_reducible assumption) | assumption)
                                  obtain ⟨ad390, e390, hx390_0⟩ := Kd.at_int (Kd.R_reads' HO_12.out).2.2 x170_4 p390 q390
                                  cases e390
                                  replace p390 := eq_true p390
                                  replace q390 := eq_true q390
                                  go_wp2
                                  repeat (go_quiet (fail); try go_wp2)
                                  go_roundg k4
                                  case measure => have := HJ12.out; have := HJ67.out; have := HK3.out; have := HK4.out; omega
                                  case rel => exact ⟨(wrap64 (x170_4 + 1)), (by first | rfl | (simp; done) | (simp [*]; done)), H', ⟨by have := HJ12.out; have := HJ67.out; have := HK3.out; have := HK4.out; omega⟩, ⟨by (with_reducible repeat (first | apply Kd.R_alloc | apply Kd.R_drewN | apply Kd.R_drew)); exact HO_5.out⟩, ⟨by (with_reducible repeat (first | apply Kd.S_alloc | apply Kd.S_drewN | apply Kd.S_drew)); exact HO_6.out⟩, ⟨by (with_reducible repeat (first | apply Kd.R_alloc | apply Kd.R_drewN | apply Kd.R_drew)); exact HO_12.out⟩, ⟨by (with_reducible repeat (first | apply Kd.R_alloc | apply Kd.R_drewN | apply Kd.R_drew)); exact HO_168.out⟩, ⟨by repeat (first | (with_reducible first | exact HB.out | apply below_alloc | apply pw_below_drewN | apply below_drew1) | exact HB.out)⟩⟩
                               ·rw [if_neg c107] at H
                                have c107b0 : ((rd t359 x170_4) == 1) = false := beq_eq_false_iff_ne.mpr c107
                                have c107b1 : ((rd t359 x170_4) != 1) = true := bne_iff_ne.mpr c107
                                obtain rfl := Option.some.inj H
                                have p389 : 0 ≤ (x170_4 : Int) := of_decide_eq_true (by first | (with_reducible assumption) | assumption)
                                have q389 : x170_4 < (t346.length : Int) := of_decide_eq_true (by first | (with_reducible assumption) | assumption)
                                obtain ⟨ad389, e389, hx389_0⟩ := Kd.at_int (Kd.R_reads' HO_168.out).2.2 x170_4 p389 q389
                                cases e389
                                replace p389 := eq_true p389
                                replace q389 := eq_true q389
                                obtain ⟨Ao116, co116, eo116⟩ := Kd.R_slice HO_12.out
                                subst eo116
                                have p390 : 0 ≤ (x170_4 : Int) := of_decide_eq_true (by first | (with_reducible assumption) | assumption)
                                have q390 : x170_4 < (t359.length : Int) := of_decide_eq_true (by first | (with_reducible assumption) | assumption)
                                obtain ⟨ad390, e390, hx390_0⟩ := Kd.at_int (Kd.R_reads' HO_12.out).2.2 x170_4 p390 q390
                                cases e390
                                replace p390 := eq_true p390
                                replace q390 := eq_true q390
                                go_wp2
                                repeat (go_quiet (fail); try go_wp2)
                                go_ret
                                exact ⟨by first | rfl | (simp [errW_none, errW_some] <;> rfl) | (simp [*, errW_none, errW_some] <;> rfl), by repeat (first | (with_reducible first | exact HB.out | apply below_alloc | apply pw_below_drewN | apply below_drew1) | exact HB.out)⟩
                             ·rw [if_neg c106] at H
                              exact absurd H (by simp)
                           ·as_aux_lemma =>
                             rw [if_neg c105] at H
                             have c105b0 : ((rd t346 x170_4) == 0) = false := beq_eq_false_iff_ne.mpr c105
                             have c105b1 : ((rd t346 x170_4) != 0) = true := bne_iff_ne.mpr c105
                             by_cases c117 : (rd t346 x170_4) > 0
                             ·rw [if_pos c117] at H
                              have c117b0 : decide (0 < (rd t346 x170_4)) = true := decide_eq_true c117
                              clear c117
                              by_cases c118 : x170_4 < (t359.length : Int)
                              ·rw [if_pos c118] at H
                               have c118b0 : decide (x170_4 < (t359.length : Int)) = true := decide_eq_true c118
                               clear c118
                               obtain ⟨ji119, hji119⟩ : ∃ j_ : Int, (wrap64 ((rd t346 x170_4) - 1)) = j_ := ⟨_, rfl⟩
                               replace H : (if 0 ≤ (ji119) then (if (ji119) < (t359.length : Int) then (if (rd t359 x170_4) = (wrap64 ((rd t359 (ji119)) + 1)) then (laws_FnTreesMeasured.l1 k4 t346 t349 t359 t346 (t346.length : Int) (wrap64 (x170_4 + 1))) else (some false)) else (none)) else (none)) = some r := by first | (rw [hji119] at H; exact H) | (simp only [hji119] at H ⊢; exact H)
                               have hji119w : (IntKind.i64.wrap ((rd t346 x170_4) - 1)) = ji119 := (i64_w _).trans hji119
                               by_cases c120 : 0 ≤ (ji119)
                               ·rw [if_pos c120] at H
                                have c120b0 : decide (0 ≤ (ji119)) = true := decide_eq_true c120
                                clear c120
                                by_cases c121 : (ji119) < (t359.length : Int)
                                ·rw [if_pos c121] at H
                                 have c121b0 : decide ((ji119) < (t359.length : Int)) = true := decide_eq_true c121
                                 clear c121
                                 by_cases c122 : (rd t359 x170_4) = (wrap64 ((rd t359 (ji119)) + 1))
                                 ·rw [if_pos c122] at H
                                  have c122b0 : ((rd t359 x170_4) == (wrap64 ((rd t359 (ji119)) + 1))) = true := beq_iff_eq.mpr c122
                                  have c122b1 : ((rd t359 x170_4) != (wrap64 ((rd t359 (ji119)) + 1))) = false := bne_eq_false_iff_eq.mpr c122
                                  clear c122
                                  have H' := Aside0.mk H
                                  clear H
                                  have p389 : 0 ≤ (x170_4 : Int) := of_decide_eq_true (by first | (with_reducible assumption) | assumption)
                                  have q389 : x170_4 < (t346.length : Int) := of_decide_eq_true (by first | (with_reducible assumption) | assumption)
                                  obtain ⟨ad389, e389, hx389_0⟩ := Kd.at_int (Kd.R_reads' HO_168.out).2.2 x170_4 p389 q389
                                  cases e389
                                  replace p389 := eq_true p389
                                  replace q389 := eq_true q389
                                  obtain ⟨Ao123, co123, eo123⟩ := Kd.R_slice HO_12.out
                                  subst eo123
                                  have p393 : 0 ≤ (x170_4 : Int) := of_decide_eq_true (by first | (with_reducible assumption) | assumption)
                                  have q393 : x170_4 < (t359.length : Int) := of_decide_eq_true (by first | (with_reducible assumption) | assumption)
                                  obtain ⟨ad393, e393, hx393_0⟩ := Kd.at_int (Kd.R_reads' HO_12.out).2.2 x170_4 p393 q393
                                  cases e393
                                  replace p393 := eq_true p393
                                  replace q393 := eq_true q393
                                  have p394 : 0 ≤ ((ji119) : Int) := of_decide_eq_true (by first | (with_reducible assumption) | assumption)
                                  have q394 : (ji119) < (t359.length : Int) := of_decide_eq_true (by first | (with_reducible assumption) | assumption)
                                  obtain ⟨ad394, e394, hx394_0⟩ := Kd.at_int (Kd.R_reads' HO_12.out).2.2 (ji119) p394 q394
                                  obtain rfl : ad393 = ad394 := (by injection e394)
                                  replace p394 := eq_true p394
                                  replace q394 := eq_true q394
                                  go_wp2
                                  repeat (go_quiet (fail); try go_wp2)
                                  go_roundg k4
                                  case measure => have := HJ12.out; have := HJ67.out; have := HK3.out; have := HK4.out; omega
                                  case rel => exact ⟨(wrap64 (x170_4 + 1)), (by first | rfl | (simp; done) | (simp [*]; done)), H', ⟨by have := HJ12.out; have := HJ67.out; have := HK3.out; have := HK4.out; omega⟩, ⟨by (with_reducible repeat (first | apply Kd.R_alloc | apply Kd.R_drewN | apply Kd.R_drew)); exact HO_5.out⟩, ⟨by (with_reducible repeat (first | apply Kd.S_alloc | apply Kd.S_drewN | apply Kd.S_drew)); exact HO_6.out⟩, ⟨by (with_reducible repeat (first | apply Kd.R_alloc | apply Kd.R_drewN | apply Kd.R_drew)); exact HO_12.out⟩, ⟨by (with_reducible repeat (first | apply Kd.R_alloc | apply Kd.R_drewN | apply Kd.R_drew)); exact HO_168.out⟩, ⟨by repeat (first | (with_reducible first | exact HB.out | apply below_alloc | apply pw_below_drewN | apply below_drew1) | exact HB.out)⟩⟩
                                 ·rw [if_neg c122] at H
                                  have c122b0 : ((rd t359 x170_4) == (wrap64 ((rd t359 (ji119)) + 1))) = false := beq_eq_false_iff_ne.mpr c122
                                  have c122b1 : ((rd t359 x170_4) != (wrap64 ((rd t359 (ji119)) + 1))) = true := bne_iff_ne.mpr c122
                                  obtain rfl := Option.some.inj H
                                  have p389 : 0 ≤ (x170_4 : Int) := of_decide_eq_true (by first | (with_reducible assumption) | assumption)
                                  have q389 : x170_4 < (t346.length : Int) := of_decide_eq_true (by first | (with_reducible assumption) | assumption)
                                  obtain ⟨ad389, e389, hx389_0⟩ := Kd.at_int (Kd.R_reads' HO_168.out).2.2 x170_4 p389 q389
                                  cases e389
                                  replace p389 := eq_true p389
                                  replace q389 := eq_true q389
                                  obtain ⟨Ao124, co124, eo124⟩ := Kd.R_slice HO_12.out
                                  subst eo124
                                  have p393 : 0 ≤ (x170_4 : Int) := of_decide_eq_true (by first | (with_reducible assumption) | assumption)
                                  have q393 : x170_4 < (t359.length : Int) := of_decide_eq_true (by first | (with_reducible assumption) | assumption)
                                  obtain ⟨ad393, e393, hx393_0⟩ := Kd.at_int (Kd.R_reads' HO_12.out).2.2 x170_4 p393 q393
                                  cases e393
                                  replace p393 := eq_true p393
                                  replace q393 := eq_true q393
                                  have p394 : 0 ≤ ((ji119) : Int) := of_decide_eq_true (by first | (with_reducible assumption) | assumption)
                                  have q394 : (ji119) < (t359.length : Int) := of_decide_eq_true (by first | (with_reducible assumption) | assumption)
                                  obtain ⟨ad394, e394, hx394_0⟩ := Kd.at_int (Kd.R_reads' HO_12.out).2.2 (ji119) p394 q394
                                  obtain rfl : ad393 = ad394 := (by injection e394)
                                  replace p394 := eq_true p394
                                  replace q394 := eq_true q394
                                  go_wp2
                                  repeat (go_quiet (fail); try go_wp2)
                                  go_ret
                                  exact ⟨by first | rfl | (simp [errW_none, errW_some] <;> rfl) | (simp only [← hji119]; first | rfl | (simp [errW_none, errW_some] <;> rfl)) | (simp [*, errW_none, errW_some] <;> rfl), by repeat (first | (with_reducible first | exact HB.out | apply below_alloc | apply pw_below_drewN | apply below_drew1) | exact HB.out)⟩
                                ·rw [if_neg c121] at H
                                 exact absurd H (by simp)
                               ·rw [if_neg c120] at H
                                exact absurd H (by simp)
                              ·rw [if_neg c118] at H
                               exact absurd H (by simp)
                             ·rw [if_neg c117] at H
                              have c117b0 : decide (0 < (rd t346 x170_4)) = false := decide_eq_false c117
                              clear c117
                              have H' := Aside0.mk H
                              clear H
                              have p389 : 0 ≤ (x170_4 : Int) := of_decide_eq_true (by first | (with_reducible assumption) | assumption)
                              have q389 : x170_4 < (t346.length : Int) := of_decide_eq_true (by first | (with_reducible assumption) | assumption)
                              obtain ⟨ad389, e389, hx389_0⟩ := Kd.at_int (Kd.R_reads' HO_168.out).2.2 x170_4 p389 q389
                              cases e389
                              replace p389 := eq_true p389
                              replace q389 := eq_true q389
                              go_wp2
                              repeat (go_quiet (fail); try go_wp2)
                              go_roundg k4
                              case measure => have := HJ12.out; have := HJ67.out; have := HK3.out; have := HK4.out; omega
                              case rel => exact ⟨(wrap64 (x170_4 + 1)), (by first | rfl | (simp; done) | (simp [*]; done)), H', ⟨by have := HJ12.out; have := HJ67.out; have := HK3.out; have := HK4.out; omega⟩, ⟨by (with_reducible repeat (first | apply Kd.R_alloc | apply Kd.R_drewN | apply Kd.R_drew)); exact HO_5.out⟩, ⟨by (with_reducible repeat (first | apply Kd.S_alloc | apply Kd.S_drewN | apply Kd.S_drew)); exact HO_6.out⟩, ⟨by (with_reducible repeat (first | apply Kd.R_alloc | apply Kd.R_drewN | apply Kd.R_drew)); exact HO_12.out⟩, ⟨by (with_reducible repeat (first | apply Kd.R_alloc | apply Kd.R_drewN | apply Kd.R_drew)); exact HO_168.out⟩, ⟨by repeat (first | (with_reducible first | exact HB.out | apply below_alloc | apply pw_below_drewN | apply below_drew1) | exact HB.out)⟩⟩
                         ·rw [if_neg c104] at H
                          exact absurd H (by simp)
                       ·rw [if_neg c103] at H
                        exact absurd H (by simp)
                     ·as_aux_lemma =>
                       rw [if_neg c102] at H
                       have c102b0 : decide (x170_4 < (t346.length : Int)) = false := decide_eq_false c102
                       clear c102
                       have H' := Aside0.mk H
                       clear H
                       obtain ⟨Ao125, co125, eo125⟩ := Kd.S_slice HO_6.out
                       subst eo125
                       go_wp2
                       repeat (go_quiet (fail); try go_wp2)
                       go_loopg [204] k4 (fun kq v204 w' => ∃ (x204_5 : Int), v204 = .int .i64 x204_5 ∧ Aside0 (laws_FnTreesMeasured.l2 kq t346 t349 (t349.length : Int) x204_5 = some r) ∧ Aside0 (kq ≤ k4) ∧ Aside0 (Kd.R (Kd.int .i64) 3 w' w.heap.size (fun _ => True) (.slice Ao15 t346.length co15) t346) ∧ Aside0 (Kd.S (Kd.slice 3 (Kd.int .i64)) 22 w' w.heap.size (fun k_ => some k_ ≠ ((.slice Ao15 t346.length co15) : Value).ownBlock) (.slice Ao125 t349.length co125) t349) ∧ Aside0 (Below w.heap.size w w'))
                       case atStart => exact ⟨(0), (by first | rfl | (simp; done) | (simp [*]; done)), H', ⟨Nat.le_refl _⟩, ⟨by (with_reducible repeat (first | apply Kd.R_alloc | apply Kd.R_drewN | apply Kd.R_drew)); exact Kd.R_mono HO_5.out (fun _ hk => trivial)⟩, ⟨by (with_reducible repeat (first | apply Kd.S_alloc | apply Kd.S_drewN | apply Kd.S_drew)); exact Kd.S_mono HO_6.out (fun _ hk => hk.1)⟩, ⟨by repeat (first | (with_reducible first | exact HB.out | apply below_alloc | apply pw_below_drewN | apply below_drew1) | exact HB.out)⟩⟩
                       case round =>
                        clear H'
                        try clear c1
                        try clear c2
                        try clear p2
                        try clear c3
                        try clear p3
                        try clear q3
                        try clear hx3
                        try clear qi3
                        try clear c4
                        try clear c6
                        try clear p6
                        try clear c7
                        try clear c8
                        try clear c9
                        try clear c10
                        try clear c11
                        try clear c12
                        try clear c23
                        try clear c23b0
                        try clear c23b1
                        try clear c23b2
                        try clear c25
                        try clear c26
                        try clear c26b0
                        try clear c26b1
                        try clear c26b2
                        try clear c29
                        try clear c29b0
                        try clear c29b1
                        try clear c29b2
                        try clear c33
                        try clear c34
                        try clear c34b0
                        try clear c34b1
                        try clear c34b2
                        try clear p38
                        try clear q38
                        try clear hx38
                        try clear qi38
                        try clear p39
                        try clear q39
                        try clear hx39
                        try clear c40
                        try clear c41
                        try clear c41b0
                        try clear c41b1
                        try clear c41b2
                        try clear p64
                        try clear c66
                        try clear c67
                        try clear c69
                        try clear c69b0
                        try clear c69b1
                        try clear c72
                        try clear c72b0
                        try clear c72b1
                        try clear c73
                        try clear c73b0
                        try clear c73b1
                        try clear c81
                        try clear c83
                        try clear c85
                        try clear c85b0
                        try clear c86
                        try clear c86b0
                        try clear c88
                        try clear c88b0
                        try clear c89
                        try clear c89b0
                        try clear c91
                        try clear c91b0
                        try clear c92
                        try clear c92b0
                        try clear c94
                        try clear c94b0
                        try clear c95
                        try clear c95b0
                        try clear c96
                        try clear c96b0
                        try clear c102
                        try clear c102b0
                        try clear c103
                        try clear c103b0
                        try clear c104
                        try clear c104b0
                        try clear c105
                        try clear c105b0
                        try clear c105b1
                        try clear c106
                        try clear c106b0
                        try clear c107
                        try clear c107b0
                        try clear c107b1
                        try clear c108
                        try clear c108b0
                        try clear c110
                        try clear c110b0
                        try clear c111
                        try clear c111b0
                        try clear c112
                        try clear c112b0
                        try clear c112b1
                        try clear c117
                        try clear c117b0
                        try clear c118
                        try clear c118b0
                        try clear c120
                        try clear c120b0
                        try clear c121
                        try clear c121b0
                        try clear c122
                        try clear c122b0
                        try clear c122b1
                        try clear hx380_0
                        try clear hx385_0
                        try clear hx386_0
                        try clear hx387_0
                        try clear hx388_0
                        try clear hx389_0
                        try clear hx390_0
                        try clear hx391_0
                        try clear hx392_0
                        try clear hx393_0
                        try clear hx394_0
                        try clear p2
                        try clear p3
                        try clear p38
                        try clear p380
                        try clear p385
                        try clear p386
                        try clear p387
                        try clear p388
                        try clear p389
                        try clear p390
                        try clear p391
                        try clear p392
                        try clear p393
                        try clear p394
                        try clear p6
                        try clear p64
                        try clear q3
                        try clear q38
                        try clear q380
                        try clear q385
                        try clear q386
                        try clear q387
                        try clear q388
                        try clear q389
                        try clear q390
                        try clear q391
                        try clear q392
                        try clear q393
                        try clear q394
                        obtain ⟨x204_5, rfl, HA, HK5, HO_5, HO_202, HB⟩ := hrel
                        cases gk with
                        | zero => exact absurd HA.out (by simp [laws_FnTreesMeasured.l2])
                        | succ k5 =>
                         have H := HA.out
                         clear HA
                         simp only [laws_FnTreesMeasured.l2] at H
                         by_cases c126 : x204_5 < (t349.length : Int)
                         ·as_aux_lemma =>
                           rw [if_pos c126] at H
                           have c126b0 : decide (x204_5 < (t349.length : Int)) = true := decide_eq_true c126
                           clear c126
                           by_cases c127 : 0 ≤ x204_5
                           ·as_aux_lemma =>
                             rw [if_pos c127] at H
                             have c127b0 : decide (0 ≤ x204_5) = true := decide_eq_true c127
                             clear c127
                             by_cases c128 : x204_5 < (t349.length : Int)
                             ·as_aux_lemma =>
                               rw [if_pos c128] at H
                               have c128b0 : decide (x204_5 < (t349.length : Int)) = true := decide_eq_true c128
                               clear c128
                               by_cases c129 : 0 < ((rd_L2 t349 x204_5).length : Int)
                               ·as_aux_lemma =>
                                 rw [if_pos c129] at H
                                 have c129b0 : decide (0 < ((rd_L2 t349 x204_5).length : Int)) = true := decide_eq_true c129
                                 have c129b1 : decide (0 < (rd_L2 t349 x204_5).length) = true := decide_eq_true (by omega)
                                 clear c129
                                 by_cases c130 : 1 < ((rd_L2 t349 x204_5).length : Int)
                                 ·as_aux_lemma =>
                                   rw [if_pos c130] at H
                                   have c130b0 : decide (1 < ((rd_L2 t349 x204_5).length : Int)) = true := decide_eq_true c130
                                   have c130b1 : decide (1 < (rd_L2 t349 x204_5).length) = true := decide_eq_true (by omega)
                                   clear c130
                                   have H' := Aside0.mk H
                                   clear H
                                   have p395 : 0 ≤ (x204_5 : Int) := of_decide_eq_true (by first | (with_reducible assumption) | assumption)
                                   have q395 : x204_5 < (t349.length : Int) := of_decide_eq_true (by first | (with_reducible assumption) | assumption)
                                   obtain ⟨ad395, A395_0, c395_0, e395, hx395_0, hl395_0, hi395_0⟩ := at_L2 (Kd.S_reads' HO_202.out).2.2 x204_5 p395 q395
                                   cases e395
                                   obtain ⟨ce395, hce395, hMe395, hcc395⟩ := Kd.S_get HO_202.out [] x204_5 p395 (by first | exact q395 | exact of_decide_eq_true (by first | (with_reducible assumption) | assumption) | (have e_ := (Kd.S_reads' HO_202.out).1; omega))
                                   obtain ⟨ve395_0, rfl, ge395_0⟩ := hMe395
                                   have hv395_0 := hcc395 0 _ rfl
                                   rw [Nat.add_zero, show ((Kd.slice 3 (Kd.int .i64))).sz = 1 from rfl, Nat.mul_one] at hv395_0
                                   replace hv395_0 := Option.some.inj (hv395_0.symm.trans hx395_0)
                                   rw [hv395_0] at ge395_0
                                   have HL395_0 := Aside0.mk (show Kd.R (Kd.int .i64) 3 _ _ _ _ (rd_L2 t349 x204_5) from ge395_0)
                                   clear hv395_0 ge395_0
                                   clear hcc395 hce395
                                   have HR395_0 := Aside0.mk hi395_0
                                   have HC395_0 := Aside0.mk hl395_0
                                   clear hi395_0 hl395_0
                                   replace p395 := eq_true p395
                                   replace q395 := eq_true q395
                                   have p396 : 0 ≤ (0 : Int) := (by omega)
                                   have q396 : 0 < ((rd_L2 t349 x204_5).length : Int) := of_decide_eq_true (by first | (with_reducible assumption) | assumption)
                                   obtain ⟨ad396, e396, hx396_0⟩ := Kd.at_int (by repeat (first | (with_reducible exact HR395_0.out) | (with_reducible refine Kd.C_alloc ?_ _) | (with_reducible refine Kd.C_drewN ?_ _) | (with_reducible refine Kd.C_drew ?_) | exact HR395_0.out)) 0 p396 q396
                                   cases e396
                                   have qi396 : (0 < (rd_L2 t349 x204_5).length) = True := eq_true (by omega)
                                   (try rw [show ((0 : Int)).toNat = 0 from rfl] at hx396_0)
                                   (try rw [Addr.add_zero'] at hx396_0)
                                   replace p396 := eq_true p396
                                   replace q396 := eq_true q396
                                   have p397 : 0 ≤ (1 : Int) := (by omega)
                                   have q397 : 1 < ((rd_L2 t349 x204_5).length : Int) := of_decide_eq_true (by first | (with_reducible assumption) | assumption)
                                   obtain ⟨ad397, e397, hx397_0⟩ := Kd.at_int (by repeat (first | (with_reducible exact HR395_0.out) | (with_reducible refine Kd.C_alloc ?_ _) | (with_reducible refine Kd.C_drewN ?_ _) | (with_reducible refine Kd.C_drew ?_) | exact HR395_0.out)) 1 p397 q397
                                   obtain rfl : ad396 = ad397 := (by injection e397)
                                   (try simp only [show (1 : Int).toNat = 1 from rfl, Nat.reduceMul, Nat.reduceEqDiff, Go.Addr.add, ↓reduceIte] at hx397_0)
                                   have qi397 : (1 < (rd_L2 t349 x204_5).length) = True := eq_true (by omega)
                                   (try rw [show ((1 : Int)).toNat = 1 from rfl] at hx397_0)
                                   replace p397 := eq_true p397
                                   replace q397 := eq_true q397
                                   go_wp2
                                   repeat (go_quiet (fail); try go_wp2)
                                   go_loopg [29] k5 (fun kq v29 w' => ∃ (x29_6 : Int), v29 = .int .i64 x29_6 ∧ Aside0 (laws_FnTreesMeasured.l3 kq t346 (rd (rd_L2 t349 x204_5) 0) (rd (rd_L2 t349 x204_5) 1) x29_6 t349 (t349.length : Int) x204_5 = some r) ∧ Aside0 (kq ≤ k5) ∧ Aside0 (Kd.R (Kd.int .i64) 3 w' w.heap.size (fun _ => True) (.slice Ao15 t346.length co15) t346) ∧ Aside0 (Kd.S (Kd.slice 3 (Kd.int .i64)) 22 w' w.heap.size (fun k_ => some k_ ≠ ((.slice Ao15 t346.length co15) : Value).ownBlock) (.slice (some ad395) t349.length co125) t349) ∧ Aside0 (Kd.C (Kd.int .i64) w' (some ad396) (rd_L2 t349 x204_5).length (rd_L2 t349 x204_5)) ∧ Aside0 (Below w.heap.size w w'))
                                   case atStart => exact ⟨(rd (rd_L2 t349 x204_5) 0), (by first | rfl | (simp; done) | (simp [*]; done)), H', ⟨Nat.le_refl _⟩, ⟨by (with_reducible repeat (first | apply Kd.R_alloc | apply Kd.R_drewN | apply Kd.R_drew)); exact HO_5.out⟩, ⟨by (with_reducible repeat (first | apply Kd.S_alloc | apply Kd.S_drewN | apply Kd.S_drew)); exact HO_202.out⟩, ⟨by repeat (first | (with_reducible exact HR395_0.out) | (with_reducible refine Kd.C_alloc ?_ _) | (with_reducible refine Kd.C_drewN ?_ _) | (with_reducible refine Kd.C_drew ?_) | exact HR395_0.out)⟩, ⟨by repeat (first | (with_reducible first | exact HB.out | apply below_alloc | apply pw_below_drewN | apply below_drew1) | exact HB.out)⟩⟩
                                   case round =>
                                    clear H'
                                    try clear c1
                                    try clear c2
                                    try clear p2
                                    try clear c3
                                    try clear p3
                                    try clear q3
                                    try clear hx3
                                    try clear qi3
                                    try clear c4
                                    try clear c6
                                    try clear p6
                                    try clear c7
                                    try clear c8
                                    try clear c9
                                    try clear c10
                                    try clear c11
                                    try clear c12
                                    try clear c13
                                    try clear c23
                                    try clear c23b0
                                    try clear c23b1
                                    try clear c23b2
                                    try clear c25
                                    try clear c26
                                    try clear c26b0
                                    try clear c26b1
                                    try clear c26b2
                                    try clear c29
                                    try clear c29b0
                                    try clear c29b1
                                    try clear c29b2
                                    try clear c33
                                    try clear c34
                                    try clear c34b0
                                    try clear c34b1
                                    try clear c34b2
                                    try clear p38
                                    try clear q38
                                    try clear hx38
                                    try clear qi38
                                    try clear c39
                                    try clear p39
                                    try clear q39
                                    try clear hx39
                                    try clear qi39
                                    try clear c40
                                    try clear c41
                                    try clear c41b0
                                    try clear c41b1
                                    try clear c41b2
                                    try clear p64
                                    try clear c66
                                    try clear c67
                                    try clear c69
                                    try clear c69b0
                                    try clear c69b1
                                    try clear c72
                                    try clear c72b0
                                    try clear c72b1
                                    try clear c73
                                    try clear c73b0
                                    try clear c73b1
                                    try clear c81
                                    try clear c83
                                    try clear c85
                                    try clear c85b0
                                    try clear c86
                                    try clear c86b0
                                    try clear c88
                                    try clear c88b0
                                    try clear c89
                                    try clear c89b0
                                    try clear c91
                                    try clear c91b0
                                    try clear c92
                                    try clear c92b0
                                    try clear c94
                                    try clear c94b0
                                    try clear c95
                                    try clear c95b0
                                    try clear c96
                                    try clear c96b0
                                    try clear c102
                                    try clear c102b0
                                    try clear c103
                                    try clear c103b0
                                    try clear c104
                                    try clear c104b0
                                    try clear c105
                                    try clear c105b0
                                    try clear c105b1
                                    try clear c106
                                    try clear c106b0
                                    try clear c107
                                    try clear c107b0
                                    try clear c107b1
                                    try clear c108
                                    try clear c108b0
                                    try clear c110
                                    try clear c110b0
                                    try clear c111
                                    try clear c111b0
                                    try clear c112
                                    try clear c112b0
                                    try clear c112b1
                                    try clear c117
                                    try clear c117b0
                                    try clear c118
                                    try clear c118b0
                                    try clear c120
                                    try clear c120b0
                                    try clear c121
                                    try clear c121b0
                                    try clear c122
                                    try clear c122b0
                                    try clear c122b1
                                    try clear c126
                                    try clear c126b0
                                    try clear c127
                                    try clear c127b0
                                    try clear c128
                                    try clear c128b0
                                    try clear c129
                                    try clear c129b0
                                    try clear c129b1
                                    try clear c130
                                    try clear c130b0
                                    try clear c130b1
                                    try clear hx380_0
                                    try clear hx385_0
                                    try clear hx386_0
                                    try clear hx387_0
                                    try clear hx388_0
                                    try clear hx389_0
                                    try clear hx390_0
                                    try clear hx391_0
                                    try clear hx392_0
                                    try clear hx393_0
                                    try clear hx394_0
                                    try clear hx395_0
                                    try clear hx396_0
                                    try clear hx397_0
                                    try clear p2
                                    try clear p3
                                    try clear p38
                                    try clear p380
                                    try clear p385
                                    try clear p386
                                    try clear p387
                                    try clear p388
                                    try clear p389
                                    try clear p39
                                    try clear p390
                                    try clear p391
                                    try clear p392
                                    try clear p393
                                    try clear p394
                                    try clear p395
                                    try clear p396
                                    try clear p397
                                    try clear p6
                                    try clear p64
                                    try clear q3
                                    try clear q38
                                    try clear q380
                                    try clear q385
                                    try clear q386
                                    try clear q387
                                    try clear q388
                                    try clear q389
                                    try clear q39
                                    try clear q390
                                    try clear q391
                                    try clear q392
                                    try clear q393
                                    try clear q394
                                    try clear q395
                                    try clear q396
                                    try clear q397
                                    obtain ⟨x29_6, rfl, HA, HK6, HO_5, HO_202, HR395_0, HB⟩ := hrel
                                    cases gk with
                                    | zero => exact absurd HA.out (by simp [laws_FnTreesMeasured.l3])
                                    | succ k6 =>
                                     have H := HA.out
                                     clear HA
                                     simp only [laws_FnTreesMeasured.l3] at H
                                     by_cases c131 : x29_6 > 0
                                     ·rw [if_pos c131] at H
                                      have c131b0 : decide (0 < x29_6) = true := decide_eq_true c131
                                      clear c131
                                      by_cases c132 : x29_6 = (rd (rd_L2 t349 x204_5) 1)
                                      ·rw [if_pos c132] at H
                                       have c132b0 : (x29_6 == (rd (rd_L2 t349 x204_5) 1)) = true := beq_iff_eq.mpr c132
                                       have c132b1 : (x29_6 != (rd (rd_L2 t349 x204_5) 1)) = false := bne_eq_false_iff_eq.mpr c132
                                       clear c132
                                       by_cases c133 : (rd (rd_L2 t349 x204_5) 0) ≥ (rd (rd_L2 t349 x204_5) 1)
                                       ·rw [if_pos c133] at H
                                        have c133b0 : decide ((rd (rd_L2 t349 x204_5) 1) ≤ (rd (rd_L2 t349 x204_5) 0)) = true := decide_eq_true c133
                                        clear c133
                                        obtain rfl := Option.some.inj H
                                        go_wp2
                                        repeat (go_quiet (fail); try go_wp2)
                                        go_ret
                                        exact ⟨by first | rfl | (simp [errW_none, errW_some] <;> rfl) | (simp [*, errW_none, errW_some] <;> rfl), by repeat (first | (with_reducible first | exact HB.out | apply below_alloc | apply pw_below_drewN | apply below_drew1) | exact HB.out)⟩
                                       ·rw [if_neg c133] at H
                                        have c133b0 : decide ((rd (rd_L2 t349 x204_5) 1) ≤ (rd (rd_L2 t349 x204_5) 0)) = false := decide_eq_false c133
                                        clear c133
                                        have H' := Aside0.mk H
                                        clear H
                                        go_wp2
                                        repeat (go_quiet (fail); try go_wp2)
                                        go_roundg k6
                                        case measure => have := HJ12.out; have := HJ67.out; have := HK3.out; have := HK4.out; have := HK5.out; have := HK6.out; omega
                                        case rel => exact ⟨(wrap64 (x204_5 + 1)), (by first | rfl | (simp; done) | (simp [*]; done)), H', ⟨by have := HJ12.out; have := HJ67.out; have := HK3.out; have := HK4.out; have := HK5.out; have := HK6.out; omega⟩, ⟨by (with_reducible repeat (first | apply Kd.R_alloc | apply Kd.R_drewN | apply Kd.R_drew)); exact HO_5.out⟩, ⟨by (with_reducible repeat (first | apply Kd.S_alloc | apply Kd.S_drewN | apply Kd.S_drew)); exact HO_202.out⟩, ⟨by repeat (first | (with_reducible first | exact HB.out | apply below_alloc | apply pw_below_drewN | apply below_drew1) | exact HB.out)⟩⟩
                                      ·rw [if_neg c132] at H
                                       have c132b0 : (x29_6 == (rd (rd_L2 t349 x204_5) 1)) = false := beq_eq_false_iff_ne.mpr c132
                                       have c132b1 : (x29_6 != (rd (rd_L2 t349 x204_5) 1)) = true := bne_iff_ne.mpr c132
                                       obtain ⟨ji134, hji134⟩ : ∃ j_ : Int, (wrap64 (x29_6 - 1)) = j_ := ⟨_, rfl⟩
                                       replace H : (if 0 ≤ (ji134) then (if (ji134) < (t346.length : Int) then (laws_FnTreesMeasured.l3 k6 t346 (rd (rd_L2 t349 x204_5) 0) (rd (rd_L2 t349 x204_5) 1) (rd t346 (ji134)) t349 (t349.length : Int) x204_5) else (none)) else (none)) = some r := by first | (rw [hji134] at H; exact H) | (simp only [hji134] at H ⊢; exact H)
                                       have hji134w : (IntKind.i64.wrap (x29_6 - 1)) = ji134 := (i64_w _).trans hji134
                                       by_cases c135 : 0 ≤ (ji134)
                                       ·rw [if_pos c135] at H
                                        have c135b0 : decide (0 ≤ (ji134)) = true := decide_eq_true c135
                                        clear c135
                                        by_cases c136 : (ji134) < (t346.length : Int)
                                        ·rw [if_pos c136] at H
                                         have c136b0 : decide ((ji134) < (t346.length : Int)) = true := decide_eq_true c136
                                         clear c136
                                         have H' := Aside0.mk H
                                         clear H
                                         have p398 : 0 ≤ ((ji134) : Int) := of_decide_eq_true (by first | (with_reducible assumption) | assumption)
                                         have q398 : (ji134) < (t346.length : Int) := of_decide_eq_true (by first | (with_reducible assumption) | assumption)
                                         obtain ⟨ad398, e398, hx398_0⟩ := Kd.at_int (Kd.R_reads' HO_5.out).2.2 (ji134) p398 q398
                                         cases e398
                                         replace p398 := eq_true p398
                                         replace q398 := eq_true q398
                                         go_wp2
                                         repeat (go_quiet (fail); try go_wp2)
                                         go_roundg k6
                                         case measure => have := HJ12.out; have := HJ67.out; have := HK3.out; have := HK4.out; have := HK5.out; have := HK6.out; omega
                                         case rel => exact ⟨(rd t346 (ji134)), (by first | rfl | (simp; done) | (simp only [← hji134] <;> (first | rfl | simp)) | (simp [*]; done)), H', ⟨by have := HJ12.out; have := HJ67.out; have := HK3.out; have := HK4.out; have := HK5.out; have := HK6.out; omega⟩, ⟨by (with_reducible repeat (first | apply Kd.R_alloc | apply Kd.R_drewN | apply Kd.R_drew)); exact HO_5.out⟩, ⟨by (with_reducible repeat (first | apply Kd.S_alloc | apply Kd.S_drewN | apply Kd.S_drew)); exact HO_202.out⟩, ⟨by repeat (first | (with_reducible exact HR395_0.out) | (with_reducible refine Kd.C_alloc ?_ _) | (with_reducible refine Kd.C_drewN ?_ _) | (with_reducible refine Kd.C_drew ?_) | exact HR395_0.out)⟩, ⟨by repeat (first | (with_reducible first | exact HB.out | apply below_alloc | apply pw_below_drewN | apply below_drew1) | exact HB.out)⟩⟩
                                        ·rw [if_neg c136] at H
                                         exact absurd H (by simp)
                                       ·rw [if_neg c135] at H
                                        exact absurd H (by simp)
                                     ·rw [if_neg c131] at H
                                      have c131b0 : decide (0 < x29_6) = false := decide_eq_false c131
                                      clear c131
                                      by_cases c137 : (rd (rd_L2 t349 x204_5) 0) ≥ (rd (rd_L2 t349 x204_5) 1)
                                      ·rw [if_pos c137] at H
                                       have c137b0 : decide ((rd (rd_L2 t349 x204_5) 1) ≤ (rd (rd_L2 t349 x204_5) 0)) = true := decide_eq_true c137
                                       clear c137
                                       obtain rfl := Option.some.inj H
                                       go_wp2
                                       repeat (go_quiet (fail); try go_wp2)
                                       go_ret
                                       exact ⟨by first | rfl | (simp [errW_none, errW_some] <;> rfl) | (simp [*, errW_none, errW_some] <;> rfl), by repeat (first | (with_reducible first | exact HB.out | apply below_alloc | apply pw_below_drewN | apply below_drew1) | exact HB.out)⟩
                                      ·rw [if_neg c137] at H
                                       have c137b0 : decide ((rd (rd_L2 t349 x204_5) 1) ≤ (rd (rd_L2 t349 x204_5) 0)) = false := decide_eq_false c137
                                       clear c137
                                       by_cases c138 : x29_6 = (rd (rd_L2 t349 x204_5) 1)
                                       ·rw [if_pos c138] at H
                                        have c138b0 : (x29_6 == (rd (rd_L2 t349 x204_5) 1)) = true := beq_iff_eq.mpr c138
                                        have c138b1 : (x29_6 != (rd (rd_L2 t349 x204_5) 1)) = false := bne_eq_false_iff_eq.mpr c138
                                        clear c138
                                        have H' := Aside0.mk H
                                        clear H
                                        go_wp2
                                        repeat (go_quiet (fail); try go_wp2)
                                        go_roundg k6
                                        case measure => have := HJ12.out; have := HJ67.out; have := HK3.out; have := HK4.out; have := HK5.out; have := HK6.out; omega
                                        case rel => exact ⟨(wrap64 (x204_5 + 1)), (by first | rfl | (simp; done) | (simp [*]; done)), H', ⟨by have := HJ12.out; have := HJ67.out; have := HK3.out; have := HK4.out; have := HK5.out; have := HK6.out; omega⟩, ⟨by (with_reducible repeat (first | apply Kd.R_alloc | apply Kd.R_drewN | apply Kd.R_drew)); exact HO_5.out⟩, ⟨by (with_reducible repeat (first | apply Kd.S_alloc | apply Kd.S_drewN | apply Kd.S_drew)); exact HO_202.out⟩, ⟨by repeat (first | (with_reducible first | exact HB.out | apply below_alloc | apply pw_below_drewN | apply below_drew1) | exact HB.out)⟩⟩
                                       ·rw [if_neg c138] at H
                                        have c138b0 : (x29_6 == (rd (rd_L2 t349 x204_5) 1)) = false := beq_eq_false_iff_ne.mpr c138
                                        have c138b1 : (x29_6 != (rd (rd_L2 t349 x204_5) 1)) = true := bne_iff_ne.mpr c138
                                        obtain rfl := Option.some.inj H
                                        go_wp2
                                        repeat (go_quiet (fail); try go_wp2)
                                        go_ret
                                        exact ⟨by first | rfl | (simp [errW_none, errW_some] <;> rfl) | (simp [*, errW_none, errW_some] <;> rfl), by repeat (first | (with_reducible first | exact HB.out | apply below_alloc | apply pw_below_drewN | apply below_drew1) | exact HB.out)⟩
                                 ·rw [if_neg c130] at H
                                  exact absurd H (by simp)
                               ·rw [if_neg c129] at H
                                exact absurd H (by simp)
                             ·rw [if_neg c128] at H
                              exact absurd H (by simp)
                           ·rw [if_neg c127] at H
                            exact absurd H (by simp)
                         ·rw [if_neg c126] at H
                          have c126b0 : decide (x204_5 < (t349.length : Int)) = false := decide_eq_false c126
                          clear c126
                          obtain rfl := Option.some.inj H
                          go_wp2
                          repeat (go_quiet (fail); try go_wp2)
                          go_ret
                          exact ⟨by first | rfl | (simp [errW_none, errW_some] <;> rfl) | (simp [*, errW_none, errW_some] <;> rfl), by repeat (first | (with_reducible first | exact HB.out | apply below_alloc | apply pw_below_drewN | apply below_drew1) | exact HB.out)⟩
             ·replace c83 := Bool.eq_false_iff.mpr c83
              subst c83
              have H1 : (some false) = some r := by rw [if_neg (show ¬ (false = true) by decide)] at H; exact H
              clear H
              have H := H1
              clear H1
              obtain rfl := Option.some.inj H
              go_wp2_with (first | (go_at_call 23; (with_reducible refine (impl_BreadthOrder.calls kj67 _ _ t346 t381 false _ ?side1 ?side2 A82.out).mono ?_); (case side1 => repeat (first | exact (Kd.R_reads' HO_5.out).2.2 | (with_reducible refine Kd.C_alloc ?_ _) | (with_reducible refine Kd.C_drewN ?_ _) | (with_reducible refine Kd.C_drew ?_))); (case side2 => exact (Kd.R_reads' HO_5.out).2.1); rintro e w139 ⟨v383, rfl, ho0, hb⟩; have n0_ := Aside0.mk (Kd.R_elder' (by (with_reducible repeat (first | apply Kd.R_alloc | apply Kd.R_drewN | apply Kd.R_drew)); exact HO_5.out) (Kd.R_base ho0) hb); have n1_ := Aside0.mk (Kd.S_elder' (by (with_reducible repeat (first | apply Kd.S_alloc | apply Kd.S_drewN | apply Kd.S_drew)); exact HO_6.out) (Kd.R_base ho0) hb); have n2_ := Aside0.mk (Kd.R_elder' (by (with_reducible repeat (first | apply Kd.R_alloc | apply Kd.R_drewN | apply Kd.R_drew)); exact HO_12.out) (Kd.R_base ho0) hb); have n3_ := Aside0.mk (Kd.R_lower (Kd.R_new' (Kd.R_new' ho0 (Kd.R_lt (by (with_reducible repeat (first | apply Kd.R_alloc | apply Kd.R_drewN | apply Kd.R_drew)); exact HO_5.out))) (Kd.R_lt (by (with_reducible repeat (first | apply Kd.R_alloc | apply Kd.R_drewN | apply Kd.R_drew)); exact HO_12.out))) (below_size (by repeat (first | (with_reducible first | exact HB.out | apply below_alloc | apply pw_below_drewN | apply below_drew1) | exact HB.out)))); have n4_ := Aside0.mk (below_step (by repeat (first | (with_reducible first | exact HB.out | apply below_alloc | apply pw_below_drewN | apply below_drew1) | exact HB.out)) hb); clear HO_5; clear HO_6; clear HO_12; clear HB; have HO_5 := n0_; have HO_6 := n1_; have HO_12 := n2_; have HO384 := n3_; have HB := n4_; clear n0_ n1_ n2_ n3_ n4_; (try clear hb); (try clear hb2); (try clear hk); (try clear hi); (try clear ho0)))
              repeat (go_quiet (first | (go_at_call 23; (with_reducible refine (impl_BreadthOrder.calls kj67 _ _ t346 t381 false _ ?side1 ?side2 A82.out).mono ?_); (case side1 => repeat (first | exact (Kd.R_reads' HO_5.out).2.2 | (with_reducible refine Kd.C_alloc ?_ _) | (with_reducible refine Kd.C_drewN ?_ _) | (with_reducible refine Kd.C_drew ?_))); (case side2 => exact (Kd.R_reads' HO_5.out).2.1); rintro e w139 ⟨v383, rfl, ho0, hb⟩; have n0_ := Aside0.mk (Kd.R_elder' (by (with_reducible repeat (first | apply Kd.R_alloc | apply Kd.R_drewN | apply Kd.R_drew)); exact HO_5.out) (Kd.R_base ho0) hb); have n1_ := Aside0.mk (Kd.S_elder' (by (with_reducible repeat (first | apply Kd.S_alloc | apply Kd.S_drewN | apply Kd.S_drew)); exact HO_6.out) (Kd.R_base ho0) hb); have n2_ := Aside0.mk (Kd.R_elder' (by (with_reducible repeat (first | apply Kd.R_alloc | apply Kd.R_drewN | apply Kd.R_drew)); exact HO_12.out) (Kd.R_base ho0) hb); have n3_ := Aside0.mk (Kd.R_lower (Kd.R_new' (Kd.R_new' ho0 (Kd.R_lt (by (with_reducible repeat (first | apply Kd.R_alloc | apply Kd.R_drewN | apply Kd.R_drew)); exact HO_5.out))) (Kd.R_lt (by (with_reducible repeat (first | apply Kd.R_alloc | apply Kd.R_drewN | apply Kd.R_drew)); exact HO_12.out))) (below_size (by repeat (first | (with_reducible first | exact HB.out | apply below_alloc | apply pw_below_drewN | apply below_drew1) | exact HB.out)))); have n4_ := Aside0.mk (below_step (by repeat (first | (with_reducible first | exact HB.out | apply below_alloc | apply pw_below_drewN | apply below_drew1) | exact HB.out)) hb); clear HO_5; clear HO_6; clear HO_12; clear HB; have HO_5 := n0_; have HO_6 := n1_; have HO_12 := n2_; have HO384 := n3_; have HB := n4_; clear n0_ n1_ n2_ n3_ n4_; (try clear hb); (try clear hb2); (try clear hk); (try clear hi); (try clear ho0))); try go_wp2_with (first | (go_at_call 23; (with_reducible refine (impl_BreadthOrder.calls kj67 _ _ t346 t381 false _ ?side1 ?side2 A82.out).mono ?_); (case side1 => repeat (first | exact (Kd.R_reads' HO_5.out).2.2 | (with_reducible refine Kd.C_alloc ?_ _) | (with_reducible refine Kd.C_drewN ?_ _) | (with_reducible refine Kd.C_drew ?_))); (case side2 => exact (Kd.R_reads' HO_5.out).2.1); rintro e w139 ⟨v383, rfl, ho0, hb⟩; have n0_ := Aside0.mk (Kd.R_elder' (by (with_reducible repeat (first | apply Kd.R_alloc | apply Kd.R_drewN | apply Kd.R_drew)); exact HO_5.out) (Kd.R_base ho0) hb); have n1_ := Aside0.mk (Kd.S_elder' (by (with_reducible repeat (first | apply Kd.S_alloc | apply Kd.S_drewN | apply Kd.S_drew)); exact HO_6.out) (Kd.R_base ho0) hb); have n2_ := Aside0.mk (Kd.R_elder' (by (with_reducible repeat (first | apply Kd.R_alloc | apply Kd.R_drewN | apply Kd.R_drew)); exact HO_12.out) (Kd.R_base ho0) hb); have n3_ := Aside0.mk (Kd.R_lower (Kd.R_new' (Kd.R_new' ho0 (Kd.R_lt (by (with_reducible repeat (first | apply Kd.R_alloc | apply Kd.R_drewN | apply Kd.R_drew)); exact HO_5.out))) (Kd.R_lt (by (with_reducible repeat (first | apply Kd.R_alloc | apply Kd.R_drewN | apply Kd.R_drew)); exact HO_12.out))) (below_size (by repeat (first | (with_reducible first | exact HB.out | apply below_alloc | apply pw_below_drewN | apply below_drew1) | exact HB.out)))); have n4_ := Aside0.mk (below_step (by repeat (first | (with_reducible first | exact HB.out | apply below_alloc | apply pw_below_drewN | apply below_drew1) | exact HB.out)) hb); clear HO_5; clear HO_6; clear HO_12; clear HB; have HO_5 := n0_; have HO_6 := n1_; have HO_12 := n2_; have HO384 := n3_; have HB := n4_; clear n0_ n1_ n2_ n3_ n4_; (try clear hb); (try clear hb2); (try clear hk); (try clear hi); (try clear ho0))))
              go_ret
              exact ⟨by first | rfl | (simp [errW_none, errW_some] <;> rfl) | (simp [*, errW_none, errW_some] <;> rfl), by repeat (first | (with_reducible first | exact HB.out | apply below_alloc | apply pw_below_drewN | apply below_drew1) | exact HB.out)⟩
       ·replace c67 := Bool.eq_false_iff.mpr c67
        subst c67
        have H1 : (some true) = some r := by rw [if_neg (show ¬ (false = true) by decide)] at H; exact H
        clear H
        have H := H1
        clear H1
        obtain rfl := Option.some.inj H
        go_wp2
        repeat (go_quiet (fail); try go_wp2)
        go_ret
        exact ⟨by first | rfl | (simp [errW_none, errW_some] <;> rfl) | (simp [*, errW_none, errW_some] <;> rfl), by repeat (first | (with_reducible first | exact HB.out | apply below_alloc | apply pw_below_drewN | apply below_drew1) | exact HB.out)⟩

/-- THE ONE PURE STATEMENT of laws_FnTreesMeasured: yours. -/
def laws_FnTreesMeasured.Pure : Prop := ∀ (l0 : List Int) (l1 : List Int), l0.length ≤ maxLen → l0.length * 1 ≤ 140737488351232 → (∀ x ∈ l0, (Lit.int .u8 x).wf = true) → l1.length ≤ maxLen → l1.length * 1 ≤ 140737488351232 → (∀ x ∈ l1, (Lit.int .u8 x).wf = true) → ∃ k, laws_FnTreesMeasured.f k l0 l1 = some true
theorem laws_FnTreesMeasured.walk (P : laws_FnTreesMeasured.Pure) (a0 : Option Addr) (len0 cap0 : Nat) (z0 : List Int) (a1 : Option Addr) (len1 cap1 : Nat) (z1 : List Int) (w : World) (w0 : (a0 = none ∧ len0 = 0 ∧ cap0 = 0 ∧ z0 = []) ∨ ∃ x, a0 = some x ∧ len0 ≤ cap0 ∧ cap0 ≤ maxLen ∧ z0.length = cap0 ∧ (∀ i, i < z0.length → w.cell? (x.add i) = some (.int .u8 (z0.getD i 0))) ∧ ∀ n ∈ z0, (Lit.int .u8 n).wf = true) (y0 : len0 * 1 ≤ 140737488351232) (w1 : (a1 = none ∧ len1 = 0 ∧ cap1 = 0 ∧ z1 = []) ∨ ∃ x, a1 = some x ∧ len1 ≤ cap1 ∧ cap1 ≤ maxLen ∧ z1.length = cap1 ∧ (∀ i, i < z1.length → w.cell? (x.add i) = some (.int .u8 (z1.getD i 0))) ∧ ∀ n ∈ z1, (Lit.int .u8 n).wf = true) (y1 : len1 * 1 ≤ 140737488351232) :
  Calls Try.prog 4 #[.slice a0 len0 cap0, .slice a1 len1 cap1] w fun e w' => e = .returned (.bool true) ∧ Below w.heap.size w w' := by
 obtain ⟨l0, rfl, hr0, hm0, hw0, hc0⟩ := ReadsInt.ofRowC w0
 obtain ⟨l1, rfl, hr1, hm1, hw1, hc1⟩ := ReadsInt.ofRowC w1
 obtain ⟨k, h⟩ := P l0 l1 hm0 y0 hw0 hm1 y1 hw1
 refine (laws_FnTreesMeasured.calls k _ _ l0 _ _ l1 true w (Kd.C_of_reads (d := (0 : Int)) (h1 := fun _ => rfl) hr0) hc0 (Kd.C_of_reads (d := (0 : Int)) (h1 := fun _ => rfl) hr1) hc1 h).mono ?_
 rintro e w' ⟨rfl, hd⟩
 exact ⟨rfl, hd⟩

end Go.Proofs.Ytfgkcgedkhpigaa.PFnTreesMeasured
