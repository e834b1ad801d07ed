-- Written by a program of this session for this claim (its own turn of the print).
import Derived.Test.YtkbdjbmalpkkfaaPFnParkingIsWalksx0
import Derived.Test.YtkbdjbmalpkkfaaPFnParkingIsWalksx1
import Derived.Test.YtkbdjbmalpkkfaaPFnParkingIsWalksx2
import Derived.Test.YtkbdjbmalpkkfaaPFnParkingIsWalksx3
import Derived.Test.YtkbdjbmalpkkfaaPFnParkingIsWalksx5
import Derived.Test.YtkbdjbmalpkkfaaPFnParkingIsWalksx7
import Derived.Test.YtkbdjbmalpkkfaaPFnParkingIsWalksx9
import Derived.Test.YtkbdjbmalpkkfaaPFnParkingIsWalksx10
namespace Go.Proofs.Ytkbdjbmalpkkfaa.PFnParkingIsWalks
open Go.RowKit Go.Proofs.YtkbdjbmalpkkfaaW.PrintWords Go.Proofs.YtkbdjbmalpkkfaaW.PrintLast Go.Proofs.YtkbdjbmalpkkfaaW.PrintMore
attribute [local go_sem] max2_int min2_int max_two min_two max_three min_three max_four min_four   -- for this text's walks alone
set_option linter.unusedVariables false
set_option linter.unusedSimpArgs false

/-! ### laws_FnParkingIsWalks: function 5 -/
mutual
def laws_FnParkingIsWalks.j0 : Nat → List Int → List Int → Bool → Bool → List Int → List Int → Option (Bool)
 | 0, _, _, _, _, _, _ => none
 | k + 1, x1, x5, x9, x56, x455000, x455001 => if x56 = true then (some false) else ((spec_DrawParkingOfWalk.f k x1).bind fun bt465 => ((impl_ParkingOfWalk.f k bt465.1 bt465.2).bind fun bt472 => ((spec_ParkingOfWalk.f k bt465.1 bt465.2).bind fun bt476 => (if (bt472.2 != bt476.2) = true then (laws_FnParkingIsWalks.j1 k x5 x9 bt472.1 bt472.2 true x455000 x455001 bt465.1 bt465.2) else ((laws_wSame.f k bt472.1 bt476.1).bind fun t480 => (if t480 = true then ((impl_IsWalk.f k bt465.1 bt465.2).bind fun t481 => (laws_FnParkingIsWalks.j1 k x5 x9 bt472.1 bt472.2 (bt472.2 != t481) x455000 x455001 bt465.1 bt465.2)) else (laws_FnParkingIsWalks.j1 k x5 x9 bt472.1 bt472.2 true x455000 x455001 bt465.1 bt465.2)))))))
def laws_FnParkingIsWalks.j1 : Nat → List Int → Bool → List Int → Bool → Bool → List Int → List Int → List Int → List Int → Option (Bool)
 | 0, _, _, _, _, _, _, _, _, _ => none
 | k + 1, x5, x9, x11, x12, x83, x455000, x455001, x472000, x472001 => if x83 = true then (some false) else (if x12 = true then ((impl_WalkOfParking.f k x11).bind fun bt482 => (if bt482.2.2 = true then ((laws_wSameWalk.f k bt482.1 bt482.2.1 x472000 x472001).bind fun t490 => (if t490 = true then (laws_FnParkingIsWalks.j2 k x5 x9 x455000 x455001) else (some false))) else (some false))) else (laws_FnParkingIsWalks.j2 k x5 x9 x455000 x455001))
def laws_FnParkingIsWalks.j2 : Nat → List Int → Bool → List Int → List Int → Option (Bool)
 | 0, _, _, _, _ => none
 | k + 1, x5, x9, x455000, x455001 => if x9 = true then ((impl_ParkingOfWalk.f k x455000 x455001).bind fun bt491 => ((impl_AreaOf.f k x455000 x455001).bind fun bt495 => ((impl_TouchesOf.f k x455000 x455001).bind fun bt497 => ((impl_CutsOf.f k x5).bind fun bt501 => (if bt491.2 = true then (if bt495.2 = true then (if bt497.2 = true then (if bt501.2 = true then ((laws_wSame.f k bt491.1 x5).bind fun t505 => (if t505 = true then ((laws_wSame.f k bt497.1 bt501.1).bind fun t506 => (if t506 = true then ((impl_AreHeights.f k x455000).bind fun t507 => (laws_FnParkingIsWalks.j3 k x5 bt495.1 (!t507))) else (laws_FnParkingIsWalks.j3 k x5 bt495.1 true))) else (laws_FnParkingIsWalks.j3 k x5 bt495.1 true))) else (laws_FnParkingIsWalks.j3 k x5 bt495.1 true)) else (laws_FnParkingIsWalks.j3 k x5 bt495.1 true)) else (laws_FnParkingIsWalks.j3 k x5 bt495.1 true)) else (laws_FnParkingIsWalks.j3 k x5 bt495.1 true)))))) else (some true)
def laws_FnParkingIsWalks.j3 : Nat → List Int → Int → Bool → Option (Bool)
 | 0, _, _, _ => none
 | k + 1, x5, x19, x151 => if x151 = true then (some false) else (if (x5.length : Int) = 0 then (some (x19 == 0)) else ((impl_TotalDistance.f k x5 (x5.length : Int)).bind fun bt508 => (if bt508.2 = true then (if x19 = bt508.1 then ((laws_wSum.f k x5).bind fun t510 => (some (x19 == (wrap64 ((wrap64 (Int.tdiv (wrap64 ((x5.length : Int) * (wrap64 ((x5.length : Int) - 1)))) 2)) - t510))))) else (some false)) else (some false))))
end
def laws_FnParkingIsWalks.f (k : Nat) (l0 : List Int) (l1 : List Int) : Option (Bool) := (laws_big.f l0 l1).bind fun t443 => (if t443 = true then (some true) else ((spec_DrawWalkOfParking.f k l0).bind fun t444 => ((impl_WalkOfParking.f k t444).bind fun bt447 => ((spec_WalkOfParking.f k t444).bind fun bt455 => (if (bt447.2.2 != bt455.2.2) = true then (laws_FnParkingIsWalks.j0 k l1 t444 bt455.2.2 true bt447.1 bt447.2.1) else ((laws_wSameWalk.f k bt447.1 bt447.2.1 bt455.1 bt455.2.1).bind fun t463 => (if t463 = true then ((laws_wParking.f k t444).bind fun t464 => (laws_FnParkingIsWalks.j0 k l1 t444 bt455.2.2 (bt447.2.2 != t464) bt447.1 bt447.2.1)) else (laws_FnParkingIsWalks.j0 k l1 t444 bt455.2.2 true bt447.1 bt447.2.1))))))))
theorem laws_FnParkingIsWalks.mono_l : ∀ k, (∀ y0 y1 y2 y3 y4 y5, LeO (laws_FnParkingIsWalks.j0 k y0 y1 y2 y3 y4 y5) (laws_FnParkingIsWalks.j0 (k + 1) y0 y1 y2 y3 y4 y5)) ∧ (∀ y0 y1 y2 y3 y4 y5 y6 y7 y8, LeO (laws_FnParkingIsWalks.j1 k y0 y1 y2 y3 y4 y5 y6 y7 y8) (laws_FnParkingIsWalks.j1 (k + 1) y0 y1 y2 y3 y4 y5 y6 y7 y8)) ∧ (∀ y0 y1 y2 y3, LeO (laws_FnParkingIsWalks.j2 k y0 y1 y2 y3) (laws_FnParkingIsWalks.j2 (k + 1) y0 y1 y2 y3)) ∧ (∀ y0 y1 y2, LeO (laws_FnParkingIsWalks.j3 k y0 y1 y2) (laws_FnParkingIsWalks.j3 (k + 1) y0 y1 y2))
 | 0 => ⟨fun _ _ _ _ _ _ r h => by simp [laws_FnParkingIsWalks.j0] at h, fun _ _ _ _ _ _ _ _ _ r h => by simp [laws_FnParkingIsWalks.j1] at h, fun _ _ _ _ r h => by simp [laws_FnParkingIsWalks.j2] at h, fun _ _ _ r h => by simp [laws_FnParkingIsWalks.j3] at h⟩
 | k + 1 => by
  obtain ⟨ih0, ih1, ih2, ih3⟩ := laws_FnParkingIsWalks.mono_l k
  refine ⟨?_, ?_, ?_, ?_⟩
  ·intro y0 y1 y2 y3 y4 y5
   unfold laws_FnParkingIsWalks.j0
   repeat' first
   | (with_reducible exact ih0 _ _ _ _ _ _)
   | (with_reducible exact ih1 _ _ _ _ _ _ _ _ _)
   | (with_reducible exact ih2 _ _ _ _)
   | (with_reducible exact ih3 _ _ _)
   | (with_reducible exact impl_AreHeights.mono _ _)
   | (with_reducible exact impl_AreaOf.mono _ _ _)
   | (with_reducible exact impl_CutsOf.mono _ _)
   | (with_reducible exact impl_IsWalk.mono _ _ _)
   | (with_reducible exact impl_ParkingOfWalk.mono _ _ _)
   | (with_reducible exact impl_TotalDistance.mono _ _ _)
   | (with_reducible exact impl_TouchesOf.mono _ _ _)
   | (with_reducible exact impl_WalkOfParking.mono _ _)
   | (with_reducible exact laws_wParking.mono _ _)
   | (with_reducible exact laws_wSame.mono _ _ _)
   | (with_reducible exact laws_wSameWalk.mono _ _ _ _ _)
   | (with_reducible exact laws_wSum.mono _ _)
   | (with_reducible exact spec_DrawParkingOfWalk.mono _ _)
   | (with_reducible exact spec_DrawWalkOfParking.mono _ _)
   | (with_reducible exact spec_ParkingOfWalk.mono _ _ _)
   | (with_reducible exact spec_WalkOfParking.mono _ _)
   | (with_reducible exact LeO.refl _)
   | (with_reducible exact LeO.none _)
   | (with_reducible refine LeO.ite ?_ ?_)
   | (with_reducible refine LeO.bind ?_ (fun _ => ?_))
   | exact LeO.none _
   | refine LeO.ite ?_ ?_
   | refine LeO.bind ?_ (fun _ => ?_)
  ·intro y0 y1 y2 y3 y4 y5 y6 y7 y8
   unfold laws_FnParkingIsWalks.j1
   repeat' first
   | (with_reducible exact ih0 _ _ _ _ _ _)
   | (with_reducible exact ih1 _ _ _ _ _ _ _ _ _)
   | (with_reducible exact ih2 _ _ _ _)
   | (with_reducible exact ih3 _ _ _)
   | (with_reducible exact impl_AreHeights.mono _ _)
   | (with_reducible exact impl_AreaOf.mono _ _ _)
   | (with_reducible exact impl_CutsOf.mono _ _)
   | (with_reducible exact impl_IsWalk.mono _ _ _)
   | (with_reducible exact impl_ParkingOfWalk.mono _ _ _)
   | (with_reducible exact impl_TotalDistance.mono _ _ _)
   | (with_reducible exact impl_TouchesOf.mono _ _ _)
   | (with_reducible exact impl_WalkOfParking.mono _ _)
   | (with_reducible exact laws_wParking.mono _ _)
   | (with_reducible exact laws_wSame.mono _ _ _)
   | (with_reducible exact laws_wSameWalk.mono _ _ _ _ _)
   | (with_reducible exact laws_wSum.mono _ _)
   | (with_reducible exact spec_DrawParkingOfWalk.mono _ _)
   | (with_reducible exact spec_DrawWalkOfParking.mono _ _)
   | (with_reducible exact spec_ParkingOfWalk.mono _ _ _)
   | (with_reducible exact spec_WalkOfParking.mono _ _)
   | (with_reducible exact LeO.refl _)
   | (with_reducible exact LeO.none _)
   | (with_reducible refine LeO.ite ?_ ?_)
   | (with_reducible refine LeO.bind ?_ (fun _ => ?_))
   | exact LeO.none _
   | refine LeO.ite ?_ ?_
   | refine LeO.bind ?_ (fun _ => ?_)
  ·intro y0 y1 y2 y3
   unfold laws_FnParkingIsWalks.j2
   repeat' first
   | (with_reducible exact ih0 _ _ _ _ _ _)
   | (with_reducible exact ih1 _ _ _ _ _ _ _ _ _)
   | (with_reducible exact ih2 _ _ _ _)
   | (with_reducible exact ih3 _ _ _)
   | (with_reducible exact impl_AreHeights.mono _ _)
   | (with_reducible exact impl_AreaOf.mono _ _ _)
   | (with_reducible exact impl_CutsOf.mono _ _)
   | (with_reducible exact impl_IsWalk.mono _ _ _)
   | (with_reducible exact impl_ParkingOfWalk.mono _ _ _)
   | (with_reducible exact impl_TotalDistance.mono _ _ _)
   | (with_reducible exact impl_TouchesOf.mono _ _ _)
   | (with_reducible exact impl_WalkOfParking.mono _ _)
   | (with_reducible exact laws_wParking.mono _ _)
   | (with_reducible exact laws_wSame.mono _ _ _)
   | (with_reducible exact laws_wSameWalk.mono _ _ _ _ _)
   | (with_reducible exact laws_wSum.mono _ _)
   | (with_reducible exact spec_DrawParkingOfWalk.mono _ _)
   | (with_reducible exact spec_DrawWalkOfParking.mono _ _)
   | (with_reducible exact spec_ParkingOfWalk.mono _ _ _)
   | (with_reducible exact spec_WalkOfParking.mono _ _)
   | (with_reducible exact LeO.refl _)
   | (with_reducible exact LeO.none _)
   | (with_reducible refine LeO.ite ?_ ?_)
   | (with_reducible refine LeO.bind ?_ (fun _ => ?_))
   | exact LeO.none _
   | refine LeO.ite ?_ ?_
   | refine LeO.bind ?_ (fun _ => ?_)
  ·intro y0 y1 y2
   unfold laws_FnParkingIsWalks.j3
   repeat' first
   | (with_reducible exact ih0 _ _ _ _ _ _)
   | (with_reducible exact ih1 _ _ _ _ _ _ _ _ _)
   | (with_reducible exact ih2 _ _ _ _)
   | (with_reducible exact ih3 _ _ _)
   | (with_reducible exact impl_AreHeights.mono _ _)
   | (with_reducible exact impl_AreaOf.mono _ _ _)
   | (with_reducible exact impl_CutsOf.mono _ _)
   | (with_reducible exact impl_IsWalk.mono _ _ _)
   | (with_reducible exact impl_ParkingOfWalk.mono _ _ _)
   | (with_reducible exact impl_TotalDistance.mono _ _ _)
   | (with_reducible exact impl_TouchesOf.mono _ _ _)
   | (with_reducible exact impl_WalkOfParking.mono _ _)
   | (with_reducible exact laws_wParking.mono _ _)
   | (with_reducible exact laws_wSame.mono _ _ _)
   | (with_reducible exact laws_wSameWalk.mono _ _ _ _ _)
   | (with_reducible exact laws_wSum.mono _ _)
   | (with_reducible exact spec_DrawParkingOfWalk.mono _ _)
   | (with_reducible exact spec_DrawWalkOfParking.mono _ _)
   | (with_reducible exact spec_ParkingOfWalk.mono _ _ _)
   | (with_reducible exact spec_WalkOfParking.mono _ _)
   | (with_reducible exact LeO.refl _)
   | (with_reducible exact LeO.none _)
   | (with_reducible refine LeO.ite ?_ ?_)
   | (with_reducible refine LeO.bind ?_ (fun _ => ?_))
   | exact LeO.none _
   | refine LeO.ite ?_ ?_
   | refine LeO.bind ?_ (fun _ => ?_)
theorem laws_FnParkingIsWalks.mono : ∀ a0 a1 k, LeO (laws_FnParkingIsWalks.f k a0 a1) (laws_FnParkingIsWalks.f (k + 1) a0 a1) := by
 intro a0 a1 k
 obtain ⟨ih0, ih1, ih2, ih3⟩ := laws_FnParkingIsWalks.mono_l k
 unfold laws_FnParkingIsWalks.f
 repeat' first
   | (with_reducible exact ih0 _ _ _ _ _ _)
   | (with_reducible exact ih1 _ _ _ _ _ _ _ _ _)
   | (with_reducible exact ih2 _ _ _ _)
   | (with_reducible exact ih3 _ _ _)
   | (with_reducible exact impl_AreHeights.mono _ _)
   | (with_reducible exact impl_AreaOf.mono _ _ _)
   | (with_reducible exact impl_CutsOf.mono _ _)
   | (with_reducible exact impl_IsWalk.mono _ _ _)
   | (with_reducible exact impl_ParkingOfWalk.mono _ _ _)
   | (with_reducible exact impl_TotalDistance.mono _ _ _)
   | (with_reducible exact impl_TouchesOf.mono _ _ _)
   | (with_reducible exact impl_WalkOfParking.mono _ _)
   | (with_reducible exact laws_wParking.mono _ _)
   | (with_reducible exact laws_wSame.mono _ _ _)
   | (with_reducible exact laws_wSameWalk.mono _ _ _ _ _)
   | (with_reducible exact laws_wSum.mono _ _)
   | (with_reducible exact spec_DrawParkingOfWalk.mono _ _)
   | (with_reducible exact spec_DrawWalkOfParking.mono _ _)
   | (with_reducible exact spec_ParkingOfWalk.mono _ _ _)
   | (with_reducible exact spec_WalkOfParking.mono _ _)
   | (with_reducible exact LeO.refl _)
   | (with_reducible exact LeO.none _)
   | (with_reducible refine LeO.ite ?_ ?_)
   | (with_reducible refine LeO.bind ?_ (fun _ => ?_))
   | exact LeO.none _
   | refine LeO.ite ?_ ?_
   | refine LeO.bind ?_ (fun _ => ?_)
set_option maxHeartbeats 8000000 in
set_option maxRecDepth 100000 in
theorem laws_FnParkingIsWalks.calls (k : Nat) (A0 : Option Addr) (c0 : Nat) (l0 : List Int) (A1 : Option Addr) (c1 : Nat) (l1 : List Int) (r : Bool) (w : World) (hr0 : Kd.C (Kd.int .u8) w A0 l0.length l0) (hc0 : l0.length ≤ c0) (hr1 : Kd.C (Kd.int .u8) w A1 l1.length l1) (hc1 : l1.length ≤ c1) (h : laws_FnParkingIsWalks.f k l0 l1 = some r) :
  Calls Try.prog 5 #[.slice A0 l0.length c0, .slice A1 l1.length c1] w fun e w' => e = .returned (.bool r) ∧ Below w.heap.size w w' := by
 have hu26 := Try.underlying26
 have HR0 := Aside0.mk hr0
 have HC0 := Aside0.mk hc0
 clear hr0 hc0
 have HR1 := Aside0.mk hr1
 have HC1 := Aside0.mk hc1
 clear hr1 hc1
 have HB := Aside0.mk (Below.refl w.heap.size w)
 have H : ((laws_big.f l0 l1).bind fun t443 => (if t443 = true then (some true) else ((spec_DrawWalkOfParking.f k l0).bind fun t444 => ((impl_WalkOfParking.f k t444).bind fun bt447 => ((spec_WalkOfParking.f k t444).bind fun bt455 => (if (bt447.2.2 != bt455.2.2) = true then (laws_FnParkingIsWalks.j0 k l1 t444 bt455.2.2 true bt447.1 bt447.2.1) else ((laws_wSameWalk.f k bt447.1 bt447.2.1 bt455.1 bt455.2.1).bind fun t463 => (if t463 = true then ((laws_wParking.f k t444).bind fun t464 => (laws_FnParkingIsWalks.j0 k l1 t444 bt455.2.2 (bt447.2.2 != t464) bt447.1 bt447.2.1)) else (laws_FnParkingIsWalks.j0 k l1 t444 bt455.2.2 true bt447.1 bt447.2.1))))))))) = some r := h
 clear h
 replace H := Option.bind_eq_some_iff.mp H
 obtain ⟨t443, A30, H⟩ := H
 replace H : (if t443 = true then (some true) else ((spec_DrawWalkOfParking.f k l0).bind fun t444 => ((impl_WalkOfParking.f k t444).bind fun bt447 => ((spec_WalkOfParking.f k t444).bind fun bt455 => (if (bt447.2.2 != bt455.2.2) = true then (laws_FnParkingIsWalks.j0 k l1 t444 bt455.2.2 true bt447.1 bt447.2.1) else ((laws_wSameWalk.f k bt447.1 bt447.2.1 bt455.1 bt455.2.1).bind fun t463 => (if t463 = true then ((laws_wParking.f k t444).bind fun t464 => (laws_FnParkingIsWalks.j0 k l1 t444 bt455.2.2 (bt447.2.2 != t464) bt447.1 bt447.2.1)) else (laws_FnParkingIsWalks.j0 k l1 t444 bt455.2.2 true bt447.1 bt447.2.1)))))))) = some r := H
 have A3 := Aside0.mk A30
 clear A30
 by_cases c4 : t443 = true
 ·subst c4
  have H1 : (some true) = some r := by rw [if_pos rfl] at H; exact H
  clear H
  have H := H1
  clear H1
  obtain rfl := Option.some.inj H
  go_enter Try.func5, Try.ntmps5
  go_wp2_with (first | ((with_reducible refine gate_callee (f := 7) rfl ?_); refine goesL_ (some 29) rfl rfl Try.func7 (by kernel_rfl) rfl #[.slice A0 l0.length c0, .slice A1 l1.length c1] rfl (by (try simp only [List.map_toArray, List.map_cons, List.map_nil]); first | done | rfl | (simp only [List.length_drop, List.length_take]; rfl)) ?_; (with_reducible refine (laws_big.calls _ _ l0 _ _ l1 true _ ?side1 ?side2 ?side3 ?side4 A3.out).mono ?_); (case side1 => exact cbW HR0.out); (case side2 => exact HC0.out); (case side3 => exact cbW HR1.out); (case side4 => exact HC1.out); rintro e w' ⟨rfl, ⟨nd, rfl⟩⟩; refine ⟨_, rfl, ?_⟩))
  go_ret
  exact ⟨by first | rfl | (simp [errW_none, errW_some] <;> rfl) | (simp [*, errW_none, errW_some] <;> rfl), nbW HB.out⟩
 ·as_aux_lemma =>
   replace c4 := Bool.eq_false_iff.mpr c4
   subst c4
   have H1 : ((spec_DrawWalkOfParking.f k l0).bind fun t444 => ((impl_WalkOfParking.f k t444).bind fun bt447 => ((spec_WalkOfParking.f k t444).bind fun bt455 => (if (bt447.2.2 != bt455.2.2) = true then (laws_FnParkingIsWalks.j0 k l1 t444 bt455.2.2 true bt447.1 bt447.2.1) else ((laws_wSameWalk.f k bt447.1 bt447.2.1 bt455.1 bt455.2.1).bind fun t463 => (if t463 = true then ((laws_wParking.f k t444).bind fun t464 => (laws_FnParkingIsWalks.j0 k l1 t444 bt455.2.2 (bt447.2.2 != t464) bt447.1 bt447.2.1)) else (laws_FnParkingIsWalks.j0 k l1 t444 bt455.2.2 true bt447.1 bt447.2.1))))))) = some r := by rw [if_neg (show ¬ (false = true) by decide)] at H; exact H
   clear H
   have H := H1
   clear H1
   replace H := Option.bind_eq_some_iff.mp H
   obtain ⟨t444, A50, H⟩ := H
   replace H : ((impl_WalkOfParking.f k t444).bind fun bt447 => ((spec_WalkOfParking.f k t444).bind fun bt455 => (if (bt447.2.2 != bt455.2.2) = true then (laws_FnParkingIsWalks.j0 k l1 t444 bt455.2.2 true bt447.1 bt447.2.1) else ((laws_wSameWalk.f k bt447.1 bt447.2.1 bt455.1 bt455.2.1).bind fun t463 => (if t463 = true then ((laws_wParking.f k t444).bind fun t464 => (laws_FnParkingIsWalks.j0 k l1 t444 bt455.2.2 (bt447.2.2 != t464) bt447.1 bt447.2.1)) else (laws_FnParkingIsWalks.j0 k l1 t444 bt455.2.2 true bt447.1 bt447.2.1)))))) = some r := H
   have A5 := Aside0.mk A50
   clear A50
   replace H := Option.bind_eq_some_iff.mp H
   obtain ⟨⟨t447, t450, t453⟩, A60, H⟩ := H
   replace H : ((spec_WalkOfParking.f k t444).bind fun bt455 => (if (t453 != bt455.2.2) = true then (laws_FnParkingIsWalks.j0 k l1 t444 bt455.2.2 true t447 t450) else ((laws_wSameWalk.f k t447 t450 bt455.1 bt455.2.1).bind fun t463 => (if t463 = true then ((laws_wParking.f k t444).bind fun t464 => (laws_FnParkingIsWalks.j0 k l1 t444 bt455.2.2 (t453 != t464) t447 t450)) else (laws_FnParkingIsWalks.j0 k l1 t444 bt455.2.2 true t447 t450))))) = some r := H
   have A6 := Aside0.mk A60
   clear A60
   replace H := Option.bind_eq_some_iff.mp H
   obtain ⟨⟨t455, t458, t461⟩, A70, H⟩ := H
   replace H : (if (t453 != t461) = true then (laws_FnParkingIsWalks.j0 k l1 t444 t461 true t447 t450) else ((laws_wSameWalk.f k t447 t450 t455 t458).bind fun t463 => (if t463 = true then ((laws_wParking.f k t444).bind fun t464 => (laws_FnParkingIsWalks.j0 k l1 t444 t461 (t453 != t464) t447 t450)) else (laws_FnParkingIsWalks.j0 k l1 t444 t461 true t447 t450)))) = some r := H
   have A7 := Aside0.mk A70
   clear A70
   have HC8 := Aside0.mk H
   clear H
   go_enter Try.func5, Try.ntmps5
   go_upto_region 6 with (first | ((with_reducible refine gate_callee (f := 7) rfl ?_); refine goesL_ (some 29) rfl rfl Try.func7 (by kernel_rfl) rfl #[.slice A0 l0.length c0, .slice A1 l1.length c1] rfl (by (try simp only [List.map_toArray, List.map_cons, List.map_nil]); first | done | rfl | (simp only [List.length_drop, List.length_take]; rfl)) ?_; (with_reducible refine (laws_big.calls _ _ l0 _ _ l1 false _ ?side1 ?side2 ?side3 ?side4 A3.out).mono ?_); (case side1 => exact cbW HR0.out); (case side2 => exact HC0.out); (case side3 => exact cbW HR1.out); (case side4 => exact HC1.out); rintro e w' ⟨rfl, ⟨nd, rfl⟩⟩; refine ⟨_, rfl, ?_⟩) | ((with_reducible refine gate_callee (f := 31) rfl ?_); refine goesL_ (some 31) rfl rfl Try.func31 (by kernel_rfl) rfl #[.slice A0 l0.length c0] rfl (by (try simp only [List.map_toArray, List.map_cons, List.map_nil]); first | done | rfl | (simp only [List.length_drop, List.length_take]; rfl)) ?_; (with_reducible refine (spec_DrawWalkOfParking.calls k _ _ l0 t444 _ ?side1 ?side2 A5.out).mono ?_); (case side1 => exact cbW HR0.out); (case side2 => exact HC0.out); rintro e w9 ⟨v445, rfl, ho0, hb⟩; refine ⟨_, rfl, ?_⟩; have n0_ := Aside0.mk (Kd.R_lower ho0 (below_size (nbW HB.out))); have n1_ := Aside0.mk (below_step (nbW HB.out) hb); clear HB; have HO446 := n0_; have HB := n1_; clear n0_ n1_; (try clear hb); (try clear hb2); (try clear hk); (try clear hi); (try clear ho0); obtain ⟨Ao10, co10, eo10⟩ := Kd.R_slice HO446.out; subst eo10) | ((with_reducible refine gate_callee (f := 32) rfl ?_); refine goesL_ (some 34) rfl rfl Try.func32 (by kernel_rfl) rfl #[.slice Ao10 t444.length co10] rfl (by (try simp only [List.map_toArray, List.map_cons, List.map_nil]); first | done | rfl | (simp only [List.length_drop, List.length_take]; rfl)) ?_; (with_reducible refine (impl_WalkOfParking.calls k _ _ t444 t447 t450 t453 _ ?side1 ?side2 A6.out).mono ?_); (case side1 => exact cbW (Kd.R_reads' HO446.out).2.2); (case side2 => exact (Kd.R_reads' HO446.out).2.1); rintro e w11 ⟨v448, v451, rfl, ho0, ho1, hb⟩; refine ⟨_, rfl, ?_⟩; have n0_ := Aside0.mk (Kd.R_mono (Kd.R_told (Kd.R_told (Kd.R_old (rbW HO446.out) hb) (Kd.R_base ho0)) (Kd.R_base ho1)) (fun _ h_ => h_.1)); have n1_ := Aside0.mk (Kd.R_lower (Kd.R_new' ho0 (Kd.R_lt (rbW HO446.out))) (below_size (nbW HB.out))); have n2_ := Aside0.mk (Kd.R_lower (Kd.R_new' ho1 (Kd.R_lt (rbW HO446.out))) (below_size (nbW HB.out))); have n3_ := Aside0.mk (below_step (nbW HB.out) hb); clear HO446; clear HB; have HO446 := n0_; have HO449 := n1_; have HO452 := n2_; have HB := n3_; clear n0_ n1_ n2_ n3_; (try clear hb); (try clear hb2); (try clear hk); (try clear hi); (try clear ho0); (try clear ho1)) | ((with_reducible refine gate_dst (N := 6) rfl ?_); (try (refine gate_guard (by rfl) ?_; dsimp only)); refine box_event ?hg (N := 6) ?hd (cs := #[.slice none 0 0, .slice none 0 0]) (t := 26) ?hr ?_; (case hd => rfl); (case hg => rfl); (case hr => first | (go_simp; done) | (go_simp; rfl)); intro gb454 hg w12 hbox hb; have n0_ := Aside0.mk (Kd.R_below (rbW HO446.out) hb); have n1_ := Aside0.mk (Kd.R_below (rbW HO449.out) hb); have n2_ := Aside0.mk (Kd.R_below (rbW HO452.out) hb); have n3_ := Aside0.mk (below_step (nbW HB.out) hb); have n4_ := Aside0.mk (hbox); have n5_ := Aside0.mk ((by rw [hg]; exact (below_size (nbW HB.out)) : w.heap.size ≤ gb454)); have n6_ := Aside0.mk ((by rw [hg]; exact (below_size (nbW HB.out)) : w.heap.size ≤ gb454)); clear HO446; clear HO449; clear HO452; clear HB; have HO446 := n0_; have HO449 := n1_; have HO452 := n2_; have HB := n3_; have BK454 := n4_; have GW454 := n5_; have GE454 := n6_; clear n0_ n1_ n2_ n3_ n4_ n5_ n6_; clear hb hbox hg; obtain ⟨Ao13, co13, eo13⟩ := Kd.R_slice HO449.out; subst eo13; have hcz14_0 : w12.cell? ⟨gb454, 0, none⟩ = some (.slice none 0 0) := (blk_cell BK454.out 0).trans rfl; have hcz14_1 : w12.cell? ⟨gb454, 1, none⟩ = some (.slice none 0 0) := (blk_cell BK454.out 1).trans rfl; have hfz14_0 := blk_frozen BK454.out 0; have hfz14_1 := blk_frozen BK454.out 1; obtain ⟨Ao15, co15, eo15⟩ := Kd.R_slice HO452.out; subst eo15) | ((with_reducible refine gate_callee (f := 33) rfl ?_); refine goesL_ (some 39) rfl rfl Try.func33 (by kernel_rfl) rfl #[.slice Ao10 t444.length co10] rfl (by (try simp only [List.map_toArray, List.map_cons, List.map_nil]); first | done | rfl | (simp only [List.length_drop, List.length_take]; rfl)) ?_; (with_reducible refine (spec_WalkOfParking.calls k _ _ t444 t455 t458 t461 _ ?side1 ?side2 A7.out).mono ?_); (case side1 => refine (Kd.R_reads' (e := 3) (base := w.heap.size) (ok := fun k_ => ((True ∧ some k_ ≠ (.slice Ao13 t447.length co13 : Value).ownBlock) ∧ some k_ ≠ (.slice Ao15 t450.length co15 : Value).ownBlock)) (n := t444.length) (c := co10) ?_).2.2; exact (by apply rbW; exact (Kd.R_mono (Kd.R_far (p := ⟨gb454, 1, none⟩) (Kd.R_far (p := ⟨gb454, 0, none⟩) (Kd.R_types HO446.out BK454.out (by decide)) (fun _ hk => hk.2) (.slice Ao13 t447.length co13)) (fun _ hk => hk.2) (.slice Ao15 t450.length co15)) (fun _ h_ => h_.1)))); (case side2 => exact (Kd.R_reads' HO446.out).2.1); rintro e w16 ⟨v456, v459, rfl, ho0, ho1, hb⟩; refine ⟨_, rfl, ?_⟩; have n0_ := Aside0.mk (Kd.R_mono (Kd.R_told (Kd.R_told (Kd.R_old (by apply rbW; exact (Kd.R_mono (Kd.R_far (p := ⟨gb454, 1, none⟩) (Kd.R_far (p := ⟨gb454, 0, none⟩) (Kd.R_types HO446.out BK454.out (by decide)) (fun _ hk => hk.2) (.slice Ao13 t447.length co13)) (fun _ hk => hk.2) (.slice Ao15 t450.length co15)) (fun _ h_ => h_.1))) hb) (Kd.R_base ho0)) (Kd.R_base ho1)) (fun _ h_ => h_.1)); have n1_ := Aside0.mk (Kd.R_mono (Kd.R_told (Kd.R_told (Kd.R_old (by apply rbW; exact (Kd.R_mono (Kd.R_far (p := ⟨gb454, 1, none⟩) (Kd.R_far (p := ⟨gb454, 0, none⟩) (Kd.R_types HO449.out BK454.out (by decide)) (fun _ hk => hk.2) (.slice Ao13 t447.length co13)) (fun _ hk => hk.2) (.slice Ao15 t450.length co15)) (fun _ h_ => h_.1))) hb) (Kd.R_base ho0)) (Kd.R_base ho1)) (fun _ h_ => h_.1)); have n2_ := Aside0.mk (Kd.R_mono (Kd.R_told (Kd.R_told (Kd.R_old (by apply rbW; exact (Kd.R_mono (Kd.R_far (p := ⟨gb454, 1, none⟩) (Kd.R_far (p := ⟨gb454, 0, none⟩) (Kd.R_types HO452.out BK454.out (by decide)) (fun _ hk => hk.2) (.slice Ao13 t447.length co13)) (fun _ hk => hk.2) (.slice Ao15 t450.length co15)) (fun _ h_ => h_.1))) hb) (Kd.R_base ho0)) (Kd.R_base ho1)) (fun _ h_ => h_.1)); have n3_ := Aside0.mk (Kd.R_lower (Kd.R_new' (Kd.R_new' (Kd.R_new' ho0 (Kd.R_lt (by apply rbW; exact (Kd.R_mono (Kd.R_far (p := ⟨gb454, 1, none⟩) (Kd.R_far (p := ⟨gb454, 0, none⟩) (Kd.R_types HO446.out BK454.out (by decide)) (fun _ hk => hk.2) (.slice Ao13 t447.length co13)) (fun _ hk => hk.2) (.slice Ao15 t450.length co15)) (fun _ h_ => h_.1))))) (Kd.R_lt (by apply rbW; exact (Kd.R_mono (Kd.R_far (p := ⟨gb454, 1, none⟩) (Kd.R_far (p := ⟨gb454, 0, none⟩) (Kd.R_types HO449.out BK454.out (by decide)) (fun _ hk => hk.2) (.slice Ao13 t447.length co13)) (fun _ hk => hk.2) (.slice Ao15 t450.length co15)) (fun _ h_ => h_.1))))) (Kd.R_lt (by apply rbW; exact (Kd.R_mono (Kd.R_far (p := ⟨gb454, 1, none⟩) (Kd.R_far (p := ⟨gb454, 0, none⟩) (Kd.R_types HO452.out BK454.out (by decide)) (fun _ hk => hk.2) (.slice Ao13 t447.length co13)) (fun _ hk => hk.2) (.slice Ao15 t450.length co15)) (fun _ h_ => h_.1))))) (below_size (by repeat (first | exact nbW HB.out | refine nbW (below_set ?_ GE454.out))))); have n4_ := Aside0.mk (Kd.R_lower (Kd.R_new' (Kd.R_new' (Kd.R_new' ho1 (Kd.R_lt (by apply rbW; exact (Kd.R_mono (Kd.R_far (p := ⟨gb454, 1, none⟩) (Kd.R_far (p := ⟨gb454, 0, none⟩) (Kd.R_types HO446.out BK454.out (by decide)) (fun _ hk => hk.2) (.slice Ao13 t447.length co13)) (fun _ hk => hk.2) (.slice Ao15 t450.length co15)) (fun _ h_ => h_.1))))) (Kd.R_lt (by apply rbW; exact (Kd.R_mono (Kd.R_far (p := ⟨gb454, 1, none⟩) (Kd.R_far (p := ⟨gb454, 0, none⟩) (Kd.R_types HO449.out BK454.out (by decide)) (fun _ hk => hk.2) (.slice Ao13 t447.length co13)) (fun _ hk => hk.2) (.slice Ao15 t450.length co15)) (fun _ h_ => h_.1))))) (Kd.R_lt (by apply rbW; exact (Kd.R_mono (Kd.R_far (p := ⟨gb454, 1, none⟩) (Kd.R_far (p := ⟨gb454, 0, none⟩) (Kd.R_types HO452.out BK454.out (by decide)) (fun _ hk => hk.2) (.slice Ao13 t447.length co13)) (fun _ hk => hk.2) (.slice Ao15 t450.length co15)) (fun _ h_ => h_.1))))) (below_size (by repeat (first | exact nbW HB.out | refine nbW (below_set ?_ GE454.out))))); have n5_ := Aside0.mk (blk_below (g := gb454) (o := .cells #[.slice Ao13 t447.length co13, .slice Ao15 t450.length co15] 26 (0, 0)) (by apply kbW; refine blk_put (cs := #[.slice Ao13 t447.length co13, .slice none 0 0]) ?_ 1 _ rfl; apply kbW; refine blk_put (cs := #[.slice none 0 0, .slice none 0 0]) ?_ 0 _ rfl; apply kbW; exact BK454.out) hb); have n6_ := Aside0.mk (below_step (by repeat (first | exact nbW HB.out | refine nbW (below_set ?_ GE454.out))) hb); clear HO446; clear HO449; clear HO452; clear BK454; clear HB; have HO446 := n0_; have HO449 := n1_; have HO452 := n2_; have HO457 := n3_; have HO460 := n4_; have BK454 := n5_; have HB := n6_; clear n0_ n1_ n2_ n3_ n4_ n5_ n6_; (try clear hb); (try clear hb2); (try clear hk); (try clear hi); (try clear ho0); (try clear ho1)) | ((with_reducible refine gate_dst (N := 8) rfl ?_); (try (refine gate_guard (by rfl) ?_; dsimp only)); refine box_event ?hg (N := 8) ?hd (cs := #[.slice none 0 0, .slice none 0 0]) (t := 26) ?hr ?_; (case hd => rfl); (case hg => rfl); (case hr => first | (go_simp; done) | (go_simp; rfl)); intro gb462 hg w17 hbox hb; have n0_ := Aside0.mk (Kd.R_below (rbW HO446.out) hb); have n1_ := Aside0.mk (Kd.R_below (rbW HO449.out) hb); have n2_ := Aside0.mk (Kd.R_below (rbW HO452.out) hb); have n3_ := Aside0.mk (Kd.R_below (rbW HO457.out) hb); have n4_ := Aside0.mk (Kd.R_below (rbW HO460.out) hb); have n5_ := Aside0.mk (blk_below (g := gb454) (o := .cells #[.slice Ao13 t447.length co13, .slice Ao15 t450.length co15] 26 (0, 0)) (kbW BK454.out) hb); have n6_ := Aside0.mk (below_step (by repeat (first | exact nbW HB.out | refine nbW (below_set ?_ GE454.out))) hb); have n7_ := Aside0.mk (hbox); have n8_ := Aside0.mk ((by rw [hg]; exact (below_size (by repeat (first | exact nbW HB.out | refine nbW (below_set ?_ GE454.out)))) : w.heap.size ≤ gb462)); have n9_ := Aside0.mk ((by rw [hg]; exact (below_size (by repeat (first | exact nbW HB.out | refine nbW (below_set ?_ GE454.out)))) : w.heap.size ≤ gb462)); have n10_ := Aside0.mk ((by rw [hg]; exact Nat.ne_of_lt (blk_lt (g := gb454) (o := .cells #[.slice Ao13 t447.length co13, .slice Ao15 t450.length co15] 26 (0, 0)) (kbW BK454.out)) : gb454 ≠ gb462)); have n11_ := Aside0.mk ((by rw [hg]; exact Nat.ne_of_gt (blk_lt (g := gb454) (o := .cells #[.slice Ao13 t447.length co13, .slice Ao15 t450.length co15] 26 (0, 0)) (kbW BK454.out)) : gb462 ≠ gb454)); clear HO446; clear HO449; clear HO452; clear HO457; clear HO460; clear BK454; clear HB; have HO446 := n0_; have HO449 := n1_; have HO452 := n2_; have HO457 := n3_; have HO460 := n4_; have BK454 := n5_; have HB := n6_; have BK462 := n7_; have GW462 := n8_; have GE462 := n9_; have NB454_462 := n10_; have NB462_454 := n11_; clear n0_ n1_ n2_ n3_ n4_ n5_ n6_ n7_ n8_ n9_ n10_ n11_; clear hb hbox hg; obtain ⟨Ao18, co18, eo18⟩ := Kd.R_slice HO457.out; subst eo18; have hnb19 := NB462_454.out; have hnc19 := NB454_462.out; have hcz20_0 : w17.cell? ⟨gb462, 0, none⟩ = some (.slice none 0 0) := (blk_cell BK462.out 0).trans rfl; have hcz20_1 : w17.cell? ⟨gb462, 1, none⟩ = some (.slice none 0 0) := (blk_cell BK462.out 1).trans rfl; have hfz20_0 := blk_frozen BK462.out 0; have hfz20_1 := blk_frozen BK462.out 1; obtain ⟨Ao21, co21, eo21⟩ := Kd.R_slice HO460.out; subst eo21))
   (try simp only [Act.put, List.setIfInBounds_toArray, List.set_cons_zero, List.set_cons_succ])
   go_cut [56] (fun v56 wc => ∃ (kq : Nat) (x56_7 : Bool), v56 = .bool x56_7 ∧ Aside0 (laws_FnParkingIsWalks.j0 kq l1 t444 t461 x56_7 t447 t450 = some r) ∧ Aside0 (kq ≤ k) ∧ Aside0 (Kd.R (Kd.int .i64) 3 wc w.heap.size (fun k_ => some k_ ≠ ((.slice Ao13 t447.length co13) : Value).ownBlock ∧ some k_ ≠ ((.slice Ao15 t450.length co15) : Value).ownBlock ∧ some k_ ≠ ((.slice Ao18 t455.length co18) : Value).ownBlock ∧ some k_ ≠ ((.slice Ao21 t458.length co21) : Value).ownBlock) (.slice Ao10 t444.length co10) t444) ∧ Aside0 (Kd.R (Kd.int .i64) 3 wc w.heap.size (fun k_ => some k_ ≠ ((.slice Ao10 t444.length co10) : Value).ownBlock ∧ some k_ ≠ ((.slice Ao15 t450.length co15) : Value).ownBlock ∧ some k_ ≠ ((.slice Ao18 t455.length co18) : Value).ownBlock ∧ some k_ ≠ ((.slice Ao21 t458.length co21) : Value).ownBlock) (.slice Ao13 t447.length co13) t447) ∧ Aside0 (Kd.R (Kd.int .i64) 3 wc w.heap.size (fun k_ => some k_ ≠ ((.slice Ao10 t444.length co10) : Value).ownBlock ∧ some k_ ≠ ((.slice Ao13 t447.length co13) : Value).ownBlock ∧ some k_ ≠ ((.slice Ao18 t455.length co18) : Value).ownBlock ∧ some k_ ≠ ((.slice Ao21 t458.length co21) : Value).ownBlock) (.slice Ao15 t450.length co15) t450) ∧ Aside0 (Kd.R (Kd.int .i64) 3 wc w.heap.size (fun k_ => some k_ ≠ ((.slice Ao10 t444.length co10) : Value).ownBlock ∧ some k_ ≠ ((.slice Ao13 t447.length co13) : Value).ownBlock ∧ some k_ ≠ ((.slice Ao15 t450.length co15) : Value).ownBlock ∧ some k_ ≠ ((.slice Ao21 t458.length co21) : Value).ownBlock) (.slice Ao18 t455.length co18) t455) ∧ Aside0 (Kd.R (Kd.int .i64) 3 wc w.heap.size (fun k_ => some k_ ≠ ((.slice Ao10 t444.length co10) : Value).ownBlock ∧ some k_ ≠ ((.slice Ao13 t447.length co13) : Value).ownBlock ∧ some k_ ≠ ((.slice Ao15 t450.length co15) : Value).ownBlock ∧ some k_ ≠ ((.slice Ao18 t455.length co18) : Value).ownBlock) (.slice Ao21 t458.length co21) t458) ∧ Aside0 (wc.heap[gb454]? = some (.cells #[(.slice Ao13 t447.length co13), (.slice Ao15 t450.length co15)] 26 (0, 0))) ∧ Aside0 (wc.heap[gb462]? = some (.cells #[(.slice Ao18 t455.length co18), (.slice Ao21 t458.length co21)] 26 (0, 0))) ∧ Aside0 (Below w.heap.size w wc))
   case first =>
    have H := HC8.out
    clear HC8
    by_cases c22 : (t453 != t461) = true
    ·rw [if_pos c22] at H
     have c22b0 : (t453 != t461) = true := c22
     (try (have c22b1 : decide (t453 = t461) = false := by simpa using c22))
     (try (have c22b2 : (t453 == t461) = false := by simpa using c22))
     (try (have c22b3 : ¬ (t453 = t461) := by simpa using c22))
     clear c22
     (first | rw [c22b0] | (simp only [i64_w, i32_w]; rw [c22b0]) | rw [c22b1] | skip)
     have H' := Aside0.mk H
     clear H
     go_wp2
     go_meet
     case rel => exact ⟨_, (true), (by first | rfl | (simp; done) | (simp [*]; done)), H', ⟨by first | omega | exact Nat.le_refl _⟩, ⟨by apply rbW; exact Kd.R_mono (Kd.R_far (p := ⟨gb462, 1, none⟩) (Kd.R_far (p := ⟨gb462, 0, none⟩) (Kd.R_types HO446.out BK462.out (by decide)) (fun _ hk => hk.2) (.slice Ao18 t455.length co18)) (fun _ hk => hk.2) (.slice Ao21 t458.length co21)) (fun _ hk => ⟨hk.1.1.1.1.2, ⟨hk.1.1.1.2, ⟨hk.1.1.2, hk.1.2⟩⟩⟩)⟩, ⟨by apply rbW; exact Kd.R_mono (Kd.R_far (p := ⟨gb462, 1, none⟩) (Kd.R_far (p := ⟨gb462, 0, none⟩) (Kd.R_types HO449.out BK462.out (by decide)) (fun _ hk => hk.2) (.slice Ao18 t455.length co18)) (fun _ hk => hk.2) (.slice Ao21 t458.length co21)) (fun _ hk => ⟨hk.1.1.1.2, ⟨hk.1.1.1.1, ⟨hk.1.1.2, hk.1.2⟩⟩⟩)⟩, ⟨by apply rbW; exact Kd.R_mono (Kd.R_far (p := ⟨gb462, 1, none⟩) (Kd.R_far (p := ⟨gb462, 0, none⟩) (Kd.R_types HO452.out BK462.out (by decide)) (fun _ hk => hk.2) (.slice Ao18 t455.length co18)) (fun _ hk => hk.2) (.slice Ao21 t458.length co21)) (fun _ hk => ⟨hk.1.1.1.2, ⟨hk.1.1.1.1, ⟨hk.1.1.2, hk.1.2⟩⟩⟩)⟩, ⟨by apply rbW; exact Kd.R_mono (Kd.R_far (p := ⟨gb462, 1, none⟩) (Kd.R_far (p := ⟨gb462, 0, none⟩) (Kd.R_types HO457.out BK462.out (by decide)) (fun _ hk => hk.2) (.slice Ao18 t455.length co18)) (fun _ hk => hk.2) (.slice Ao21 t458.length co21)) (fun _ hk => ⟨hk.1.1.1.2, ⟨hk.1.1.2, ⟨hk.1.2, hk.1.1.1.1⟩⟩⟩)⟩, ⟨by apply rbW; exact Kd.R_mono (Kd.R_far (p := ⟨gb462, 1, none⟩) (Kd.R_far (p := ⟨gb462, 0, none⟩) (Kd.R_types HO460.out BK462.out (by decide)) (fun _ hk => hk.2) (.slice Ao18 t455.length co18)) (fun _ hk => hk.2) (.slice Ao21 t458.length co21)) (fun _ hk => ⟨hk.1.1.1.2, ⟨hk.1.1.2, ⟨hk.1.2, hk.1.1.1.1⟩⟩⟩)⟩, ⟨by apply kbW; refine blk_far ?_ NB454_462.out _; apply kbW; refine blk_far ?_ NB454_462.out _; apply kbW; exact BK454.out⟩, ⟨by apply kbW; refine blk_put (cs := #[.slice Ao18 t455.length co18, .slice none 0 0]) ?_ 1 _ rfl; apply kbW; refine blk_put (cs := #[.slice none 0 0, .slice none 0 0]) ?_ 0 _ rfl; apply kbW; exact BK462.out⟩, ⟨by repeat (first | exact nbW HB.out | refine nbW (below_set ?_ GE454.out) | refine nbW (below_set ?_ GE462.out))⟩⟩
    ·rw [if_neg c22] at H
     have c22b0 : (t453 != t461) = false := by simpa using c22
     (try (have c22b1 : decide (t453 = t461) = true := by simpa using c22))
     (try (have c22b2 : (t453 == t461) = true := by simpa using c22))
     clear c22
     (first | rw [c22b0] | (simp only [i64_w, i32_w]; rw [c22b0]) | rw [c22b1] | skip)
     replace H := Option.bind_eq_some_iff.mp H
     obtain ⟨t463, A230, H⟩ := H
     replace H : (if t463 = true then ((laws_wParking.f k t444).bind fun t464 => (laws_FnParkingIsWalks.j0 k l1 t444 t461 (t453 != t464) t447 t450)) else (laws_FnParkingIsWalks.j0 k l1 t444 t461 true t447 t450)) = some r := H
     have A23 := Aside0.mk A230
     clear A230
     by_cases c24 : t463 = true
     ·subst c24
      have H1 : ((laws_wParking.f k t444).bind fun t464 => (laws_FnParkingIsWalks.j0 k l1 t444 t461 (t453 != t464) t447 t450)) = some r := by rw [if_pos rfl] at H; exact H
      clear H
      have H := H1
      clear H1
      replace H := Option.bind_eq_some_iff.mp H
      obtain ⟨t464, A250, H⟩ := H
      replace H : (laws_FnParkingIsWalks.j0 k l1 t444 t461 (t453 != t464) t447 t450) = some r := H
      have A25 := Aside0.mk A250
      clear A250
      have H' := Aside0.mk H
      clear H
      have hnb26 := NB454_462.out
      have hnc26 := NB462_454.out
      have hcz27_0 : w17.cell? ⟨gb454, 0, none⟩ = some (.slice Ao13 t447.length co13) := (blk_cell BK454.out 0).trans rfl
      have hcz27_1 : w17.cell? ⟨gb454, 1, none⟩ = some (.slice Ao15 t450.length co15) := (blk_cell BK454.out 1).trans rfl
      have hfz27_0 := blk_frozen BK454.out 0
      have hfz27_1 := blk_frozen BK454.out 1
      have hcz28_0 : w17.cell? ⟨gb462, 0, none⟩ = some (.slice none 0 0) := (blk_cell BK462.out 0).trans rfl
      have hcz28_1 : w17.cell? ⟨gb462, 1, none⟩ = some (.slice none 0 0) := (blk_cell BK462.out 1).trans rfl
      have hfz28_0 := blk_frozen BK462.out 0
      have hfz28_1 := blk_frozen BK462.out 1
      go_wp2_with (first | (go_at_call 34; (with_reducible refine (laws_wSameWalk.calls k _ _ t447 _ _ t450 _ _ t455 _ _ t458 true _ ?side1 ?side2 ?side3 ?side4 ?side5 ?side6 ?side7 ?side8 A23.out).mono ?_); (case side1 => refine (Kd.R_reads' (e := 3) (base := w.heap.size) (ok := fun k_ => (((some k_ ≠ (.slice Ao15 t450.length co15 : Value).ownBlock ∧ some k_ ≠ (.slice Ao10 t444.length co10 : Value).ownBlock) ∧ some k_ ≠ (.slice Ao18 t455.length co18 : Value).ownBlock) ∧ some k_ ≠ (.slice Ao21 t458.length co21 : Value).ownBlock)) (n := t447.length) (c := co13) ?_).2.2; exact (by apply rbW; exact (Kd.R_mono (Kd.R_far (p := ⟨gb462, 1, none⟩) (Kd.R_far (p := ⟨gb462, 0, none⟩) (Kd.R_types HO449.out BK462.out (by decide)) (fun _ hk => hk.2) (.slice Ao18 t455.length co18)) (fun _ hk => hk.2) (.slice Ao21 t458.length co21)) (fun _ h_ => h_.1)))); (case side2 => exact (Kd.R_reads' HO449.out).2.1); (case side3 => refine (Kd.R_reads' (e := 3) (base := w.heap.size) (ok := fun k_ => (((some k_ ≠ (.slice Ao13 t447.length co13 : Value).ownBlock ∧ some k_ ≠ (.slice Ao10 t444.length co10 : Value).ownBlock) ∧ some k_ ≠ (.slice Ao18 t455.length co18 : Value).ownBlock) ∧ some k_ ≠ (.slice Ao21 t458.length co21 : Value).ownBlock)) (n := t450.length) (c := co15) ?_).2.2; exact (by apply rbW; exact (Kd.R_mono (Kd.R_far (p := ⟨gb462, 1, none⟩) (Kd.R_far (p := ⟨gb462, 0, none⟩) (Kd.R_types HO452.out BK462.out (by decide)) (fun _ hk => hk.2) (.slice Ao18 t455.length co18)) (fun _ hk => hk.2) (.slice Ao21 t458.length co21)) (fun _ h_ => h_.1)))); (case side4 => exact (Kd.R_reads' HO452.out).2.1); (case side5 => refine (Kd.R_reads' (e := 3) (base := w.heap.size) (ok := fun k_ => (((some k_ ≠ (.slice Ao21 t458.length co21 : Value).ownBlock ∧ some k_ ≠ (.slice Ao10 t444.length co10 : Value).ownBlock) ∧ some k_ ≠ (.slice Ao13 t447.length co13 : Value).ownBlock) ∧ some k_ ≠ (.slice Ao15 t450.length co15 : Value).ownBlock)) (n := t455.length) (c := co18) ?_).2.2; exact (by apply rbW; exact (Kd.R_mono (Kd.R_far (p := ⟨gb462, 1, none⟩) (Kd.R_far (p := ⟨gb462, 0, none⟩) (Kd.R_types HO457.out BK462.out (by decide)) (fun _ hk => hk.2) (.slice Ao18 t455.length co18)) (fun _ hk => hk.2) (.slice Ao21 t458.length co21)) (fun _ h_ => h_.1)))); (case side6 => exact (Kd.R_reads' HO457.out).2.1); (case side7 => refine (Kd.R_reads' (e := 3) (base := w.heap.size) (ok := fun k_ => (((some k_ ≠ (.slice Ao18 t455.length co18 : Value).ownBlock ∧ some k_ ≠ (.slice Ao10 t444.length co10 : Value).ownBlock) ∧ some k_ ≠ (.slice Ao13 t447.length co13 : Value).ownBlock) ∧ some k_ ≠ (.slice Ao15 t450.length co15 : Value).ownBlock)) (n := t458.length) (c := co21) ?_).2.2; exact (by apply rbW; exact (Kd.R_mono (Kd.R_far (p := ⟨gb462, 1, none⟩) (Kd.R_far (p := ⟨gb462, 0, none⟩) (Kd.R_types HO460.out BK462.out (by decide)) (fun _ hk => hk.2) (.slice Ao18 t455.length co18)) (fun _ hk => hk.2) (.slice Ao21 t458.length co21)) (fun _ h_ => h_.1)))); (case side8 => exact (Kd.R_reads' HO460.out).2.1); rintro e w29 ⟨rfl, hb⟩; have n0_ := Aside0.mk (Kd.R_below (by apply rbW; exact (Kd.R_mono (Kd.R_far (p := ⟨gb462, 1, none⟩) (Kd.R_far (p := ⟨gb462, 0, none⟩) (Kd.R_types HO446.out BK462.out (by decide)) (fun _ hk => hk.2) (.slice Ao18 t455.length co18)) (fun _ hk => hk.2) (.slice Ao21 t458.length co21)) (fun _ h_ => h_.1))) hb); have n1_ := Aside0.mk (Kd.R_below (by apply rbW; exact (Kd.R_mono (Kd.R_far (p := ⟨gb462, 1, none⟩) (Kd.R_far (p := ⟨gb462, 0, none⟩) (Kd.R_types HO449.out BK462.out (by decide)) (fun _ hk => hk.2) (.slice Ao18 t455.length co18)) (fun _ hk => hk.2) (.slice Ao21 t458.length co21)) (fun _ h_ => h_.1))) hb); have n2_ := Aside0.mk (Kd.R_below (by apply rbW; exact (Kd.R_mono (Kd.R_far (p := ⟨gb462, 1, none⟩) (Kd.R_far (p := ⟨gb462, 0, none⟩) (Kd.R_types HO452.out BK462.out (by decide)) (fun _ hk => hk.2) (.slice Ao18 t455.length co18)) (fun _ hk => hk.2) (.slice Ao21 t458.length co21)) (fun _ h_ => h_.1))) hb); have n3_ := Aside0.mk (Kd.R_below (by apply rbW; exact (Kd.R_mono (Kd.R_far (p := ⟨gb462, 1, none⟩) (Kd.R_far (p := ⟨gb462, 0, none⟩) (Kd.R_types HO457.out BK462.out (by decide)) (fun _ hk => hk.2) (.slice Ao18 t455.length co18)) (fun _ hk => hk.2) (.slice Ao21 t458.length co21)) (fun _ h_ => h_.1))) hb); have n4_ := Aside0.mk (Kd.R_below (by apply rbW; exact (Kd.R_mono (Kd.R_far (p := ⟨gb462, 1, none⟩) (Kd.R_far (p := ⟨gb462, 0, none⟩) (Kd.R_types HO460.out BK462.out (by decide)) (fun _ hk => hk.2) (.slice Ao18 t455.length co18)) (fun _ hk => hk.2) (.slice Ao21 t458.length co21)) (fun _ h_ => h_.1))) hb); have n5_ := Aside0.mk (blk_below (g := gb454) (o := .cells #[.slice Ao13 t447.length co13, .slice Ao15 t450.length co15] 26 (0, 0)) (by apply kbW; refine blk_far ?_ NB454_462.out _; apply kbW; refine blk_far ?_ NB454_462.out _; apply kbW; exact BK454.out) hb); have n6_ := Aside0.mk (blk_below (g := gb462) (o := .cells #[.slice Ao18 t455.length co18, .slice Ao21 t458.length co21] 26 (0, 0)) (by apply kbW; refine blk_put (cs := #[.slice Ao18 t455.length co18, .slice none 0 0]) ?_ 1 _ rfl; apply kbW; refine blk_put (cs := #[.slice none 0 0, .slice none 0 0]) ?_ 0 _ rfl; apply kbW; exact BK462.out) hb); have n7_ := Aside0.mk (below_step (by repeat (first | exact nbW HB.out | refine nbW (below_set ?_ GE454.out) | refine nbW (below_set ?_ GE462.out))) hb); clear HO446; clear HO449; clear HO452; clear HO457; clear HO460; clear BK454; clear BK462; clear HB; have HO446 := n0_; have HO449 := n1_; have HO452 := n2_; have HO457 := n3_; have HO460 := n4_; have BK454 := n5_; have BK462 := n6_; have HB := n7_; clear n0_ n1_ n2_ n3_ n4_ n5_ n6_ n7_; (try clear hb); (try clear hb2); (try clear hk); (try clear hi)) | (go_at_call 35; (with_reducible refine (laws_wParking.calls k _ _ t444 t464 _ ?side1 ?side2 A25.out).mono ?_); (case side1 => exact cbW (Kd.R_reads' HO446.out).2.2); (case side2 => exact (Kd.R_reads' HO446.out).2.1); rintro e w30 ⟨rfl, hb⟩; have n0_ := Aside0.mk (Kd.R_below (rbW HO446.out) hb); have n1_ := Aside0.mk (Kd.R_below (rbW HO449.out) hb); have n2_ := Aside0.mk (Kd.R_below (rbW HO452.out) hb); have n3_ := Aside0.mk (Kd.R_below (rbW HO457.out) hb); have n4_ := Aside0.mk (Kd.R_below (rbW HO460.out) hb); have n5_ := Aside0.mk (blk_below (g := gb454) (o := .cells #[.slice Ao13 t447.length co13, .slice Ao15 t450.length co15] 26 (0, 0)) (kbW BK454.out) hb); have n6_ := Aside0.mk (blk_below (g := gb462) (o := .cells #[.slice Ao18 t455.length co18, .slice Ao21 t458.length co21] 26 (0, 0)) (kbW BK462.out) hb); have n7_ := Aside0.mk (below_step (by repeat (first | exact nbW HB.out | refine nbW (below_set ?_ GE454.out) | refine nbW (below_set ?_ GE462.out))) hb); clear HO446; clear HO449; clear HO452; clear HO457; clear HO460; clear BK454; clear BK462; clear HB; have HO446 := n0_; have HO449 := n1_; have HO452 := n2_; have HO457 := n3_; have HO460 := n4_; have BK454 := n5_; have BK462 := n6_; have HB := n7_; clear n0_ n1_ n2_ n3_ n4_ n5_ n6_ n7_; (try clear hb); (try clear hb2); (try clear hk); (try clear hi)))
      go_meet
      case rel => exact ⟨_, ((t453 != t464)), (by first | rfl | (simp; done) | (simp [*]; done)), H', ⟨by first | omega | exact Nat.le_refl _⟩, ⟨by apply rbW; exact Kd.R_mono HO446.out (fun _ hk => ⟨hk.1.1.1.2, ⟨hk.1.1.2, ⟨hk.1.2, hk.2⟩⟩⟩)⟩, ⟨by apply rbW; exact Kd.R_mono HO449.out (fun _ hk => ⟨hk.1.1.2, ⟨hk.1.1.1, ⟨hk.1.2, hk.2⟩⟩⟩)⟩, ⟨by apply rbW; exact Kd.R_mono HO452.out (fun _ hk => ⟨hk.1.1.2, ⟨hk.1.1.1, ⟨hk.1.2, hk.2⟩⟩⟩)⟩, ⟨by apply rbW; exact Kd.R_mono HO457.out (fun _ hk => ⟨hk.1.1.2, ⟨hk.1.2, ⟨hk.2, hk.1.1.1⟩⟩⟩)⟩, ⟨by apply rbW; exact Kd.R_mono HO460.out (fun _ hk => ⟨hk.1.1.2, ⟨hk.1.2, ⟨hk.2, hk.1.1.1⟩⟩⟩)⟩, ⟨by apply kbW; exact BK454.out⟩, ⟨by apply kbW; exact BK462.out⟩, ⟨by repeat (first | exact nbW HB.out | refine nbW (below_set ?_ GE454.out) | refine nbW (below_set ?_ GE462.out))⟩⟩
     ·replace c24 := Bool.eq_false_iff.mpr c24
      subst c24
      have H1 : (laws_FnParkingIsWalks.j0 k l1 t444 t461 true t447 t450) = some r := by rw [if_neg (show ¬ (false = true) by decide)] at H; exact H
      clear H
      have H := H1
      clear H1
      have H' := Aside0.mk H
      clear H
      have hnb31 := NB454_462.out
      have hnc31 := NB462_454.out
      have hcz32_0 : w17.cell? ⟨gb454, 0, none⟩ = some (.slice Ao13 t447.length co13) := (blk_cell BK454.out 0).trans rfl
      have hcz32_1 : w17.cell? ⟨gb454, 1, none⟩ = some (.slice Ao15 t450.length co15) := (blk_cell BK454.out 1).trans rfl
      have hfz32_0 := blk_frozen BK454.out 0
      have hfz32_1 := blk_frozen BK454.out 1
      have hcz33_0 : w17.cell? ⟨gb462, 0, none⟩ = some (.slice none 0 0) := (blk_cell BK462.out 0).trans rfl
      have hcz33_1 : w17.cell? ⟨gb462, 1, none⟩ = some (.slice none 0 0) := (blk_cell BK462.out 1).trans rfl
      have hfz33_0 := blk_frozen BK462.out 0
      have hfz33_1 := blk_frozen BK462.out 1
      go_wp2_with (first | (go_at_call 34; (with_reducible refine (laws_wSameWalk.calls k _ _ t447 _ _ t450 _ _ t455 _ _ t458 false _ ?side1 ?side2 ?side3 ?side4 ?side5 ?side6 ?side7 ?side8 A23.out).mono ?_); (case side1 => refine (Kd.R_reads' (e := 3) (base := w.heap.size) (ok := fun k_ => (((some k_ ≠ (.slice Ao15 t450.length co15 : Value).ownBlock ∧ some k_ ≠ (.slice Ao10 t444.length co10 : Value).ownBlock) ∧ some k_ ≠ (.slice Ao18 t455.length co18 : Value).ownBlock) ∧ some k_ ≠ (.slice Ao21 t458.length co21 : Value).ownBlock)) (n := t447.length) (c := co13) ?_).2.2; exact (by apply rbW; exact (Kd.R_mono (Kd.R_far (p := ⟨gb462, 1, none⟩) (Kd.R_far (p := ⟨gb462, 0, none⟩) (Kd.R_types HO449.out BK462.out (by decide)) (fun _ hk => hk.2) (.slice Ao18 t455.length co18)) (fun _ hk => hk.2) (.slice Ao21 t458.length co21)) (fun _ h_ => h_.1)))); (case side2 => exact (Kd.R_reads' HO449.out).2.1); (case side3 => refine (Kd.R_reads' (e := 3) (base := w.heap.size) (ok := fun k_ => (((some k_ ≠ (.slice Ao13 t447.length co13 : Value).ownBlock ∧ some k_ ≠ (.slice Ao10 t444.length co10 : Value).ownBlock) ∧ some k_ ≠ (.slice Ao18 t455.length co18 : Value).ownBlock) ∧ some k_ ≠ (.slice Ao21 t458.length co21 : Value).ownBlock)) (n := t450.length) (c := co15) ?_).2.2; exact (by apply rbW; exact (Kd.R_mono (Kd.R_far (p := ⟨gb462, 1, none⟩) (Kd.R_far (p := ⟨gb462, 0, none⟩) (Kd.R_types HO452.out BK462.out (by decide)) (fun _ hk => hk.2) (.slice Ao18 t455.length co18)) (fun _ hk => hk.2) (.slice Ao21 t458.length co21)) (fun _ h_ => h_.1)))); (case side4 => exact (Kd.R_reads' HO452.out).2.1); (case side5 => refine (Kd.R_reads' (e := 3) (base := w.heap.size) (ok := fun k_ => (((some k_ ≠ (.slice Ao21 t458.length co21 : Value).ownBlock ∧ some k_ ≠ (.slice Ao10 t444.length co10 : Value).ownBlock) ∧ some k_ ≠ (.slice Ao13 t447.length co13 : Value).ownBlock) ∧ some k_ ≠ (.slice Ao15 t450.length co15 : Value).ownBlock)) (n := t455.length) (c := co18) ?_).2.2; exact (by apply rbW; exact (Kd.R_mono (Kd.R_far (p := ⟨gb462, 1, none⟩) (Kd.R_far (p := ⟨gb462, 0, none⟩) (Kd.R_types HO457.out BK462.out (by decide)) (fun _ hk => hk.2) (.slice Ao18 t455.length co18)) (fun _ hk => hk.2) (.slice Ao21 t458.length co21)) (fun _ h_ => h_.1)))); (case side6 => exact (Kd.R_reads' HO457.out).2.1); (case side7 => refine (Kd.R_reads' (e := 3) (base := w.heap.size) (ok := fun k_ => (((some k_ ≠ (.slice Ao18 t455.length co18 : Value).ownBlock ∧ some k_ ≠ (.slice Ao10 t444.length co10 : Value).ownBlock) ∧ some k_ ≠ (.slice Ao13 t447.length co13 : Value).ownBlock) ∧ some k_ ≠ (.slice Ao15 t450.length co15 : Value).ownBlock)) (n := t458.length) (c := co21) ?_).2.2; exact (by apply rbW; exact (Kd.R_mono (Kd.R_far (p := ⟨gb462, 1, none⟩) (Kd.R_far (p := ⟨gb462, 0, none⟩) (Kd.R_types HO460.out BK462.out (by decide)) (fun _ hk => hk.2) (.slice Ao18 t455.length co18)) (fun _ hk => hk.2) (.slice Ao21 t458.length co21)) (fun _ h_ => h_.1)))); (case side8 => exact (Kd.R_reads' HO460.out).2.1); rintro e w34 ⟨rfl, hb⟩; have n0_ := Aside0.mk (Kd.R_below (by apply rbW; exact (Kd.R_mono (Kd.R_far (p := ⟨gb462, 1, none⟩) (Kd.R_far (p := ⟨gb462, 0, none⟩) (Kd.R_types HO446.out BK462.out (by decide)) (fun _ hk => hk.2) (.slice Ao18 t455.length co18)) (fun _ hk => hk.2) (.slice Ao21 t458.length co21)) (fun _ h_ => h_.1))) hb); have n1_ := Aside0.mk (Kd.R_below (by apply rbW; exact (Kd.R_mono (Kd.R_far (p := ⟨gb462, 1, none⟩) (Kd.R_far (p := ⟨gb462, 0, none⟩) (Kd.R_types HO449.out BK462.out (by decide)) (fun _ hk => hk.2) (.slice Ao18 t455.length co18)) (fun _ hk => hk.2) (.slice Ao21 t458.length co21)) (fun _ h_ => h_.1))) hb); have n2_ := Aside0.mk (Kd.R_below (by apply rbW; exact (Kd.R_mono (Kd.R_far (p := ⟨gb462, 1, none⟩) (Kd.R_far (p := ⟨gb462, 0, none⟩) (Kd.R_types HO452.out BK462.out (by decide)) (fun _ hk => hk.2) (.slice Ao18 t455.length co18)) (fun _ hk => hk.2) (.slice Ao21 t458.length co21)) (fun _ h_ => h_.1))) hb); have n3_ := Aside0.mk (Kd.R_below (by apply rbW; exact (Kd.R_mono (Kd.R_far (p := ⟨gb462, 1, none⟩) (Kd.R_far (p := ⟨gb462, 0, none⟩) (Kd.R_types HO457.out BK462.out (by decide)) (fun _ hk => hk.2) (.slice Ao18 t455.length co18)) (fun _ hk => hk.2) (.slice Ao21 t458.length co21)) (fun _ h_ => h_.1))) hb); have n4_ := Aside0.mk (Kd.R_below (by apply rbW; exact (Kd.R_mono (Kd.R_far (p := ⟨gb462, 1, none⟩) (Kd.R_far (p := ⟨gb462, 0, none⟩) (Kd.R_types HO460.out BK462.out (by decide)) (fun _ hk => hk.2) (.slice Ao18 t455.length co18)) (fun _ hk => hk.2) (.slice Ao21 t458.length co21)) (fun _ h_ => h_.1))) hb); have n5_ := Aside0.mk (blk_below (g := gb454) (o := .cells #[.slice Ao13 t447.length co13, .slice Ao15 t450.length co15] 26 (0, 0)) (by apply kbW; refine blk_far ?_ NB454_462.out _; apply kbW; refine blk_far ?_ NB454_462.out _; apply kbW; exact BK454.out) hb); have n6_ := Aside0.mk (blk_below (g := gb462) (o := .cells #[.slice Ao18 t455.length co18, .slice Ao21 t458.length co21] 26 (0, 0)) (by apply kbW; refine blk_put (cs := #[.slice Ao18 t455.length co18, .slice none 0 0]) ?_ 1 _ rfl; apply kbW; refine blk_put (cs := #[.slice none 0 0, .slice none 0 0]) ?_ 0 _ rfl; apply kbW; exact BK462.out) hb); have n7_ := Aside0.mk (below_step (by repeat (first | exact nbW HB.out | refine nbW (below_set ?_ GE454.out) | refine nbW (below_set ?_ GE462.out))) hb); clear HO446; clear HO449; clear HO452; clear HO457; clear HO460; clear BK454; clear BK462; clear HB; have HO446 := n0_; have HO449 := n1_; have HO452 := n2_; have HO457 := n3_; have HO460 := n4_; have BK454 := n5_; have BK462 := n6_; have HB := n7_; clear n0_ n1_ n2_ n3_ n4_ n5_ n6_ n7_; (try clear hb); (try clear hb2); (try clear hk); (try clear hi)))
      go_meet
      case rel => exact ⟨_, (true), (by first | rfl | (simp; done) | (simp [*]; done)), H', ⟨by first | omega | exact Nat.le_refl _⟩, ⟨by apply rbW; exact Kd.R_mono HO446.out (fun _ hk => ⟨hk.1.1.1.2, ⟨hk.1.1.2, ⟨hk.1.2, hk.2⟩⟩⟩)⟩, ⟨by apply rbW; exact Kd.R_mono HO449.out (fun _ hk => ⟨hk.1.1.2, ⟨hk.1.1.1, ⟨hk.1.2, hk.2⟩⟩⟩)⟩, ⟨by apply rbW; exact Kd.R_mono HO452.out (fun _ hk => ⟨hk.1.1.2, ⟨hk.1.1.1, ⟨hk.1.2, hk.2⟩⟩⟩)⟩, ⟨by apply rbW; exact Kd.R_mono HO457.out (fun _ hk => ⟨hk.1.1.2, ⟨hk.1.2, ⟨hk.2, hk.1.1.1⟩⟩⟩)⟩, ⟨by apply rbW; exact Kd.R_mono HO460.out (fun _ hk => ⟨hk.1.1.2, ⟨hk.1.2, ⟨hk.2, hk.1.1.1⟩⟩⟩)⟩, ⟨by apply kbW; exact BK454.out⟩, ⟨by apply kbW; exact BK462.out⟩, ⟨by repeat (first | exact nbW HB.out | refine nbW (below_set ?_ GE454.out) | refine nbW (below_set ?_ GE462.out))⟩⟩
   case rest =>
    clear HC8
    try clear c1
    try clear c2
    try clear p2
    try clear c3
    try clear c4
    try clear c5
    try clear c7
    try clear c19
    try clear c22
    try clear c22b0
    try clear c22b1
    try clear c22b2
    try clear c24
    try clear c26
    try clear c31
    try clear c32
    try clear c33
    try clear hcz14_0
    try clear hcz14_1
    try clear hcz20_0
    try clear hcz20_1
    try clear hcz27_0
    try clear hcz27_1
    try clear hcz28_0
    try clear hcz28_1
    try clear hcz32_0
    try clear hcz32_1
    try clear hcz33_0
    try clear hcz33_1
    try clear hfz14_0
    try clear hfz14_1
    try clear hfz20_0
    try clear hfz20_1
    try clear hfz27_0
    try clear hfz27_1
    try clear hfz28_0
    try clear hfz28_1
    try clear hfz32_0
    try clear hfz32_1
    try clear hfz33_0
    try clear hfz33_1
    obtain ⟨kq, x56_7, rfl, HA, HJ7, HO_5, HO_455000, HO_455001, HO_463000, HO_463001, BK454, BK462, HB⟩ := hcut
    cases kq with
    | zero => exact absurd HA.out (by simp [laws_FnParkingIsWalks.j0])
    | succ kj7 =>
     have H := HA.out
     clear HA
     simp only [laws_FnParkingIsWalks.j0] at H
     by_cases c35 : x56_7 = true
     ·subst c35
      have H1 : (some false) = some r := by rw [if_pos rfl] at H; exact H
      clear H
      have H := H1
      clear H1
      obtain rfl := Option.some.inj H
      go_wp2
      go_ret
      exact ⟨by first | rfl | (simp [errW_none, errW_some] <;> rfl) | (simp [*, errW_none, errW_some] <;> rfl), by repeat (first | exact nbW HB.out | refine nbW (below_set ?_ GE454.out) | refine nbW (below_set ?_ GE462.out))⟩
     ·as_aux_lemma =>
       replace c35 := Bool.eq_false_iff.mpr c35
       subst c35
       have H1 : ((spec_DrawParkingOfWalk.f kj7 l1).bind fun bt465 => ((impl_ParkingOfWalk.f kj7 bt465.1 bt465.2).bind fun bt472 => ((spec_ParkingOfWalk.f kj7 bt465.1 bt465.2).bind fun bt476 => (if (bt472.2 != bt476.2) = true then (laws_FnParkingIsWalks.j1 kj7 t444 t461 bt472.1 bt472.2 true t447 t450 bt465.1 bt465.2) else ((laws_wSame.f kj7 bt472.1 bt476.1).bind fun t480 => (if t480 = true then ((impl_IsWalk.f kj7 bt465.1 bt465.2).bind fun t481 => (laws_FnParkingIsWalks.j1 kj7 t444 t461 bt472.1 bt472.2 (bt472.2 != t481) t447 t450 bt465.1 bt465.2)) else (laws_FnParkingIsWalks.j1 kj7 t444 t461 bt472.1 bt472.2 true t447 t450 bt465.1 bt465.2))))))) = some r := by rw [if_neg (show ¬ (false = true) by decide)] at H; exact H
       clear H
       have H := H1
       clear H1
       replace H := Option.bind_eq_some_iff.mp H
       obtain ⟨⟨t465, t468⟩, A360, H⟩ := H
       replace H : ((impl_ParkingOfWalk.f kj7 t465 t468).bind fun bt472 => ((spec_ParkingOfWalk.f kj7 t465 t468).bind fun bt476 => (if (bt472.2 != bt476.2) = true then (laws_FnParkingIsWalks.j1 kj7 t444 t461 bt472.1 bt472.2 true t447 t450 t465 t468) else ((laws_wSame.f kj7 bt472.1 bt476.1).bind fun t480 => (if t480 = true then ((impl_IsWalk.f kj7 t465 t468).bind fun t481 => (laws_FnParkingIsWalks.j1 kj7 t444 t461 bt472.1 bt472.2 (bt472.2 != t481) t447 t450 t465 t468)) else (laws_FnParkingIsWalks.j1 kj7 t444 t461 bt472.1 bt472.2 true t447 t450 t465 t468)))))) = some r := H
       have A36 := Aside0.mk A360
       clear A360
       replace H := Option.bind_eq_some_iff.mp H
       obtain ⟨⟨t472, t475⟩, A370, H⟩ := H
       replace H : ((spec_ParkingOfWalk.f kj7 t465 t468).bind fun bt476 => (if (t475 != bt476.2) = true then (laws_FnParkingIsWalks.j1 kj7 t444 t461 t472 t475 true t447 t450 t465 t468) else ((laws_wSame.f kj7 t472 bt476.1).bind fun t480 => (if t480 = true then ((impl_IsWalk.f kj7 t465 t468).bind fun t481 => (laws_FnParkingIsWalks.j1 kj7 t444 t461 t472 t475 (t475 != t481) t447 t450 t465 t468)) else (laws_FnParkingIsWalks.j1 kj7 t444 t461 t472 t475 true t447 t450 t465 t468))))) = some r := H
       have A37 := Aside0.mk A370
       clear A370
       replace H := Option.bind_eq_some_iff.mp H
       obtain ⟨⟨t476, t479⟩, A380, H⟩ := H
       replace H : (if (t475 != t479) = true then (laws_FnParkingIsWalks.j1 kj7 t444 t461 t472 t475 true t447 t450 t465 t468) else ((laws_wSame.f kj7 t472 t476).bind fun t480 => (if t480 = true then ((impl_IsWalk.f kj7 t465 t468).bind fun t481 => (laws_FnParkingIsWalks.j1 kj7 t444 t461 t472 t475 (t475 != t481) t447 t450 t465 t468)) else (laws_FnParkingIsWalks.j1 kj7 t444 t461 t472 t475 true t447 t450 t465 t468)))) = some r := H
       have A38 := Aside0.mk A380
       clear A380
       have HC39 := Aside0.mk H
       clear H
       go_upto_region 11 with (first | ((with_reducible refine gate_callee (f := 36) rfl ?_); refine goesL_ (some 58) rfl rfl Try.func36 (by kernel_rfl) rfl #[.slice A1 l1.length c1] rfl (by (try simp only [List.map_toArray, List.map_cons, List.map_nil]); first | done | rfl | (simp only [List.length_drop, List.length_take]; rfl)) ?_; (with_reducible refine (spec_DrawParkingOfWalk.calls kj7 _ _ l1 t465 t468 _ ?side1 ?side2 A36.out).mono ?_); (case side1 => exact cbW (Kd.C_below HR1.out HB.out)); (case side2 => exact HC1.out); rintro e w40 ⟨v466, v469, rfl, ho0, ho1, hb⟩; refine ⟨_, rfl, ?_⟩; have n0_ := Aside0.mk (Kd.R_mono (Kd.R_told (Kd.R_told (Kd.R_old (rbW HO_5.out) hb) (Kd.R_base ho0)) (Kd.R_base ho1)) (fun _ h_ => h_.1)); have n1_ := Aside0.mk (Kd.R_mono (Kd.R_told (Kd.R_told (Kd.R_old (rbW HO_455000.out) hb) (Kd.R_base ho0)) (Kd.R_base ho1)) (fun _ h_ => h_.1)); have n2_ := Aside0.mk (Kd.R_mono (Kd.R_told (Kd.R_told (Kd.R_old (rbW HO_455001.out) hb) (Kd.R_base ho0)) (Kd.R_base ho1)) (fun _ h_ => h_.1)); have n3_ := Aside0.mk (Kd.R_mono (Kd.R_told (Kd.R_told (Kd.R_old (rbW HO_463000.out) hb) (Kd.R_base ho0)) (Kd.R_base ho1)) (fun _ h_ => h_.1)); have n4_ := Aside0.mk (Kd.R_mono (Kd.R_told (Kd.R_told (Kd.R_old (rbW HO_463001.out) hb) (Kd.R_base ho0)) (Kd.R_base ho1)) (fun _ h_ => h_.1)); have n5_ := Aside0.mk (Kd.R_lower (Kd.R_new' (Kd.R_new' (Kd.R_new' (Kd.R_new' (Kd.R_new' ho0 (Kd.R_lt (rbW HO_5.out))) (Kd.R_lt (rbW HO_455000.out))) (Kd.R_lt (rbW HO_455001.out))) (Kd.R_lt (rbW HO_463000.out))) (Kd.R_lt (rbW HO_463001.out))) (below_size (by repeat (first | exact nbW HB.out | refine nbW (below_set ?_ GE454.out) | refine nbW (below_set ?_ GE462.out))))); have n6_ := Aside0.mk (Kd.R_lower (Kd.R_new' (Kd.R_new' (Kd.R_new' (Kd.R_new' (Kd.R_new' ho1 (Kd.R_lt (rbW HO_5.out))) (Kd.R_lt (rbW HO_455000.out))) (Kd.R_lt (rbW HO_455001.out))) (Kd.R_lt (rbW HO_463000.out))) (Kd.R_lt (rbW HO_463001.out))) (below_size (by repeat (first | exact nbW HB.out | refine nbW (below_set ?_ GE454.out) | refine nbW (below_set ?_ GE462.out))))); have n7_ := Aside0.mk (blk_below (g := gb454) (o := .cells #[.slice Ao13 t447.length co13, .slice Ao15 t450.length co15] 26 (0, 0)) (kbW BK454.out) hb); have n8_ := Aside0.mk (blk_below (g := gb462) (o := .cells #[.slice Ao18 t455.length co18, .slice Ao21 t458.length co21] 26 (0, 0)) (kbW BK462.out) hb); have n9_ := Aside0.mk (below_step (by repeat (first | exact nbW HB.out | refine nbW (below_set ?_ GE454.out) | refine nbW (below_set ?_ GE462.out))) hb); clear HO_5; clear HO_455000; clear HO_455001; clear HO_463000; clear HO_463001; clear BK454; clear BK462; clear HB; have HO_5 := n0_; have HO_455000 := n1_; have HO_455001 := n2_; have HO_463000 := n3_; have HO_463001 := n4_; have HO467 := n5_; have HO470 := n6_; have BK454 := n7_; have BK462 := n8_; have HB := n9_; clear n0_ n1_ n2_ n3_ n4_ n5_ n6_ n7_ n8_ n9_; (try clear hb); (try clear hb2); (try clear hk); (try clear hi); (try clear ho0); (try clear ho1)) | ((with_reducible refine gate_dst (N := 10) rfl ?_); (try (refine gate_guard (by rfl) ?_; dsimp only)); refine box_event ?hg (N := 10) ?hd (cs := #[.slice none 0 0, .slice none 0 0]) (t := 26) ?hr ?_; (case hd => rfl); (case hg => rfl); (case hr => first | (go_simp; done) | (go_simp; rfl)); intro gb471 hg w41 hbox hb; have n0_ := Aside0.mk (Kd.R_below (rbW HO_5.out) hb); have n1_ := Aside0.mk (Kd.R_below (rbW HO_455000.out) hb); have n2_ := Aside0.mk (Kd.R_below (rbW HO_455001.out) hb); have n3_ := Aside0.mk (Kd.R_below (rbW HO_463000.out) hb); have n4_ := Aside0.mk (Kd.R_below (rbW HO_463001.out) hb); have n5_ := Aside0.mk (Kd.R_below (rbW HO467.out) hb); have n6_ := Aside0.mk (Kd.R_below (rbW HO470.out) hb); have n7_ := Aside0.mk (blk_below (g := gb454) (o := .cells #[.slice Ao13 t447.length co13, .slice Ao15 t450.length co15] 26 (0, 0)) (kbW BK454.out) hb); have n8_ := Aside0.mk (blk_below (g := gb462) (o := .cells #[.slice Ao18 t455.length co18, .slice Ao21 t458.length co21] 26 (0, 0)) (kbW BK462.out) hb); have n9_ := Aside0.mk (below_step (by repeat (first | exact nbW HB.out | refine nbW (below_set ?_ GE454.out) | refine nbW (below_set ?_ GE462.out))) hb); have n10_ := Aside0.mk (hbox); have n11_ := Aside0.mk ((by rw [hg]; exact (below_size (by repeat (first | exact nbW HB.out | refine nbW (below_set ?_ GE454.out) | refine nbW (below_set ?_ GE462.out)))) : w.heap.size ≤ gb471)); have n12_ := Aside0.mk ((by rw [hg]; exact (below_size (by repeat (first | exact nbW HB.out | refine nbW (below_set ?_ GE454.out) | refine nbW (below_set ?_ GE462.out)))) : w.heap.size ≤ gb471)); have n13_ := Aside0.mk ((by rw [hg]; exact Nat.ne_of_lt (blk_lt (g := gb454) (o := .cells #[.slice Ao13 t447.length co13, .slice Ao15 t450.length co15] 26 (0, 0)) (kbW BK454.out)) : gb454 ≠ gb471)); have n14_ := Aside0.mk ((by rw [hg]; exact Nat.ne_of_gt (blk_lt (g := gb454) (o := .cells #[.slice Ao13 t447.length co13, .slice Ao15 t450.length co15] 26 (0, 0)) (kbW BK454.out)) : gb471 ≠ gb454)); have n15_ := Aside0.mk ((by rw [hg]; exact Nat.ne_of_lt (blk_lt (g := gb462) (o := .cells #[.slice Ao18 t455.length co18, .slice Ao21 t458.length co21] 26 (0, 0)) (kbW BK462.out)) : gb462 ≠ gb471)); have n16_ := Aside0.mk ((by rw [hg]; exact Nat.ne_of_gt (blk_lt (g := gb462) (o := .cells #[.slice Ao18 t455.length co18, .slice Ao21 t458.length co21] 26 (0, 0)) (kbW BK462.out)) : gb471 ≠ gb462)); clear HO_5; clear HO_455000; clear HO_455001; clear HO_463000; clear HO_463001; clear HO467; clear HO470; clear BK454; clear BK462; clear HB; have HO_5 := n0_; have HO_455000 := n1_; have HO_455001 := n2_; have HO_463000 := n3_; have HO_463001 := n4_; have HO467 := n5_; have HO470 := n6_; have BK454 := n7_; have BK462 := n8_; have HB := n9_; have BK471 := n10_; have GW471 := n11_; have GE471 := n12_; have NB454_471 := n13_; have NB471_454 := n14_; have NB462_471 := n15_; have NB471_462 := n16_; clear n0_ n1_ n2_ n3_ n4_ n5_ n6_ n7_ n8_ n9_ n10_ n11_ n12_ n13_ n14_ n15_ n16_; clear hb hbox hg; obtain ⟨Ao42, co42, eo42⟩ := Kd.R_slice HO467.out; subst eo42; have hnb43 := NB471_454.out; have hnc43 := NB454_471.out; have hnb44 := NB471_462.out; have hnc44 := NB462_471.out; have hcz45_0 : w41.cell? ⟨gb471, 0, none⟩ = some (.slice none 0 0) := (blk_cell BK471.out 0).trans rfl; have hcz45_1 : w41.cell? ⟨gb471, 1, none⟩ = some (.slice none 0 0) := (blk_cell BK471.out 1).trans rfl; have hfz45_0 := blk_frozen BK471.out 0; have hfz45_1 := blk_frozen BK471.out 1; obtain ⟨Ao46, co46, eo46⟩ := Kd.R_slice HO470.out; subst eo46) | ((with_reducible refine gate_callee (f := 37) rfl ?_); refine goesL_ (some 61) rfl rfl Try.func37 (by kernel_rfl) rfl #[.agg #[.slice Ao42 t465.length co42, .slice Ao46 t468.length co46]] rfl (by (try simp only [List.map_toArray, List.map_cons, List.map_nil]); first | done | rfl | (simp only [List.length_drop, List.length_take]; rfl)) ?_; (with_reducible refine (impl_ParkingOfWalk.calls kj7 _ _ t465 _ _ t468 t472 t475 _ ?side1 ?side2 ?side3 ?side4 A37.out).mono ?_); (case side1 => refine (Kd.R_reads' (e := 3) (base := w.heap.size) (ok := fun k_ => (((((some k_ ≠ (.slice Ao46 t468.length co46 : Value).ownBlock ∧ some k_ ≠ (.slice Ao10 t444.length co10 : Value).ownBlock) ∧ some k_ ≠ (.slice Ao13 t447.length co13 : Value).ownBlock) ∧ some k_ ≠ (.slice Ao15 t450.length co15 : Value).ownBlock) ∧ some k_ ≠ (.slice Ao18 t455.length co18 : Value).ownBlock) ∧ some k_ ≠ (.slice Ao21 t458.length co21 : Value).ownBlock)) (n := t465.length) (c := co42) ?_).2.2; exact (by apply rbW; exact (Kd.R_mono (Kd.R_far (p := ⟨gb471, 1, none⟩) (Kd.R_far (p := ⟨gb471, 0, none⟩) (Kd.R_types HO467.out BK471.out (by decide)) (fun _ hk => hk.2) (.slice Ao42 t465.length co42)) (fun _ hk => hk.2) (.slice Ao46 t468.length co46)) (fun _ h_ => h_.1)))); (case side2 => exact (Kd.R_reads' HO467.out).2.1); (case side3 => refine (Kd.R_reads' (e := 3) (base := w.heap.size) (ok := fun k_ => (((((some k_ ≠ (.slice Ao42 t465.length co42 : Value).ownBlock ∧ some k_ ≠ (.slice Ao10 t444.length co10 : Value).ownBlock) ∧ some k_ ≠ (.slice Ao13 t447.length co13 : Value).ownBlock) ∧ some k_ ≠ (.slice Ao15 t450.length co15 : Value).ownBlock) ∧ some k_ ≠ (.slice Ao18 t455.length co18 : Value).ownBlock) ∧ some k_ ≠ (.slice Ao21 t458.length co21 : Value).ownBlock)) (n := t468.length) (c := co46) ?_).2.2; exact (by apply rbW; exact (Kd.R_mono (Kd.R_far (p := ⟨gb471, 1, none⟩) (Kd.R_far (p := ⟨gb471, 0, none⟩) (Kd.R_types HO470.out BK471.out (by decide)) (fun _ hk => hk.2) (.slice Ao42 t465.length co42)) (fun _ hk => hk.2) (.slice Ao46 t468.length co46)) (fun _ h_ => h_.1)))); (case side4 => exact (Kd.R_reads' HO470.out).2.1); rintro e w47 ⟨v473, rfl, ho0, hb⟩; refine ⟨_, rfl, ?_⟩; have n0_ := Aside0.mk (Kd.R_elder' (by apply rbW; exact (Kd.R_mono (Kd.R_far (p := ⟨gb471, 1, none⟩) (Kd.R_far (p := ⟨gb471, 0, none⟩) (Kd.R_types HO_5.out BK471.out (by decide)) (fun _ hk => hk.2) (.slice Ao42 t465.length co42)) (fun _ hk => hk.2) (.slice Ao46 t468.length co46)) (fun _ h_ => h_.1))) (Kd.R_base ho0) hb); have n1_ := Aside0.mk (Kd.R_elder' (by apply rbW; exact (Kd.R_mono (Kd.R_far (p := ⟨gb471, 1, none⟩) (Kd.R_far (p := ⟨gb471, 0, none⟩) (Kd.R_types HO_455000.out BK471.out (by decide)) (fun _ hk => hk.2) (.slice Ao42 t465.length co42)) (fun _ hk => hk.2) (.slice Ao46 t468.length co46)) (fun _ h_ => h_.1))) (Kd.R_base ho0) hb); have n2_ := Aside0.mk (Kd.R_elder' (by apply rbW; exact (Kd.R_mono (Kd.R_far (p := ⟨gb471, 1, none⟩) (Kd.R_far (p := ⟨gb471, 0, none⟩) (Kd.R_types HO_455001.out BK471.out (by decide)) (fun _ hk => hk.2) (.slice Ao42 t465.length co42)) (fun _ hk => hk.2) (.slice Ao46 t468.length co46)) (fun _ h_ => h_.1))) (Kd.R_base ho0) hb); have n3_ := Aside0.mk (Kd.R_elder' (by apply rbW; exact (Kd.R_mono (Kd.R_far (p := ⟨gb471, 1, none⟩) (Kd.R_far (p := ⟨gb471, 0, none⟩) (Kd.R_types HO_463000.out BK471.out (by decide)) (fun _ hk => hk.2) (.slice Ao42 t465.length co42)) (fun _ hk => hk.2) (.slice Ao46 t468.length co46)) (fun _ h_ => h_.1))) (Kd.R_base ho0) hb); have n4_ := Aside0.mk (Kd.R_elder' (by apply rbW; exact (Kd.R_mono (Kd.R_far (p := ⟨gb471, 1, none⟩) (Kd.R_far (p := ⟨gb471, 0, none⟩) (Kd.R_types HO_463001.out BK471.out (by decide)) (fun _ hk => hk.2) (.slice Ao42 t465.length co42)) (fun _ hk => hk.2) (.slice Ao46 t468.length co46)) (fun _ h_ => h_.1))) (Kd.R_base ho0) hb); have n5_ := Aside0.mk (Kd.R_elder' (by apply rbW; exact (Kd.R_mono (Kd.R_far (p := ⟨gb471, 1, none⟩) (Kd.R_far (p := ⟨gb471, 0, none⟩) (Kd.R_types HO467.out BK471.out (by decide)) (fun _ hk => hk.2) (.slice Ao42 t465.length co42)) (fun _ hk => hk.2) (.slice Ao46 t468.length co46)) (fun _ h_ => h_.1))) (Kd.R_base ho0) hb); have n6_ := Aside0.mk (Kd.R_elder' (by apply rbW; exact (Kd.R_mono (Kd.R_far (p := ⟨gb471, 1, none⟩) (Kd.R_far (p := ⟨gb471, 0, none⟩) (Kd.R_types HO470.out BK471.out (by decide)) (fun _ hk => hk.2) (.slice Ao42 t465.length co42)) (fun _ hk => hk.2) (.slice Ao46 t468.length co46)) (fun _ h_ => h_.1))) (Kd.R_base ho0) hb); have n7_ := Aside0.mk (Kd.R_lower (Kd.R_new' (Kd.R_new' (Kd.R_new' (Kd.R_new' (Kd.R_new' (Kd.R_new' (Kd.R_new' ho0 (Kd.R_lt (by apply rbW; exact (Kd.R_mono (Kd.R_far (p := ⟨gb471, 1, none⟩) (Kd.R_far (p := ⟨gb471, 0, none⟩) (Kd.R_types HO_5.out BK471.out (by decide)) (fun _ hk => hk.2) (.slice Ao42 t465.length co42)) (fun _ hk => hk.2) (.slice Ao46 t468.length co46)) (fun _ h_ => h_.1))))) (Kd.R_lt (by apply rbW; exact (Kd.R_mono (Kd.R_far (p := ⟨gb471, 1, none⟩) (Kd.R_far (p := ⟨gb471, 0, none⟩) (Kd.R_types HO_455000.out BK471.out (by decide)) (fun _ hk => hk.2) (.slice Ao42 t465.length co42)) (fun _ hk => hk.2) (.slice Ao46 t468.length co46)) (fun _ h_ => h_.1))))) (Kd.R_lt (by apply rbW; exact (Kd.R_mono (Kd.R_far (p := ⟨gb471, 1, none⟩) (Kd.R_far (p := ⟨gb471, 0, none⟩) (Kd.R_types HO_455001.out BK471.out (by decide)) (fun _ hk => hk.2) (.slice Ao42 t465.length co42)) (fun _ hk => hk.2) (.slice Ao46 t468.length co46)) (fun _ h_ => h_.1))))) (Kd.R_lt (by apply rbW; exact (Kd.R_mono (Kd.R_far (p := ⟨gb471, 1, none⟩) (Kd.R_far (p := ⟨gb471, 0, none⟩) (Kd.R_types HO_463000.out BK471.out (by decide)) (fun _ hk => hk.2) (.slice Ao42 t465.length co42)) (fun _ hk => hk.2) (.slice Ao46 t468.length co46)) (fun _ h_ => h_.1))))) (Kd.R_lt (by apply rbW; exact (Kd.R_mono (Kd.R_far (p := ⟨gb471, 1, none⟩) (Kd.R_far (p := ⟨gb471, 0, none⟩) (Kd.R_types HO_463001.out BK471.out (by decide)) (fun _ hk => hk.2) (.slice Ao42 t465.length co42)) (fun _ hk => hk.2) (.slice Ao46 t468.length co46)) (fun _ h_ => h_.1))))) (Kd.R_lt (by apply rbW; exact (Kd.R_mono (Kd.R_far (p := ⟨gb471, 1, none⟩) (Kd.R_far (p := ⟨gb471, 0, none⟩) (Kd.R_types HO467.out BK471.out (by decide)) (fun _ hk => hk.2) (.slice Ao42 t465.length co42)) (fun _ hk => hk.2) (.slice Ao46 t468.length co46)) (fun _ h_ => h_.1))))) (Kd.R_lt (by apply rbW; exact (Kd.R_mono (Kd.R_far (p := ⟨gb471, 1, none⟩) (Kd.R_far (p := ⟨gb471, 0, none⟩) (Kd.R_types HO470.out BK471.out (by decide)) (fun _ hk => hk.2) (.slice Ao42 t465.length co42)) (fun _ hk => hk.2) (.slice Ao46 t468.length co46)) (fun _ h_ => h_.1))))) (below_size (by repeat (first | exact nbW HB.out | refine nbW (below_set ?_ GE454.out) | refine nbW (below_set ?_ GE462.out) | refine nbW (below_set ?_ GE471.out))))); have n8_ := Aside0.mk (blk_below (g := gb454) (o := .cells #[.slice Ao13 t447.length co13, .slice Ao15 t450.length co15] 26 (0, 0)) (by apply kbW; refine blk_far ?_ NB454_471.out _; apply kbW; refine blk_far ?_ NB454_471.out _; apply kbW; exact BK454.out) hb); have n9_ := Aside0.mk (blk_below (g := gb462) (o := .cells #[.slice Ao18 t455.length co18, .slice Ao21 t458.length co21] 26 (0, 0)) (by apply kbW; refine blk_far ?_ NB462_471.out _; apply kbW; refine blk_far ?_ NB462_471.out _; apply kbW; exact BK462.out) hb); have n10_ := Aside0.mk (blk_below (g := gb471) (o := .cells #[.slice Ao42 t465.length co42, .slice Ao46 t468.length co46] 26 (0, 0)) (by apply kbW; refine blk_put (cs := #[.slice Ao42 t465.length co42, .slice none 0 0]) ?_ 1 _ rfl; apply kbW; refine blk_put (cs := #[.slice none 0 0, .slice none 0 0]) ?_ 0 _ rfl; apply kbW; exact BK471.out) hb); have n11_ := Aside0.mk (below_step (by repeat (first | exact nbW HB.out | refine nbW (below_set ?_ GE454.out) | refine nbW (below_set ?_ GE462.out) | refine nbW (below_set ?_ GE471.out))) hb); clear HO_5; clear HO_455000; clear HO_455001; clear HO_463000; clear HO_463001; clear HO467; clear HO470; clear BK454; clear BK462; clear BK471; clear HB; have HO_5 := n0_; have HO_455000 := n1_; have HO_455001 := n2_; have HO_463000 := n3_; have HO_463001 := n4_; have HO467 := n5_; have HO470 := n6_; have HO474 := n7_; have BK454 := n8_; have BK462 := n9_; have BK471 := n10_; have HB := n11_; clear n0_ n1_ n2_ n3_ n4_ n5_ n6_ n7_ n8_ n9_ n10_ n11_; (try clear hb); (try clear hb2); (try clear hk); (try clear hi); (try clear ho0); have hcz48_0 : w47.cell? ⟨gb471, 0, none⟩ = some (.slice Ao42 t465.length co42) := (blk_cell BK471.out 0).trans rfl; have hcz48_1 : w47.cell? ⟨gb471, 1, none⟩ = some (.slice Ao46 t468.length co46) := (blk_cell BK471.out 1).trans rfl; have hfz48_0 := blk_frozen BK471.out 0; have hfz48_1 := blk_frozen BK471.out 1) | ((with_reducible refine gate_callee (f := 38) rfl ?_); refine goesL_ (some 66) rfl rfl Try.func38 (by kernel_rfl) rfl #[.agg #[.slice Ao42 t465.length co42, .slice Ao46 t468.length co46]] rfl (by (try simp only [List.map_toArray, List.map_cons, List.map_nil]); first | done | rfl | (simp only [List.length_drop, List.length_take]; rfl)) ?_; (with_reducible refine (spec_ParkingOfWalk.calls kj7 _ _ t465 _ _ t468 t476 t479 _ ?side1 ?side2 ?side3 ?side4 A38.out).mono ?_); (case side1 => exact cbW (Kd.R_reads' HO467.out).2.2); (case side2 => exact (Kd.R_reads' HO467.out).2.1); (case side3 => exact cbW (Kd.R_reads' HO470.out).2.2); (case side4 => exact (Kd.R_reads' HO470.out).2.1); rintro e w49 ⟨v477, rfl, ho0, hb⟩; refine ⟨_, rfl, ?_⟩; have n0_ := Aside0.mk (Kd.R_elder' (rbW HO_5.out) (Kd.R_base ho0) hb); have n1_ := Aside0.mk (Kd.R_elder' (rbW HO_455000.out) (Kd.R_base ho0) hb); have n2_ := Aside0.mk (Kd.R_elder' (rbW HO_455001.out) (Kd.R_base ho0) hb); have n3_ := Aside0.mk (Kd.R_elder' (rbW HO_463000.out) (Kd.R_base ho0) hb); have n4_ := Aside0.mk (Kd.R_elder' (rbW HO_463001.out) (Kd.R_base ho0) hb); have n5_ := Aside0.mk (Kd.R_elder' (rbW HO467.out) (Kd.R_base ho0) hb); have n6_ := Aside0.mk (Kd.R_elder' (rbW HO470.out) (Kd.R_base ho0) hb); have n7_ := Aside0.mk (Kd.R_elder' (rbW HO474.out) (Kd.R_base ho0) hb); have n8_ := Aside0.mk (Kd.R_lower (Kd.R_new' (Kd.R_new' (Kd.R_new' (Kd.R_new' (Kd.R_new' (Kd.R_new' (Kd.R_new' (Kd.R_new' ho0 (Kd.R_lt (rbW HO_5.out))) (Kd.R_lt (rbW HO_455000.out))) (Kd.R_lt (rbW HO_455001.out))) (Kd.R_lt (rbW HO_463000.out))) (Kd.R_lt (rbW HO_463001.out))) (Kd.R_lt (rbW HO467.out))) (Kd.R_lt (rbW HO470.out))) (Kd.R_lt (rbW HO474.out))) (below_size (by repeat (first | exact nbW HB.out | refine nbW (below_set ?_ GE454.out) | refine nbW (below_set ?_ GE462.out) | refine nbW (below_set ?_ GE471.out))))); have n9_ := Aside0.mk (blk_below (g := gb454) (o := .cells #[.slice Ao13 t447.length co13, .slice Ao15 t450.length co15] 26 (0, 0)) (kbW BK454.out) hb); have n10_ := Aside0.mk (blk_below (g := gb462) (o := .cells #[.slice Ao18 t455.length co18, .slice Ao21 t458.length co21] 26 (0, 0)) (kbW BK462.out) hb); have n11_ := Aside0.mk (blk_below (g := gb471) (o := .cells #[.slice Ao42 t465.length co42, .slice Ao46 t468.length co46] 26 (0, 0)) (kbW BK471.out) hb); have n12_ := Aside0.mk (below_step (by repeat (first | exact nbW HB.out | refine nbW (below_set ?_ GE454.out) | refine nbW (below_set ?_ GE462.out) | refine nbW (below_set ?_ GE471.out))) hb); clear HO_5; clear HO_455000; clear HO_455001; clear HO_463000; clear HO_463001; clear HO467; clear HO470; clear HO474; clear BK454; clear BK462; clear BK471; clear HB; have HO_5 := n0_; have HO_455000 := n1_; have HO_455001 := n2_; have HO_463000 := n3_; have HO_463001 := n4_; have HO467 := n5_; have HO470 := n6_; have HO474 := n7_; have HO478 := n8_; have BK454 := n9_; have BK462 := n10_; have BK471 := n11_; have HB := n12_; clear n0_ n1_ n2_ n3_ n4_ n5_ n6_ n7_ n8_ n9_ n10_ n11_ n12_; (try clear hb); (try clear hb2); (try clear hk); (try clear hi); (try clear ho0)))
       (try simp only [Act.put, List.setIfInBounds_toArray, List.set_cons_zero, List.set_cons_succ])
       go_cut [83] (fun v83 wc => ∃ (kq : Nat) (x83_38 : Bool), v83 = .bool x83_38 ∧ Aside0 (laws_FnParkingIsWalks.j1 kq t444 t461 t472 t475 x83_38 t447 t450 t465 t468 = some r) ∧ Aside0 (kq ≤ kj7) ∧ Aside0 (Kd.R (Kd.int .i64) 3 wc w.heap.size (fun k_ => some k_ ≠ (v473 : Value).ownBlock ∧ some k_ ≠ ((.slice Ao13 t447.length co13) : Value).ownBlock ∧ some k_ ≠ ((.slice Ao15 t450.length co15) : Value).ownBlock ∧ some k_ ≠ ((.slice Ao18 t455.length co18) : Value).ownBlock ∧ some k_ ≠ ((.slice Ao21 t458.length co21) : Value).ownBlock ∧ some k_ ≠ ((.slice Ao42 t465.length co42) : Value).ownBlock ∧ some k_ ≠ ((.slice Ao46 t468.length co46) : Value).ownBlock) (.slice Ao10 t444.length co10) t444) ∧ Aside0 (Kd.R (Kd.int .i64) 3 wc w.heap.size (fun k_ => some k_ ≠ ((.slice Ao10 t444.length co10) : Value).ownBlock ∧ some k_ ≠ ((.slice Ao13 t447.length co13) : Value).ownBlock ∧ some k_ ≠ ((.slice Ao15 t450.length co15) : Value).ownBlock ∧ some k_ ≠ ((.slice Ao18 t455.length co18) : Value).ownBlock ∧ some k_ ≠ ((.slice Ao21 t458.length co21) : Value).ownBlock ∧ some k_ ≠ ((.slice Ao42 t465.length co42) : Value).ownBlock ∧ some k_ ≠ ((.slice Ao46 t468.length co46) : Value).ownBlock) v473 t472) ∧ Aside0 (Kd.R (Kd.int .i64) 3 wc w.heap.size (fun k_ => some k_ ≠ ((.slice Ao10 t444.length co10) : Value).ownBlock ∧ some k_ ≠ (v473 : Value).ownBlock ∧ some k_ ≠ ((.slice Ao15 t450.length co15) : Value).ownBlock ∧ some k_ ≠ ((.slice Ao18 t455.length co18) : Value).ownBlock ∧ some k_ ≠ ((.slice Ao21 t458.length co21) : Value).ownBlock ∧ some k_ ≠ ((.slice Ao42 t465.length co42) : Value).ownBlock ∧ some k_ ≠ ((.slice Ao46 t468.length co46) : Value).ownBlock) (.slice Ao13 t447.length co13) t447) ∧ Aside0 (Kd.R (Kd.int .i64) 3 wc w.heap.size (fun k_ => some k_ ≠ ((.slice Ao10 t444.length co10) : Value).ownBlock ∧ some k_ ≠ (v473 : Value).ownBlock ∧ some k_ ≠ ((.slice Ao13 t447.length co13) : Value).ownBlock ∧ some k_ ≠ ((.slice Ao18 t455.length co18) : Value).ownBlock ∧ some k_ ≠ ((.slice Ao21 t458.length co21) : Value).ownBlock ∧ some k_ ≠ ((.slice Ao42 t465.length co42) : Value).ownBlock ∧ some k_ ≠ ((.slice Ao46 t468.length co46) : Value).ownBlock) (.slice Ao15 t450.length co15) t450) ∧ Aside0 (Kd.R (Kd.int .i64) 3 wc w.heap.size (fun k_ => some k_ ≠ ((.slice Ao10 t444.length co10) : Value).ownBlock ∧ some k_ ≠ (v473 : Value).ownBlock ∧ some k_ ≠ ((.slice Ao13 t447.length co13) : Value).ownBlock ∧ some k_ ≠ ((.slice Ao15 t450.length co15) : Value).ownBlock ∧ some k_ ≠ ((.slice Ao21 t458.length co21) : Value).ownBlock ∧ some k_ ≠ ((.slice Ao42 t465.length co42) : Value).ownBlock ∧ some k_ ≠ ((.slice Ao46 t468.length co46) : Value).ownBlock) (.slice Ao18 t455.length co18) t455) ∧ Aside0 (Kd.R (Kd.int .i64) 3 wc w.heap.size (fun k_ => some k_ ≠ ((.slice Ao10 t444.length co10) : Value).ownBlock ∧ some k_ ≠ (v473 : Value).ownBlock ∧ some k_ ≠ ((.slice Ao13 t447.length co13) : Value).ownBlock ∧ some k_ ≠ ((.slice Ao15 t450.length co15) : Value).ownBlock ∧ some k_ ≠ ((.slice Ao18 t455.length co18) : Value).ownBlock ∧ some k_ ≠ ((.slice Ao42 t465.length co42) : Value).ownBlock ∧ some k_ ≠ ((.slice Ao46 t468.length co46) : Value).ownBlock) (.slice Ao21 t458.length co21) t458) ∧ Aside0 (Kd.R (Kd.int .i64) 3 wc w.heap.size (fun k_ => some k_ ≠ ((.slice Ao10 t444.length co10) : Value).ownBlock ∧ some k_ ≠ (v473 : Value).ownBlock ∧ some k_ ≠ ((.slice Ao13 t447.length co13) : Value).ownBlock ∧ some k_ ≠ ((.slice Ao15 t450.length co15) : Value).ownBlock ∧ some k_ ≠ ((.slice Ao18 t455.length co18) : Value).ownBlock ∧ some k_ ≠ ((.slice Ao21 t458.length co21) : Value).ownBlock ∧ some k_ ≠ ((.slice Ao46 t468.length co46) : Value).ownBlock) (.slice Ao42 t465.length co42) t465) ∧ Aside0 (Kd.R (Kd.int .i64) 3 wc w.heap.size (fun k_ => some k_ ≠ ((.slice Ao10 t444.length co10) : Value).ownBlock ∧ some k_ ≠ (v473 : Value).ownBlock ∧ some k_ ≠ ((.slice Ao13 t447.length co13) : Value).ownBlock ∧ some k_ ≠ ((.slice Ao15 t450.length co15) : Value).ownBlock ∧ some k_ ≠ ((.slice Ao18 t455.length co18) : Value).ownBlock ∧ some k_ ≠ ((.slice Ao21 t458.length co21) : Value).ownBlock ∧ some k_ ≠ ((.slice Ao42 t465.length co42) : Value).ownBlock) (.slice Ao46 t468.length co46) t468) ∧ Aside0 (wc.heap[gb454]? = some (.cells #[(.slice Ao13 t447.length co13), (.slice Ao15 t450.length co15)] 26 (0, 0))) ∧ Aside0 (wc.heap[gb462]? = some (.cells #[(.slice Ao18 t455.length co18), (.slice Ao21 t458.length co21)] 26 (0, 0))) ∧ Aside0 (wc.heap[gb471]? = some (.cells #[(.slice Ao42 t465.length co42), (.slice Ao46 t468.length co46)] 26 (0, 0))) ∧ Aside0 (Below w.heap.size w wc))
       case first =>
        have H := HC39.out
        clear HC39
        by_cases c50 : (t475 != t479) = true
        ·rw [if_pos c50] at H
         have c50b0 : (t475 != t479) = true := c50
         (try (have c50b1 : decide (t475 = t479) = false := by simpa using c50))
         (try (have c50b2 : (t475 == t479) = false := by simpa using c50))
         (try (have c50b3 : ¬ (t475 = t479) := by simpa using c50))
         clear c50
         (first | rw [c50b0] | (simp only [i64_w, i32_w]; rw [c50b0]) | rw [c50b1] | skip)
         have H' := Aside0.mk H
         clear H
         go_wp2
         go_meet
         case rel => exact ⟨_, (true), (by first | rfl | (simp; done) | (simp [*]; done)), H', ⟨by have := HJ7.out; first | omega | exact Nat.le_refl _⟩, ⟨by apply rbW; exact Kd.R_mono HO_5.out (fun _ hk => ⟨hk.1.2, ⟨hk.1.1.1.1.1, ⟨hk.1.1.1.1.2.1, ⟨hk.1.1.1.1.2.2.1, ⟨hk.1.1.1.1.2.2.2, ⟨hk.1.1.1.2, hk.1.1.2⟩⟩⟩⟩⟩⟩)⟩, ⟨by apply rbW; exact Kd.R_mono HO474.out (fun _ hk => ⟨hk.1.1.1.1.1.1.1.2, ⟨hk.1.1.1.1.1.1.2, ⟨hk.1.1.1.1.1.2, ⟨hk.1.1.1.1.2, ⟨hk.1.1.1.2, ⟨hk.1.1.2, hk.1.2⟩⟩⟩⟩⟩⟩)⟩, ⟨by apply rbW; exact Kd.R_mono HO_455000.out (fun _ hk => ⟨hk.1.1.1.1.1, ⟨hk.1.2, ⟨hk.1.1.1.1.2.1, ⟨hk.1.1.1.1.2.2.1, ⟨hk.1.1.1.1.2.2.2, ⟨hk.1.1.1.2, hk.1.1.2⟩⟩⟩⟩⟩⟩)⟩, ⟨by apply rbW; exact Kd.R_mono HO_455001.out (fun _ hk => ⟨hk.1.1.1.1.1, ⟨hk.1.2, ⟨hk.1.1.1.1.2.1, ⟨hk.1.1.1.1.2.2.1, ⟨hk.1.1.1.1.2.2.2, ⟨hk.1.1.1.2, hk.1.1.2⟩⟩⟩⟩⟩⟩)⟩, ⟨by apply rbW; exact Kd.R_mono HO_463000.out (fun _ hk => ⟨hk.1.1.1.1.1, ⟨hk.1.2, ⟨hk.1.1.1.1.2.1, ⟨hk.1.1.1.1.2.2.1, ⟨hk.1.1.1.1.2.2.2, ⟨hk.1.1.1.2, hk.1.1.2⟩⟩⟩⟩⟩⟩)⟩, ⟨by apply rbW; exact Kd.R_mono HO_463001.out (fun _ hk => ⟨hk.1.1.1.1.1, ⟨hk.1.2, ⟨hk.1.1.1.1.2.1, ⟨hk.1.1.1.1.2.2.1, ⟨hk.1.1.1.1.2.2.2, ⟨hk.1.1.1.2, hk.1.1.2⟩⟩⟩⟩⟩⟩)⟩, ⟨by apply rbW; exact Kd.R_mono HO467.out (fun _ hk => ⟨hk.1.1.1.1.1.1.2, ⟨hk.1.2, ⟨hk.1.1.1.1.1.2, ⟨hk.1.1.1.1.2, ⟨hk.1.1.1.2, ⟨hk.1.1.2, hk.1.1.1.1.1.1.1⟩⟩⟩⟩⟩⟩)⟩, ⟨by apply rbW; exact Kd.R_mono HO470.out (fun _ hk => ⟨hk.1.1.1.1.1.1.2, ⟨hk.1.2, ⟨hk.1.1.1.1.1.2, ⟨hk.1.1.1.1.2, ⟨hk.1.1.1.2, ⟨hk.1.1.2, hk.1.1.1.1.1.1.1⟩⟩⟩⟩⟩⟩)⟩, ⟨by apply kbW; exact BK454.out⟩, ⟨by apply kbW; exact BK462.out⟩, ⟨by apply kbW; exact BK471.out⟩, ⟨by repeat (first | exact nbW HB.out | refine nbW (below_set ?_ GE454.out) | refine nbW (below_set ?_ GE462.out) | refine nbW (below_set ?_ GE471.out))⟩⟩
        ·rw [if_neg c50] at H
         have c50b0 : (t475 != t479) = false := by simpa using c50
         (try (have c50b1 : decide (t475 = t479) = true := by simpa using c50))
         (try (have c50b2 : (t475 == t479) = true := by simpa using c50))
         clear c50
         (first | rw [c50b0] | (simp only [i64_w, i32_w]; rw [c50b0]) | rw [c50b1] | skip)
         replace H := Option.bind_eq_some_iff.mp H
         obtain ⟨t480, A510, H⟩ := H
         replace H : (if t480 = true then ((impl_IsWalk.f kj7 t465 t468).bind fun t481 => (laws_FnParkingIsWalks.j1 kj7 t444 t461 t472 t475 (t475 != t481) t447 t450 t465 t468)) else (laws_FnParkingIsWalks.j1 kj7 t444 t461 t472 t475 true t447 t450 t465 t468)) = some r := H
         have A51 := Aside0.mk A510
         clear A510
         by_cases c52 : t480 = true
         ·subst c52
          have H1 : ((impl_IsWalk.f kj7 t465 t468).bind fun t481 => (laws_FnParkingIsWalks.j1 kj7 t444 t461 t472 t475 (t475 != t481) t447 t450 t465 t468)) = some r := by rw [if_pos rfl] at H; exact H
          clear H
          have H := H1
          clear H1
          replace H := Option.bind_eq_some_iff.mp H
          obtain ⟨t481, A530, H⟩ := H
          replace H : (laws_FnParkingIsWalks.j1 kj7 t444 t461 t472 t475 (t475 != t481) t447 t450 t465 t468) = some r := H
          have A53 := Aside0.mk A530
          clear A530
          have H' := Aside0.mk H
          clear H
          obtain ⟨Ao54, co54, eo54⟩ := Kd.R_slice HO474.out
          subst eo54
          obtain ⟨Ao55, co55, eo55⟩ := Kd.R_slice HO478.out
          subst eo55
          go_wp2_with (first | (go_at_call 15; (with_reducible refine (laws_wSame.calls kj7 _ _ t472 _ _ t476 true _ ?side1 ?side2 ?side3 ?side4 A51.out).mono ?_); (case side1 => exact cbW (Kd.R_reads' HO474.out).2.2); (case side2 => exact (Kd.R_reads' HO474.out).2.1); (case side3 => exact cbW (Kd.R_reads' HO478.out).2.2); (case side4 => exact (Kd.R_reads' HO478.out).2.1); rintro e w' ⟨rfl, ⟨nd, rfl⟩⟩; have hnb56 := NB471_454.out; have hnc56 := NB454_471.out; have hnb57 := NB471_462.out; have hnc57 := NB462_471.out; have hcz58_0 : w49.cell? ⟨gb471, 0, none⟩ = some (.slice Ao42 t465.length co42) := (blk_cell BK471.out 0).trans rfl; have hcz58_1 : w49.cell? ⟨gb471, 1, none⟩ = some (.slice Ao46 t468.length co46) := (blk_cell BK471.out 1).trans rfl; have hfz58_0 := blk_frozen BK471.out 0; have hfz58_1 := blk_frozen BK471.out 1) | (go_at_call 39; (with_reducible refine (impl_IsWalk.calls kj7 _ _ t465 _ _ t468 t481 _ ?side1 ?side2 ?side3 ?side4 A53.out).mono ?_); (case side1 => exact cbW (Kd.R_reads' HO467.out).2.2); (case side2 => exact (Kd.R_reads' HO467.out).2.1); (case side3 => exact cbW (Kd.R_reads' HO470.out).2.2); (case side4 => exact (Kd.R_reads' HO470.out).2.1); rintro e w59 ⟨rfl, hb⟩; have n0_ := Aside0.mk (Kd.R_below (rbW HO_5.out) hb); have n1_ := Aside0.mk (Kd.R_below (rbW HO_455000.out) hb); have n2_ := Aside0.mk (Kd.R_below (rbW HO_455001.out) hb); have n3_ := Aside0.mk (Kd.R_below (rbW HO_463000.out) hb); have n4_ := Aside0.mk (Kd.R_below (rbW HO_463001.out) hb); have n5_ := Aside0.mk (Kd.R_below (rbW HO467.out) hb); have n6_ := Aside0.mk (Kd.R_below (rbW HO470.out) hb); have n7_ := Aside0.mk (Kd.R_below (rbW HO474.out) hb); have n8_ := Aside0.mk (Kd.R_below (rbW HO478.out) hb); have n9_ := Aside0.mk (blk_below (g := gb454) (o := .cells #[.slice Ao13 t447.length co13, .slice Ao15 t450.length co15] 26 (0, 0)) (kbW BK454.out) hb); have n10_ := Aside0.mk (blk_below (g := gb462) (o := .cells #[.slice Ao18 t455.length co18, .slice Ao21 t458.length co21] 26 (0, 0)) (kbW BK462.out) hb); have n11_ := Aside0.mk (blk_below (g := gb471) (o := .cells #[.slice Ao42 t465.length co42, .slice Ao46 t468.length co46] 26 (0, 0)) (kbW BK471.out) hb); have n12_ := Aside0.mk (below_step (by repeat (first | exact nbW HB.out | refine nbW (below_set ?_ GE454.out) | refine nbW (below_set ?_ GE462.out) | refine nbW (below_set ?_ GE471.out))) hb); clear HO_5; clear HO_455000; clear HO_455001; clear HO_463000; clear HO_463001; clear HO467; clear HO470; clear HO474; clear HO478; clear BK454; clear BK462; clear BK471; clear HB; have HO_5 := n0_; have HO_455000 := n1_; have HO_455001 := n2_; have HO_463000 := n3_; have HO_463001 := n4_; have HO467 := n5_; have HO470 := n6_; have HO474 := n7_; have HO478 := n8_; have BK454 := n9_; have BK462 := n10_; have BK471 := n11_; have HB := n12_; clear n0_ n1_ n2_ n3_ n4_ n5_ n6_ n7_ n8_ n9_ n10_ n11_ n12_; (try clear hb); (try clear hb2); (try clear hk); (try clear hi)))
          go_meet
          case rel => exact ⟨_, ((t475 != t481)), (by first | rfl | (simp; done) | (simp [*]; done)), H', ⟨by have := HJ7.out; first | omega | exact Nat.le_refl _⟩, ⟨by apply rbW; exact Kd.R_mono HO_5.out (fun _ hk => ⟨hk.1.2, ⟨hk.1.1.1.1.1, ⟨hk.1.1.1.1.2.1, ⟨hk.1.1.1.1.2.2.1, ⟨hk.1.1.1.1.2.2.2, ⟨hk.1.1.1.2, hk.1.1.2⟩⟩⟩⟩⟩⟩)⟩, ⟨by apply rbW; exact Kd.R_mono HO474.out (fun _ hk => ⟨hk.1.1.1.1.1.1.1.2, ⟨hk.1.1.1.1.1.1.2, ⟨hk.1.1.1.1.1.2, ⟨hk.1.1.1.1.2, ⟨hk.1.1.1.2, ⟨hk.1.1.2, hk.1.2⟩⟩⟩⟩⟩⟩)⟩, ⟨by apply rbW; exact Kd.R_mono HO_455000.out (fun _ hk => ⟨hk.1.1.1.1.1, ⟨hk.1.2, ⟨hk.1.1.1.1.2.1, ⟨hk.1.1.1.1.2.2.1, ⟨hk.1.1.1.1.2.2.2, ⟨hk.1.1.1.2, hk.1.1.2⟩⟩⟩⟩⟩⟩)⟩, ⟨by apply rbW; exact Kd.R_mono HO_455001.out (fun _ hk => ⟨hk.1.1.1.1.1, ⟨hk.1.2, ⟨hk.1.1.1.1.2.1, ⟨hk.1.1.1.1.2.2.1, ⟨hk.1.1.1.1.2.2.2, ⟨hk.1.1.1.2, hk.1.1.2⟩⟩⟩⟩⟩⟩)⟩, ⟨by apply rbW; exact Kd.R_mono HO_463000.out (fun _ hk => ⟨hk.1.1.1.1.1, ⟨hk.1.2, ⟨hk.1.1.1.1.2.1, ⟨hk.1.1.1.1.2.2.1, ⟨hk.1.1.1.1.2.2.2, ⟨hk.1.1.1.2, hk.1.1.2⟩⟩⟩⟩⟩⟩)⟩, ⟨by apply rbW; exact Kd.R_mono HO_463001.out (fun _ hk => ⟨hk.1.1.1.1.1, ⟨hk.1.2, ⟨hk.1.1.1.1.2.1, ⟨hk.1.1.1.1.2.2.1, ⟨hk.1.1.1.1.2.2.2, ⟨hk.1.1.1.2, hk.1.1.2⟩⟩⟩⟩⟩⟩)⟩, ⟨by apply rbW; exact Kd.R_mono HO467.out (fun _ hk => ⟨hk.1.1.1.1.1.1.2, ⟨hk.1.2, ⟨hk.1.1.1.1.1.2, ⟨hk.1.1.1.1.2, ⟨hk.1.1.1.2, ⟨hk.1.1.2, hk.1.1.1.1.1.1.1⟩⟩⟩⟩⟩⟩)⟩, ⟨by apply rbW; exact Kd.R_mono HO470.out (fun _ hk => ⟨hk.1.1.1.1.1.1.2, ⟨hk.1.2, ⟨hk.1.1.1.1.1.2, ⟨hk.1.1.1.1.2, ⟨hk.1.1.1.2, ⟨hk.1.1.2, hk.1.1.1.1.1.1.1⟩⟩⟩⟩⟩⟩)⟩, ⟨by apply kbW; exact BK454.out⟩, ⟨by apply kbW; exact BK462.out⟩, ⟨by apply kbW; exact BK471.out⟩, ⟨by repeat (first | exact nbW HB.out | refine nbW (below_set ?_ GE454.out) | refine nbW (below_set ?_ GE462.out) | refine nbW (below_set ?_ GE471.out))⟩⟩
         ·replace c52 := Bool.eq_false_iff.mpr c52
          subst c52
          have H1 : (laws_FnParkingIsWalks.j1 kj7 t444 t461 t472 t475 true t447 t450 t465 t468) = some r := by rw [if_neg (show ¬ (false = true) by decide)] at H; exact H
          clear H
          have H := H1
          clear H1
          have H' := Aside0.mk H
          clear H
          obtain ⟨Ao60, co60, eo60⟩ := Kd.R_slice HO474.out
          subst eo60
          obtain ⟨Ao61, co61, eo61⟩ := Kd.R_slice HO478.out
          subst eo61
          go_wp2_with (first | (go_at_call 15; (with_reducible refine (laws_wSame.calls kj7 _ _ t472 _ _ t476 false _ ?side1 ?side2 ?side3 ?side4 A51.out).mono ?_); (case side1 => exact cbW (Kd.R_reads' HO474.out).2.2); (case side2 => exact (Kd.R_reads' HO474.out).2.1); (case side3 => exact cbW (Kd.R_reads' HO478.out).2.2); (case side4 => exact (Kd.R_reads' HO478.out).2.1); rintro e w' ⟨rfl, ⟨nd, rfl⟩⟩))
          go_meet
          case rel => exact ⟨_, (true), (by first | rfl | (simp; done) | (simp [*]; done)), H', ⟨by have := HJ7.out; first | omega | exact Nat.le_refl _⟩, ⟨by apply rbW; exact Kd.R_mono HO_5.out (fun _ hk => ⟨hk.1.2, ⟨hk.1.1.1.1.1, ⟨hk.1.1.1.1.2.1, ⟨hk.1.1.1.1.2.2.1, ⟨hk.1.1.1.1.2.2.2, ⟨hk.1.1.1.2, hk.1.1.2⟩⟩⟩⟩⟩⟩)⟩, ⟨by apply rbW; exact Kd.R_mono HO474.out (fun _ hk => ⟨hk.1.1.1.1.1.1.1.2, ⟨hk.1.1.1.1.1.1.2, ⟨hk.1.1.1.1.1.2, ⟨hk.1.1.1.1.2, ⟨hk.1.1.1.2, ⟨hk.1.1.2, hk.1.2⟩⟩⟩⟩⟩⟩)⟩, ⟨by apply rbW; exact Kd.R_mono HO_455000.out (fun _ hk => ⟨hk.1.1.1.1.1, ⟨hk.1.2, ⟨hk.1.1.1.1.2.1, ⟨hk.1.1.1.1.2.2.1, ⟨hk.1.1.1.1.2.2.2, ⟨hk.1.1.1.2, hk.1.1.2⟩⟩⟩⟩⟩⟩)⟩, ⟨by apply rbW; exact Kd.R_mono HO_455001.out (fun _ hk => ⟨hk.1.1.1.1.1, ⟨hk.1.2, ⟨hk.1.1.1.1.2.1, ⟨hk.1.1.1.1.2.2.1, ⟨hk.1.1.1.1.2.2.2, ⟨hk.1.1.1.2, hk.1.1.2⟩⟩⟩⟩⟩⟩)⟩, ⟨by apply rbW; exact Kd.R_mono HO_463000.out (fun _ hk => ⟨hk.1.1.1.1.1, ⟨hk.1.2, ⟨hk.1.1.1.1.2.1, ⟨hk.1.1.1.1.2.2.1, ⟨hk.1.1.1.1.2.2.2, ⟨hk.1.1.1.2, hk.1.1.2⟩⟩⟩⟩⟩⟩)⟩, ⟨by apply rbW; exact Kd.R_mono HO_463001.out (fun _ hk => ⟨hk.1.1.1.1.1, ⟨hk.1.2, ⟨hk.1.1.1.1.2.1, ⟨hk.1.1.1.1.2.2.1, ⟨hk.1.1.1.1.2.2.2, ⟨hk.1.1.1.2, hk.1.1.2⟩⟩⟩⟩⟩⟩)⟩, ⟨by apply rbW; exact Kd.R_mono HO467.out (fun _ hk => ⟨hk.1.1.1.1.1.1.2, ⟨hk.1.2, ⟨hk.1.1.1.1.1.2, ⟨hk.1.1.1.1.2, ⟨hk.1.1.1.2, ⟨hk.1.1.2, hk.1.1.1.1.1.1.1⟩⟩⟩⟩⟩⟩)⟩, ⟨by apply rbW; exact Kd.R_mono HO470.out (fun _ hk => ⟨hk.1.1.1.1.1.1.2, ⟨hk.1.2, ⟨hk.1.1.1.1.1.2, ⟨hk.1.1.1.1.2, ⟨hk.1.1.1.2, ⟨hk.1.1.2, hk.1.1.1.1.1.1.1⟩⟩⟩⟩⟩⟩)⟩, ⟨by apply kbW; exact BK454.out⟩, ⟨by apply kbW; exact BK462.out⟩, ⟨by apply kbW; exact BK471.out⟩, ⟨by repeat (first | exact nbW HB.out | refine nbW (below_set ?_ GE454.out) | refine nbW (below_set ?_ GE462.out) | refine nbW (below_set ?_ GE471.out))⟩⟩
       case rest =>
        clear HC39
        try clear c1
        try clear c2
        try clear p2
        try clear c3
        try clear c4
        try clear c5
        try clear c7
        try clear c19
        try clear c22
        try clear c22b0
        try clear c22b1
        try clear c22b2
        try clear c24
        try clear c26
        try clear c31
        try clear c32
        try clear c33
        try clear c35
        try clear c36
        try clear c37
        try clear c38
        try clear c43
        try clear c44
        try clear c50
        try clear c50b0
        try clear c50b1
        try clear c50b2
        try clear c52
        try clear c56
        try clear c57
        try clear hcz14_0
        try clear hcz14_1
        try clear hcz20_0
        try clear hcz20_1
        try clear hcz27_0
        try clear hcz27_1
        try clear hcz28_0
        try clear hcz28_1
        try clear hcz32_0
        try clear hcz32_1
        try clear hcz33_0
        try clear hcz33_1
        try clear hcz45_0
        try clear hcz45_1
        try clear hcz48_0
        try clear hcz48_1
        try clear hcz58_0
        try clear hcz58_1
        try clear hfz14_0
        try clear hfz14_1
        try clear hfz20_0
        try clear hfz20_1
        try clear hfz27_0
        try clear hfz27_1
        try clear hfz28_0
        try clear hfz28_1
        try clear hfz32_0
        try clear hfz32_1
        try clear hfz33_0
        try clear hfz33_1
        try clear hfz45_0
        try clear hfz45_1
        try clear hfz48_0
        try clear hfz48_1
        try clear hfz58_0
        try clear hfz58_1
        try clear p2
        obtain ⟨kq, x83_38, rfl, HA, HJ38, HO_5, HO_11, HO_455000, HO_455001, HO_463000, HO_463001, HO_472000, HO_472001, BK454, BK462, BK471, HB⟩ := hcut
        cases kq with
        | zero => exact absurd HA.out (by simp [laws_FnParkingIsWalks.j1])
        | succ kj38 =>
         have H := HA.out
         clear HA
         simp only [laws_FnParkingIsWalks.j1] at H
         by_cases c62 : x83_38 = true
         ·subst c62
          have H1 : (some false) = some r := by rw [if_pos rfl] at H; exact H
          clear H
          have H := H1
          clear H1
          obtain rfl := Option.some.inj H
          go_wp2
          go_ret
          exact ⟨by first | rfl | (simp [errW_none, errW_some] <;> rfl) | (simp [*, errW_none, errW_some] <;> rfl), by repeat (first | exact nbW HB.out | refine nbW (below_set ?_ GE454.out) | refine nbW (below_set ?_ GE462.out) | refine nbW (below_set ?_ GE471.out))⟩
         ·as_aux_lemma =>
           replace c62 := Bool.eq_false_iff.mpr c62
           subst c62
           have H1 : (if t475 = true then ((impl_WalkOfParking.f kj38 t472).bind fun bt482 => (if bt482.2.2 = true then ((laws_wSameWalk.f kj38 bt482.1 bt482.2.1 t465 t468).bind fun t490 => (if t490 = true then (laws_FnParkingIsWalks.j2 kj38 t444 t461 t447 t450) else (some false))) else (some false))) else (laws_FnParkingIsWalks.j2 kj38 t444 t461 t447 t450)) = some r := by rw [if_neg (show ¬ (false = true) by decide)] at H; exact H
           clear H
           have H := H1
           clear H1
           have HC63 := Aside0.mk H
           clear H
           go_upto_if 84 with (fail)
           go_cut [] (fun wc => ∃ (kq : Nat), Aside0 (laws_FnParkingIsWalks.j2 kq t444 t461 t447 t450 = some r) ∧ Aside0 (kq ≤ kj38) ∧ Aside0 (Kd.R (Kd.int .i64) 3 wc w.heap.size (fun k_ => some k_ ≠ ((.slice Ao13 t447.length co13) : Value).ownBlock ∧ some k_ ≠ ((.slice Ao15 t450.length co15) : Value).ownBlock ∧ some k_ ≠ ((.slice Ao18 t455.length co18) : Value).ownBlock ∧ some k_ ≠ ((.slice Ao21 t458.length co21) : Value).ownBlock ∧ some k_ ≠ ((.slice Ao42 t465.length co42) : Value).ownBlock ∧ some k_ ≠ ((.slice Ao46 t468.length co46) : Value).ownBlock) (.slice Ao10 t444.length co10) t444) ∧ Aside0 (Kd.R (Kd.int .i64) 3 wc w.heap.size (fun k_ => some k_ ≠ ((.slice Ao10 t444.length co10) : Value).ownBlock ∧ some k_ ≠ ((.slice Ao15 t450.length co15) : Value).ownBlock ∧ some k_ ≠ ((.slice Ao18 t455.length co18) : Value).ownBlock ∧ some k_ ≠ ((.slice Ao21 t458.length co21) : Value).ownBlock ∧ some k_ ≠ ((.slice Ao42 t465.length co42) : Value).ownBlock ∧ some k_ ≠ ((.slice Ao46 t468.length co46) : Value).ownBlock) (.slice Ao13 t447.length co13) t447) ∧ Aside0 (Kd.R (Kd.int .i64) 3 wc w.heap.size (fun k_ => some k_ ≠ ((.slice Ao10 t444.length co10) : Value).ownBlock ∧ some k_ ≠ ((.slice Ao13 t447.length co13) : Value).ownBlock ∧ some k_ ≠ ((.slice Ao18 t455.length co18) : Value).ownBlock ∧ some k_ ≠ ((.slice Ao21 t458.length co21) : Value).ownBlock ∧ some k_ ≠ ((.slice Ao42 t465.length co42) : Value).ownBlock ∧ some k_ ≠ ((.slice Ao46 t468.length co46) : Value).ownBlock) (.slice Ao15 t450.length co15) t450) ∧ Aside0 (Kd.R (Kd.int .i64) 3 wc w.heap.size (fun k_ => some k_ ≠ ((.slice Ao10 t444.length co10) : Value).ownBlock ∧ some k_ ≠ ((.slice Ao13 t447.length co13) : Value).ownBlock ∧ some k_ ≠ ((.slice Ao15 t450.length co15) : Value).ownBlock ∧ some k_ ≠ ((.slice Ao21 t458.length co21) : Value).ownBlock ∧ some k_ ≠ ((.slice Ao42 t465.length co42) : Value).ownBlock ∧ some k_ ≠ ((.slice Ao46 t468.length co46) : Value).ownBlock) (.slice Ao18 t455.length co18) t455) ∧ Aside0 (Kd.R (Kd.int .i64) 3 wc w.heap.size (fun k_ => some k_ ≠ ((.slice Ao10 t444.length co10) : Value).ownBlock ∧ some k_ ≠ ((.slice Ao13 t447.length co13) : Value).ownBlock ∧ some k_ ≠ ((.slice Ao15 t450.length co15) : Value).ownBlock ∧ some k_ ≠ ((.slice Ao18 t455.length co18) : Value).ownBlock ∧ some k_ ≠ ((.slice Ao42 t465.length co42) : Value).ownBlock ∧ some k_ ≠ ((.slice Ao46 t468.length co46) : Value).ownBlock) (.slice Ao21 t458.length co21) t458) ∧ Aside0 (Kd.R (Kd.int .i64) 3 wc w.heap.size (fun k_ => some k_ ≠ ((.slice Ao10 t444.length co10) : Value).ownBlock ∧ some k_ ≠ ((.slice Ao13 t447.length co13) : Value).ownBlock ∧ some k_ ≠ ((.slice Ao15 t450.length co15) : Value).ownBlock ∧ some k_ ≠ ((.slice Ao18 t455.length co18) : Value).ownBlock ∧ some k_ ≠ ((.slice Ao21 t458.length co21) : Value).ownBlock ∧ some k_ ≠ ((.slice Ao46 t468.length co46) : Value).ownBlock) (.slice Ao42 t465.length co42) t465) ∧ Aside0 (Kd.R (Kd.int .i64) 3 wc w.heap.size (fun k_ => some k_ ≠ ((.slice Ao10 t444.length co10) : Value).ownBlock ∧ some k_ ≠ ((.slice Ao13 t447.length co13) : Value).ownBlock ∧ some k_ ≠ ((.slice Ao15 t450.length co15) : Value).ownBlock ∧ some k_ ≠ ((.slice Ao18 t455.length co18) : Value).ownBlock ∧ some k_ ≠ ((.slice Ao21 t458.length co21) : Value).ownBlock ∧ some k_ ≠ ((.slice Ao42 t465.length co42) : Value).ownBlock) (.slice Ao46 t468.length co46) t468) ∧ Aside0 (wc.heap[gb454]? = some (.cells #[(.slice Ao13 t447.length co13), (.slice Ao15 t450.length co15)] 26 (0, 0))) ∧ Aside0 (wc.heap[gb462]? = some (.cells #[(.slice Ao18 t455.length co18), (.slice Ao21 t458.length co21)] 26 (0, 0))) ∧ Aside0 (wc.heap[gb471]? = some (.cells #[(.slice Ao42 t465.length co42), (.slice Ao46 t468.length co46)] 26 (0, 0))) ∧ Aside0 (Below w.heap.size w wc))
           case first =>
            have H := HC63.out
            clear HC63
            by_cases c64 : t475 = true
            ·subst c64
             have H1 : ((impl_WalkOfParking.f kj38 t472).bind fun bt482 => (if bt482.2.2 = true then ((laws_wSameWalk.f kj38 bt482.1 bt482.2.1 t465 t468).bind fun t490 => (if t490 = true then (laws_FnParkingIsWalks.j2 kj38 t444 t461 t447 t450) else (some false))) else (some false))) = some r := by rw [if_pos rfl] at H; exact H
             clear H
             have H := H1
             clear H1
             replace H := Option.bind_eq_some_iff.mp H
             obtain ⟨⟨t482, t485, t488⟩, A650, H⟩ := H
             replace H : (if t488 = true then ((laws_wSameWalk.f kj38 t482 t485 t465 t468).bind fun t490 => (if t490 = true then (laws_FnParkingIsWalks.j2 kj38 t444 t461 t447 t450) else (some false))) else (some false)) = some r := H
             have A65 := Aside0.mk A650
             clear A650
             by_cases c66 : t488 = true
             ·subst c66
              have H1 : ((laws_wSameWalk.f kj38 t482 t485 t465 t468).bind fun t490 => (if t490 = true then (laws_FnParkingIsWalks.j2 kj38 t444 t461 t447 t450) else (some false))) = some r := by rw [if_pos rfl] at H; exact H
              clear H
              have H := H1
              clear H1
              replace H := Option.bind_eq_some_iff.mp H
              obtain ⟨t490, A670, H⟩ := H
              replace H : (if t490 = true then (laws_FnParkingIsWalks.j2 kj38 t444 t461 t447 t450) else (some false)) = some r := H
              have A67 := Aside0.mk A670
              clear A670
              by_cases c68 : t490 = true
              ·subst c68
               have H1 : (laws_FnParkingIsWalks.j2 kj38 t444 t461 t447 t450) = some r := by rw [if_pos rfl] at H; exact H
               clear H
               have H := H1
               clear H1
               have H' := Aside0.mk H
               clear H
               obtain ⟨Ao69, co69, eo69⟩ := Kd.R_slice HO_11.out
               subst eo69
               go_wp2_with (first | ((with_reducible refine gate_callee (f := 32) rfl ?_); refine goesL_ (some 87) rfl rfl Try.func32 (by kernel_rfl) rfl #[.slice Ao69 t472.length co69] rfl (by (try simp only [List.map_toArray, List.map_cons, List.map_nil]); first | done | rfl | (simp only [List.length_drop, List.length_take]; rfl)) ?_; (with_reducible refine (impl_WalkOfParking.calls kj38 _ _ t472 t482 t485 true _ ?side1 ?side2 A65.out).mono ?_); (case side1 => exact cbW (Kd.R_reads' HO_11.out).2.2); (case side2 => exact (Kd.R_reads' HO_11.out).2.1); rintro e w70 ⟨v483, v486, rfl, ho0, ho1, hb⟩; refine ⟨_, rfl, ?_⟩; have n0_ := Aside0.mk (Kd.R_mono (Kd.R_told (Kd.R_told (Kd.R_old (rbW HO_5.out) hb) (Kd.R_base ho0)) (Kd.R_base ho1)) (fun _ h_ => h_.1)); have n1_ := Aside0.mk (Kd.R_mono (Kd.R_told (Kd.R_told (Kd.R_old (rbW HO_11.out) hb) (Kd.R_base ho0)) (Kd.R_base ho1)) (fun _ h_ => h_.1)); have n2_ := Aside0.mk (Kd.R_mono (Kd.R_told (Kd.R_told (Kd.R_old (rbW HO_455000.out) hb) (Kd.R_base ho0)) (Kd.R_base ho1)) (fun _ h_ => h_.1)); have n3_ := Aside0.mk (Kd.R_mono (Kd.R_told (Kd.R_told (Kd.R_old (rbW HO_455001.out) hb) (Kd.R_base ho0)) (Kd.R_base ho1)) (fun _ h_ => h_.1)); have n4_ := Aside0.mk (Kd.R_mono (Kd.R_told (Kd.R_told (Kd.R_old (rbW HO_463000.out) hb) (Kd.R_base ho0)) (Kd.R_base ho1)) (fun _ h_ => h_.1)); have n5_ := Aside0.mk (Kd.R_mono (Kd.R_told (Kd.R_told (Kd.R_old (rbW HO_463001.out) hb) (Kd.R_base ho0)) (Kd.R_base ho1)) (fun _ h_ => h_.1)); have n6_ := Aside0.mk (Kd.R_mono (Kd.R_told (Kd.R_told (Kd.R_old (rbW HO_472000.out) hb) (Kd.R_base ho0)) (Kd.R_base ho1)) (fun _ h_ => h_.1)); have n7_ := Aside0.mk (Kd.R_mono (Kd.R_told (Kd.R_told (Kd.R_old (rbW HO_472001.out) hb) (Kd.R_base ho0)) (Kd.R_base ho1)) (fun _ h_ => h_.1)); have n8_ := Aside0.mk (Kd.R_lower (Kd.R_new' (Kd.R_new' (Kd.R_new' (Kd.R_new' (Kd.R_new' (Kd.R_new' (Kd.R_new' (Kd.R_new' ho0 (Kd.R_lt (rbW HO_5.out))) (Kd.R_lt (rbW HO_11.out))) (Kd.R_lt (rbW HO_455000.out))) (Kd.R_lt (rbW HO_455001.out))) (Kd.R_lt (rbW HO_463000.out))) (Kd.R_lt (rbW HO_463001.out))) (Kd.R_lt (rbW HO_472000.out))) (Kd.R_lt (rbW HO_472001.out))) (below_size (by repeat (first | exact nbW HB.out | refine nbW (below_set ?_ GE454.out) | refine nbW (below_set ?_ GE462.out) | refine nbW (below_set ?_ GE471.out))))); have n9_ := Aside0.mk (Kd.R_lower (Kd.R_new' (Kd.R_new' (Kd.R_new' (Kd.R_new' (Kd.R_new' (Kd.R_new' (Kd.R_new' (Kd.R_new' ho1 (Kd.R_lt (rbW HO_5.out))) (Kd.R_lt (rbW HO_11.out))) (Kd.R_lt (rbW HO_455000.out))) (Kd.R_lt (rbW HO_455001.out))) (Kd.R_lt (rbW HO_463000.out))) (Kd.R_lt (rbW HO_463001.out))) (Kd.R_lt (rbW HO_472000.out))) (Kd.R_lt (rbW HO_472001.out))) (below_size (by repeat (first | exact nbW HB.out | refine nbW (below_set ?_ GE454.out) | refine nbW (below_set ?_ GE462.out) | refine nbW (below_set ?_ GE471.out))))); have n10_ := Aside0.mk (blk_below (g := gb454) (o := .cells #[.slice Ao13 t447.length co13, .slice Ao15 t450.length co15] 26 (0, 0)) (kbW BK454.out) hb); have n11_ := Aside0.mk (blk_below (g := gb462) (o := .cells #[.slice Ao18 t455.length co18, .slice Ao21 t458.length co21] 26 (0, 0)) (kbW BK462.out) hb); have n12_ := Aside0.mk (blk_below (g := gb471) (o := .cells #[.slice Ao42 t465.length co42, .slice Ao46 t468.length co46] 26 (0, 0)) (kbW BK471.out) hb); have n13_ := Aside0.mk (below_step (by repeat (first | exact nbW HB.out | refine nbW (below_set ?_ GE454.out) | refine nbW (below_set ?_ GE462.out) | refine nbW (below_set ?_ GE471.out))) hb); clear HO_5; clear HO_11; clear HO_455000; clear HO_455001; clear HO_463000; clear HO_463001; clear HO_472000; clear HO_472001; clear BK454; clear BK462; clear BK471; clear HB; have HO_5 := n0_; have HO_11 := n1_; have HO_455000 := n2_; have HO_455001 := n3_; have HO_463000 := n4_; have HO_463001 := n5_; have HO_472000 := n6_; have HO_472001 := n7_; have HO484 := n8_; have HO487 := n9_; have BK454 := n10_; have BK462 := n11_; have BK471 := n12_; have HB := n13_; clear n0_ n1_ n2_ n3_ n4_ n5_ n6_ n7_ n8_ n9_ n10_ n11_ n12_ n13_; (try clear hb); (try clear hb2); (try clear hk); (try clear hi); (try clear ho0); (try clear ho1)) | ((with_reducible refine gate_dst (N := 15) rfl ?_); (try (refine gate_guard (by rfl) ?_; dsimp only)); refine box_event ?hg (N := 15) ?hd (cs := #[.slice none 0 0, .slice none 0 0]) (t := 26) ?hr ?_; (case hd => rfl); (case hg => rfl); (case hr => first | (go_simp; done) | (go_simp; rfl)); intro gb489 hg w71 hbox hb; have n0_ := Aside0.mk (Kd.R_below (rbW HO_5.out) hb); have n1_ := Aside0.mk (Kd.R_below (rbW HO_11.out) hb); have n2_ := Aside0.mk (Kd.R_below (rbW HO_455000.out) hb); have n3_ := Aside0.mk (Kd.R_below (rbW HO_455001.out) hb); have n4_ := Aside0.mk (Kd.R_below (rbW HO_463000.out) hb); have n5_ := Aside0.mk (Kd.R_below (rbW HO_463001.out) hb); have n6_ := Aside0.mk (Kd.R_below (rbW HO_472000.out) hb); have n7_ := Aside0.mk (Kd.R_below (rbW HO_472001.out) hb); have n8_ := Aside0.mk (Kd.R_below (rbW HO484.out) hb); have n9_ := Aside0.mk (Kd.R_below (rbW HO487.out) hb); have n10_ := Aside0.mk (blk_below (g := gb454) (o := .cells #[.slice Ao13 t447.length co13, .slice Ao15 t450.length co15] 26 (0, 0)) (kbW BK454.out) hb); have n11_ := Aside0.mk (blk_below (g := gb462) (o := .cells #[.slice Ao18 t455.length co18, .slice Ao21 t458.length co21] 26 (0, 0)) (kbW BK462.out) hb); have n12_ := Aside0.mk (blk_below (g := gb471) (o := .cells #[.slice Ao42 t465.length co42, .slice Ao46 t468.length co46] 26 (0, 0)) (kbW BK471.out) hb); have n13_ := Aside0.mk (below_step (by repeat (first | exact nbW HB.out | refine nbW (below_set ?_ GE454.out) | refine nbW (below_set ?_ GE462.out) | refine nbW (below_set ?_ GE471.out))) hb); have n14_ := Aside0.mk (hbox); have n15_ := Aside0.mk ((by rw [hg]; exact (below_size (by repeat (first | exact nbW HB.out | refine nbW (below_set ?_ GE454.out) | refine nbW (below_set ?_ GE462.out) | refine nbW (below_set ?_ GE471.out)))) : w.heap.size ≤ gb489)); have n16_ := Aside0.mk ((by rw [hg]; exact (below_size (by repeat (first | exact nbW HB.out | refine nbW (below_set ?_ GE454.out) | refine nbW (below_set ?_ GE462.out) | refine nbW (below_set ?_ GE471.out)))) : w.heap.size ≤ gb489)); have n17_ := Aside0.mk ((by rw [hg]; exact Nat.ne_of_lt (blk_lt (g := gb454) (o := .cells #[.slice Ao13 t447.length co13, .slice Ao15 t450.length co15] 26 (0, 0)) (kbW BK454.out)) : gb454 ≠ gb489)); have n18_ := Aside0.mk ((by rw [hg]; exact Nat.ne_of_gt (blk_lt (g := gb454) (o := .cells #[.slice Ao13 t447.length co13, .slice Ao15 t450.length co15] 26 (0, 0)) (kbW BK454.out)) : gb489 ≠ gb454)); have n19_ := Aside0.mk ((by rw [hg]; exact Nat.ne_of_lt (blk_lt (g := gb462) (o := .cells #[.slice Ao18 t455.length co18, .slice Ao21 t458.length co21] 26 (0, 0)) (kbW BK462.out)) : gb462 ≠ gb489)); have n20_ := Aside0.mk ((by rw [hg]; exact Nat.ne_of_gt (blk_lt (g := gb462) (o := .cells #[.slice Ao18 t455.length co18, .slice Ao21 t458.length co21] 26 (0, 0)) (kbW BK462.out)) : gb489 ≠ gb462)); have n21_ := Aside0.mk ((by rw [hg]; exact Nat.ne_of_lt (blk_lt (g := gb471) (o := .cells #[.slice Ao42 t465.length co42, .slice Ao46 t468.length co46] 26 (0, 0)) (kbW BK471.out)) : gb471 ≠ gb489)); have n22_ := Aside0.mk ((by rw [hg]; exact Nat.ne_of_gt (blk_lt (g := gb471) (o := .cells #[.slice Ao42 t465.length co42, .slice Ao46 t468.length co46] 26 (0, 0)) (kbW BK471.out)) : gb489 ≠ gb471)); clear HO_5; clear HO_11; clear HO_455000; clear HO_455001; clear HO_463000; clear HO_463001; clear HO_472000; clear HO_472001; clear HO484; clear HO487; clear BK454; clear BK462; clear BK471; clear HB; have HO_5 := n0_; have HO_11 := n1_; have HO_455000 := n2_; have HO_455001 := n3_; have HO_463000 := n4_; have HO_463001 := n5_; have HO_472000 := n6_; have HO_472001 := n7_; have HO484 := n8_; have HO487 := n9_; have BK454 := n10_; have BK462 := n11_; have BK471 := n12_; have HB := n13_; have BK489 := n14_; have GW489 := n15_; have GE489 := n16_; have NB454_489 := n17_; have NB489_454 := n18_; have NB462_489 := n19_; have NB489_462 := n20_; have NB471_489 := n21_; have NB489_471 := n22_; clear n0_ n1_ n2_ n3_ n4_ n5_ n6_ n7_ n8_ n9_ n10_ n11_ n12_ n13_ n14_ n15_ n16_ n17_ n18_ n19_ n20_ n21_ n22_; clear hb hbox hg; obtain ⟨Ao72, co72, eo72⟩ := Kd.R_slice HO484.out; subst eo72; have hnb73 := NB489_454.out; have hnc73 := NB454_489.out; have hnb74 := NB489_462.out; have hnc74 := NB462_489.out; have hnb75 := NB489_471.out; have hnc75 := NB471_489.out; have hcz76_0 : w71.cell? ⟨gb489, 0, none⟩ = some (.slice none 0 0) := (blk_cell BK489.out 0).trans rfl; have hcz76_1 : w71.cell? ⟨gb489, 1, none⟩ = some (.slice none 0 0) := (blk_cell BK489.out 1).trans rfl; have hfz76_0 := blk_frozen BK489.out 0; have hfz76_1 := blk_frozen BK489.out 1; obtain ⟨Ao77, co77, eo77⟩ := Kd.R_slice HO487.out; subst eo77; have hnb78 := NB471_454.out; have hnc78 := NB454_471.out; have hnb79 := NB471_462.out; have hnc79 := NB462_471.out; have hcz80_0 : w71.cell? ⟨gb471, 0, none⟩ = some (.slice Ao42 t465.length co42) := (blk_cell BK471.out 0).trans rfl; have hcz80_1 : w71.cell? ⟨gb471, 1, none⟩ = some (.slice Ao46 t468.length co46) := (blk_cell BK471.out 1).trans rfl; have hfz80_0 := blk_frozen BK471.out 0; have hfz80_1 := blk_frozen BK471.out 1) | (go_at_call 34; (with_reducible refine (laws_wSameWalk.calls kj38 _ _ t482 _ _ t485 _ _ t465 _ _ t468 true _ ?side1 ?side2 ?side3 ?side4 ?side5 ?side6 ?side7 ?side8 A67.out).mono ?_); (case side1 => refine (Kd.R_reads' (e := 3) (base := w.heap.size) (ok := fun k_ => ((((((((some k_ ≠ (.slice Ao77 t485.length co77 : Value).ownBlock ∧ some k_ ≠ (.slice Ao10 t444.length co10 : Value).ownBlock) ∧ some k_ ≠ (.slice Ao69 t472.length co69 : Value).ownBlock) ∧ some k_ ≠ (.slice Ao13 t447.length co13 : Value).ownBlock) ∧ some k_ ≠ (.slice Ao15 t450.length co15 : Value).ownBlock) ∧ some k_ ≠ (.slice Ao18 t455.length co18 : Value).ownBlock) ∧ some k_ ≠ (.slice Ao21 t458.length co21 : Value).ownBlock) ∧ some k_ ≠ (.slice Ao42 t465.length co42 : Value).ownBlock) ∧ some k_ ≠ (.slice Ao46 t468.length co46 : Value).ownBlock)) (n := t482.length) (c := co72) ?_).2.2; exact (by apply rbW; exact (Kd.R_mono (Kd.R_far (p := ⟨gb489, 1, none⟩) (Kd.R_far (p := ⟨gb489, 0, none⟩) (Kd.R_types HO484.out BK489.out (by decide)) (fun _ hk => hk.2) (.slice Ao72 t482.length co72)) (fun _ hk => hk.2) (.slice Ao77 t485.length co77)) (fun _ h_ => h_.1)))); (case side2 => exact (Kd.R_reads' HO484.out).2.1); (case side3 => refine (Kd.R_reads' (e := 3) (base := w.heap.size) (ok := fun k_ => ((((((((some k_ ≠ (.slice Ao72 t482.length co72 : Value).ownBlock ∧ some k_ ≠ (.slice Ao10 t444.length co10 : Value).ownBlock) ∧ some k_ ≠ (.slice Ao69 t472.length co69 : Value).ownBlock) ∧ some k_ ≠ (.slice Ao13 t447.length co13 : Value).ownBlock) ∧ some k_ ≠ (.slice Ao15 t450.length co15 : Value).ownBlock) ∧ some k_ ≠ (.slice Ao18 t455.length co18 : Value).ownBlock) ∧ some k_ ≠ (.slice Ao21 t458.length co21 : Value).ownBlock) ∧ some k_ ≠ (.slice Ao42 t465.length co42 : Value).ownBlock) ∧ some k_ ≠ (.slice Ao46 t468.length co46 : Value).ownBlock)) (n := t485.length) (c := co77) ?_).2.2; exact (by apply rbW; exact (Kd.R_mono (Kd.R_far (p := ⟨gb489, 1, none⟩) (Kd.R_far (p := ⟨gb489, 0, none⟩) (Kd.R_types HO487.out BK489.out (by decide)) (fun _ hk => hk.2) (.slice Ao72 t482.length co72)) (fun _ hk => hk.2) (.slice Ao77 t485.length co77)) (fun _ h_ => h_.1)))); (case side4 => exact (Kd.R_reads' HO487.out).2.1); (case side5 => refine (Kd.R_reads' (e := 3) (base := w.heap.size) (ok := fun k_ => (((some k_ ≠ (.slice Ao10 t444.length co10 : Value).ownBlock ∧ (some k_ ≠ (.slice Ao69 t472.length co69 : Value).ownBlock ∧ (some k_ ≠ (.slice Ao13 t447.length co13 : Value).ownBlock ∧ (some k_ ≠ (.slice Ao15 t450.length co15 : Value).ownBlock ∧ (some k_ ≠ (.slice Ao18 t455.length co18 : Value).ownBlock ∧ (some k_ ≠ (.slice Ao21 t458.length co21 : Value).ownBlock ∧ some k_ ≠ (.slice Ao46 t468.length co46 : Value).ownBlock)))))) ∧ some k_ ≠ (.slice Ao72 t482.length co72 : Value).ownBlock) ∧ some k_ ≠ (.slice Ao77 t485.length co77 : Value).ownBlock)) (n := t465.length) (c := co42) ?_).2.2; exact (by apply rbW; exact (Kd.R_mono (Kd.R_far (p := ⟨gb489, 1, none⟩) (Kd.R_far (p := ⟨gb489, 0, none⟩) (Kd.R_types HO_472000.out BK489.out (by decide)) (fun _ hk => hk.2) (.slice Ao72 t482.length co72)) (fun _ hk => hk.2) (.slice Ao77 t485.length co77)) (fun _ h_ => h_.1)))); (case side6 => exact (Kd.R_reads' HO_472000.out).2.1); (case side7 => refine (Kd.R_reads' (e := 3) (base := w.heap.size) (ok := fun k_ => (((some k_ ≠ (.slice Ao10 t444.length co10 : Value).ownBlock ∧ (some k_ ≠ (.slice Ao69 t472.length co69 : Value).ownBlock ∧ (some k_ ≠ (.slice Ao13 t447.length co13 : Value).ownBlock ∧ (some k_ ≠ (.slice Ao15 t450.length co15 : Value).ownBlock ∧ (some k_ ≠ (.slice Ao18 t455.length co18 : Value).ownBlock ∧ (some k_ ≠ (.slice Ao21 t458.length co21 : Value).ownBlock ∧ some k_ ≠ (.slice Ao42 t465.length co42 : Value).ownBlock)))))) ∧ some k_ ≠ (.slice Ao72 t482.length co72 : Value).ownBlock) ∧ some k_ ≠ (.slice Ao77 t485.length co77 : Value).ownBlock)) (n := t468.length) (c := co46) ?_).2.2; exact (by apply rbW; exact (Kd.R_mono (Kd.R_far (p := ⟨gb489, 1, none⟩) (Kd.R_far (p := ⟨gb489, 0, none⟩) (Kd.R_types HO_472001.out BK489.out (by decide)) (fun _ hk => hk.2) (.slice Ao72 t482.length co72)) (fun _ hk => hk.2) (.slice Ao77 t485.length co77)) (fun _ h_ => h_.1)))); (case side8 => exact (Kd.R_reads' HO_472001.out).2.1); rintro e w81 ⟨rfl, hb⟩; have n0_ := Aside0.mk (Kd.R_below (by apply rbW; exact (Kd.R_mono (Kd.R_far (p := ⟨gb489, 1, none⟩) (Kd.R_far (p := ⟨gb489, 0, none⟩) (Kd.R_types HO_5.out BK489.out (by decide)) (fun _ hk => hk.2) (.slice Ao72 t482.length co72)) (fun _ hk => hk.2) (.slice Ao77 t485.length co77)) (fun _ h_ => h_.1))) hb); have n1_ := Aside0.mk (Kd.R_below (by apply rbW; exact (Kd.R_mono (Kd.R_far (p := ⟨gb489, 1, none⟩) (Kd.R_far (p := ⟨gb489, 0, none⟩) (Kd.R_types HO_11.out BK489.out (by decide)) (fun _ hk => hk.2) (.slice Ao72 t482.length co72)) (fun _ hk => hk.2) (.slice Ao77 t485.length co77)) (fun _ h_ => h_.1))) hb); have n2_ := Aside0.mk (Kd.R_below (by apply rbW; exact (Kd.R_mono (Kd.R_far (p := ⟨gb489, 1, none⟩) (Kd.R_far (p := ⟨gb489, 0, none⟩) (Kd.R_types HO_455000.out BK489.out (by decide)) (fun _ hk => hk.2) (.slice Ao72 t482.length co72)) (fun _ hk => hk.2) (.slice Ao77 t485.length co77)) (fun _ h_ => h_.1))) hb); have n3_ := Aside0.mk (Kd.R_below (by apply rbW; exact (Kd.R_mono (Kd.R_far (p := ⟨gb489, 1, none⟩) (Kd.R_far (p := ⟨gb489, 0, none⟩) (Kd.R_types HO_455001.out BK489.out (by decide)) (fun _ hk => hk.2) (.slice Ao72 t482.length co72)) (fun _ hk => hk.2) (.slice Ao77 t485.length co77)) (fun _ h_ => h_.1))) hb); have n4_ := Aside0.mk (Kd.R_below (by apply rbW; exact (Kd.R_mono (Kd.R_far (p := ⟨gb489, 1, none⟩) (Kd.R_far (p := ⟨gb489, 0, none⟩) (Kd.R_types HO_463000.out BK489.out (by decide)) (fun _ hk => hk.2) (.slice Ao72 t482.length co72)) (fun _ hk => hk.2) (.slice Ao77 t485.length co77)) (fun _ h_ => h_.1))) hb); have n5_ := Aside0.mk (Kd.R_below (by apply rbW; exact (Kd.R_mono (Kd.R_far (p := ⟨gb489, 1, none⟩) (Kd.R_far (p := ⟨gb489, 0, none⟩) (Kd.R_types HO_463001.out BK489.out (by decide)) (fun _ hk => hk.2) (.slice Ao72 t482.length co72)) (fun _ hk => hk.2) (.slice Ao77 t485.length co77)) (fun _ h_ => h_.1))) hb); have n6_ := Aside0.mk (Kd.R_below (by apply rbW; exact (Kd.R_mono (Kd.R_far (p := ⟨gb489, 1, none⟩) (Kd.R_far (p := ⟨gb489, 0, none⟩) (Kd.R_types HO_472000.out BK489.out (by decide)) (fun _ hk => hk.2) (.slice Ao72 t482.length co72)) (fun _ hk => hk.2) (.slice Ao77 t485.length co77)) (fun _ h_ => h_.1))) hb); have n7_ := Aside0.mk (Kd.R_below (by apply rbW; exact (Kd.R_mono (Kd.R_far (p := ⟨gb489, 1, none⟩) (Kd.R_far (p := ⟨gb489, 0, none⟩) (Kd.R_types HO_472001.out BK489.out (by decide)) (fun _ hk => hk.2) (.slice Ao72 t482.length co72)) (fun _ hk => hk.2) (.slice Ao77 t485.length co77)) (fun _ h_ => h_.1))) hb); have n8_ := Aside0.mk (Kd.R_below (by apply rbW; exact (Kd.R_mono (Kd.R_far (p := ⟨gb489, 1, none⟩) (Kd.R_far (p := ⟨gb489, 0, none⟩) (Kd.R_types HO484.out BK489.out (by decide)) (fun _ hk => hk.2) (.slice Ao72 t482.length co72)) (fun _ hk => hk.2) (.slice Ao77 t485.length co77)) (fun _ h_ => h_.1))) hb); have n9_ := Aside0.mk (Kd.R_below (by apply rbW; exact (Kd.R_mono (Kd.R_far (p := ⟨gb489, 1, none⟩) (Kd.R_far (p := ⟨gb489, 0, none⟩) (Kd.R_types HO487.out BK489.out (by decide)) (fun _ hk => hk.2) (.slice Ao72 t482.length co72)) (fun _ hk => hk.2) (.slice Ao77 t485.length co77)) (fun _ h_ => h_.1))) hb); have n10_ := Aside0.mk (blk_below (g := gb454) (o := .cells #[.slice Ao13 t447.length co13, .slice Ao15 t450.length co15] 26 (0, 0)) (by apply kbW; refine blk_far ?_ NB454_489.out _; apply kbW; refine blk_far ?_ NB454_489.out _; apply kbW; exact BK454.out) hb); have n11_ := Aside0.mk (blk_below (g := gb462) (o := .cells #[.slice Ao18 t455.length co18, .slice Ao21 t458.length co21] 26 (0, 0)) (by apply kbW; refine blk_far ?_ NB462_489.out _; apply kbW; refine blk_far ?_ NB462_489.out _; apply kbW; exact BK462.out) hb); have n12_ := Aside0.mk (blk_below (g := gb471) (o := .cells #[.slice Ao42 t465.length co42, .slice Ao46 t468.length co46] 26 (0, 0)) (by apply kbW; refine blk_far ?_ NB471_489.out _; apply kbW; refine blk_far ?_ NB471_489.out _; apply kbW; exact BK471.out) hb); have n13_ := Aside0.mk (blk_below (g := gb489) (o := .cells #[.slice Ao72 t482.length co72, .slice Ao77 t485.length co77] 26 (0, 0)) (by apply kbW; refine blk_put (cs := #[.slice Ao72 t482.length co72, .slice none 0 0]) ?_ 1 _ rfl; apply kbW; refine blk_put (cs := #[.slice none 0 0, .slice none 0 0]) ?_ 0 _ rfl; apply kbW; exact BK489.out) hb); have n14_ := Aside0.mk (below_step (by repeat (first | exact nbW HB.out | refine nbW (below_set ?_ GE454.out) | refine nbW (below_set ?_ GE462.out) | refine nbW (below_set ?_ GE471.out) | refine nbW (below_set ?_ GE489.out))) hb); clear HO_5; clear HO_11; clear HO_455000; clear HO_455001; clear HO_463000; clear HO_463001; clear HO_472000; clear HO_472001; clear HO484; clear HO487; clear BK454; clear BK462; clear BK471; clear BK489; clear HB; have HO_5 := n0_; have HO_11 := n1_; have HO_455000 := n2_; have HO_455001 := n3_; have HO_463000 := n4_; have HO_463001 := n5_; have HO_472000 := n6_; have HO_472001 := n7_; have HO484 := n8_; have HO487 := n9_; have BK454 := n10_; have BK462 := n11_; have BK471 := n12_; have BK489 := n13_; have HB := n14_; clear n0_ n1_ n2_ n3_ n4_ n5_ n6_ n7_ n8_ n9_ n10_ n11_ n12_ n13_ n14_; (try clear hb); (try clear hb2); (try clear hk); (try clear hi)))
               go_meet
               case rel => exact ⟨_, H', ⟨by have := HJ7.out; have := HJ38.out; first | omega | exact Nat.le_refl _⟩, ⟨by apply rbW; exact Kd.R_mono HO_5.out (fun _ hk => ⟨hk.1.1.2.1, ⟨hk.1.1.2.2.1, ⟨hk.1.1.2.2.2.1, ⟨hk.1.1.2.2.2.2.1, ⟨hk.1.1.2.2.2.2.2.1, hk.1.1.2.2.2.2.2.2⟩⟩⟩⟩⟩)⟩, ⟨by apply rbW; exact Kd.R_mono HO_455000.out (fun _ hk => ⟨hk.1.1.1, ⟨hk.1.1.2.2.1, ⟨hk.1.1.2.2.2.1, ⟨hk.1.1.2.2.2.2.1, ⟨hk.1.1.2.2.2.2.2.1, hk.1.1.2.2.2.2.2.2⟩⟩⟩⟩⟩)⟩, ⟨by apply rbW; exact Kd.R_mono HO_455001.out (fun _ hk => ⟨hk.1.1.1, ⟨hk.1.1.2.2.1, ⟨hk.1.1.2.2.2.1, ⟨hk.1.1.2.2.2.2.1, ⟨hk.1.1.2.2.2.2.2.1, hk.1.1.2.2.2.2.2.2⟩⟩⟩⟩⟩)⟩, ⟨by apply rbW; exact Kd.R_mono HO_463000.out (fun _ hk => ⟨hk.1.1.1, ⟨hk.1.1.2.2.1, ⟨hk.1.1.2.2.2.1, ⟨hk.1.1.2.2.2.2.1, ⟨hk.1.1.2.2.2.2.2.1, hk.1.1.2.2.2.2.2.2⟩⟩⟩⟩⟩)⟩, ⟨by apply rbW; exact Kd.R_mono HO_463001.out (fun _ hk => ⟨hk.1.1.1, ⟨hk.1.1.2.2.1, ⟨hk.1.1.2.2.2.1, ⟨hk.1.1.2.2.2.2.1, ⟨hk.1.1.2.2.2.2.2.1, hk.1.1.2.2.2.2.2.2⟩⟩⟩⟩⟩)⟩, ⟨by apply rbW; exact Kd.R_mono HO_472000.out (fun _ hk => ⟨hk.1.1.1, ⟨hk.1.1.2.2.1, ⟨hk.1.1.2.2.2.1, ⟨hk.1.1.2.2.2.2.1, ⟨hk.1.1.2.2.2.2.2.1, hk.1.1.2.2.2.2.2.2⟩⟩⟩⟩⟩)⟩, ⟨by apply rbW; exact Kd.R_mono HO_472001.out (fun _ hk => ⟨hk.1.1.1, ⟨hk.1.1.2.2.1, ⟨hk.1.1.2.2.2.1, ⟨hk.1.1.2.2.2.2.1, ⟨hk.1.1.2.2.2.2.2.1, hk.1.1.2.2.2.2.2.2⟩⟩⟩⟩⟩)⟩, ⟨by apply kbW; exact BK454.out⟩, ⟨by apply kbW; exact BK462.out⟩, ⟨by apply kbW; exact BK471.out⟩, ⟨by repeat (first | exact nbW HB.out | refine nbW (below_set ?_ GE454.out) | refine nbW (below_set ?_ GE462.out) | refine nbW (below_set ?_ GE471.out) | refine nbW (below_set ?_ GE489.out))⟩⟩
              ·replace c68 := Bool.eq_false_iff.mpr c68
               subst c68
               have H1 : (some false) = some r := by rw [if_neg (show ¬ (false = true) by decide)] at H; exact H
               clear H
               have H := H1
               clear H1
               obtain rfl := Option.some.inj H
               obtain ⟨Ao82, co82, eo82⟩ := Kd.R_slice HO_11.out
               subst eo82
               go_wp2_with (first | ((with_reducible refine gate_callee (f := 32) rfl ?_); refine goesL_ (some 87) rfl rfl Try.func32 (by kernel_rfl) rfl #[.slice Ao82 t472.length co82] rfl (by (try simp only [List.map_toArray, List.map_cons, List.map_nil]); first | done | rfl | (simp only [List.length_drop, List.length_take]; rfl)) ?_; (with_reducible refine (impl_WalkOfParking.calls kj38 _ _ t472 t482 t485 true _ ?side1 ?side2 A65.out).mono ?_); (case side1 => exact cbW (Kd.R_reads' HO_11.out).2.2); (case side2 => exact (Kd.R_reads' HO_11.out).2.1); rintro e w83 ⟨v483, v486, rfl, ho0, ho1, hb⟩; refine ⟨_, rfl, ?_⟩; have n0_ := Aside0.mk (Kd.R_mono (Kd.R_told (Kd.R_told (Kd.R_old (rbW HO_5.out) hb) (Kd.R_base ho0)) (Kd.R_base ho1)) (fun _ h_ => h_.1)); have n1_ := Aside0.mk (Kd.R_mono (Kd.R_told (Kd.R_told (Kd.R_old (rbW HO_11.out) hb) (Kd.R_base ho0)) (Kd.R_base ho1)) (fun _ h_ => h_.1)); have n2_ := Aside0.mk (Kd.R_mono (Kd.R_told (Kd.R_told (Kd.R_old (rbW HO_455000.out) hb) (Kd.R_base ho0)) (Kd.R_base ho1)) (fun _ h_ => h_.1)); have n3_ := Aside0.mk (Kd.R_mono (Kd.R_told (Kd.R_told (Kd.R_old (rbW HO_455001.out) hb) (Kd.R_base ho0)) (Kd.R_base ho1)) (fun _ h_ => h_.1)); have n4_ := Aside0.mk (Kd.R_mono (Kd.R_told (Kd.R_told (Kd.R_old (rbW HO_463000.out) hb) (Kd.R_base ho0)) (Kd.R_base ho1)) (fun _ h_ => h_.1)); have n5_ := Aside0.mk (Kd.R_mono (Kd.R_told (Kd.R_told (Kd.R_old (rbW HO_463001.out) hb) (Kd.R_base ho0)) (Kd.R_base ho1)) (fun _ h_ => h_.1)); have n6_ := Aside0.mk (Kd.R_mono (Kd.R_told (Kd.R_told (Kd.R_old (rbW HO_472000.out) hb) (Kd.R_base ho0)) (Kd.R_base ho1)) (fun _ h_ => h_.1)); have n7_ := Aside0.mk (Kd.R_mono (Kd.R_told (Kd.R_told (Kd.R_old (rbW HO_472001.out) hb) (Kd.R_base ho0)) (Kd.R_base ho1)) (fun _ h_ => h_.1)); have n8_ := Aside0.mk (Kd.R_lower (Kd.R_new' (Kd.R_new' (Kd.R_new' (Kd.R_new' (Kd.R_new' (Kd.R_new' (Kd.R_new' (Kd.R_new' ho0 (Kd.R_lt (rbW HO_5.out))) (Kd.R_lt (rbW HO_11.out))) (Kd.R_lt (rbW HO_455000.out))) (Kd.R_lt (rbW HO_455001.out))) (Kd.R_lt (rbW HO_463000.out))) (Kd.R_lt (rbW HO_463001.out))) (Kd.R_lt (rbW HO_472000.out))) (Kd.R_lt (rbW HO_472001.out))) (below_size (by repeat (first | exact nbW HB.out | refine nbW (below_set ?_ GE454.out) | refine nbW (below_set ?_ GE462.out) | refine nbW (below_set ?_ GE471.out))))); have n9_ := Aside0.mk (Kd.R_lower (Kd.R_new' (Kd.R_new' (Kd.R_new' (Kd.R_new' (Kd.R_new' (Kd.R_new' (Kd.R_new' (Kd.R_new' ho1 (Kd.R_lt (rbW HO_5.out))) (Kd.R_lt (rbW HO_11.out))) (Kd.R_lt (rbW HO_455000.out))) (Kd.R_lt (rbW HO_455001.out))) (Kd.R_lt (rbW HO_463000.out))) (Kd.R_lt (rbW HO_463001.out))) (Kd.R_lt (rbW HO_472000.out))) (Kd.R_lt (rbW HO_472001.out))) (below_size (by repeat (first | exact nbW HB.out | refine nbW (below_set ?_ GE454.out) | refine nbW (below_set ?_ GE462.out) | refine nbW (below_set ?_ GE471.out))))); have n10_ := Aside0.mk (blk_below (g := gb454) (o := .cells #[.slice Ao13 t447.length co13, .slice Ao15 t450.length co15] 26 (0, 0)) (kbW BK454.out) hb); have n11_ := Aside0.mk (blk_below (g := gb462) (o := .cells #[.slice Ao18 t455.length co18, .slice Ao21 t458.length co21] 26 (0, 0)) (kbW BK462.out) hb); have n12_ := Aside0.mk (blk_below (g := gb471) (o := .cells #[.slice Ao42 t465.length co42, .slice Ao46 t468.length co46] 26 (0, 0)) (kbW BK471.out) hb); have n13_ := Aside0.mk (below_step (by repeat (first | exact nbW HB.out | refine nbW (below_set ?_ GE454.out) | refine nbW (below_set ?_ GE462.out) | refine nbW (below_set ?_ GE471.out))) hb); clear HO_5; clear HO_11; clear HO_455000; clear HO_455001; clear HO_463000; clear HO_463001; clear HO_472000; clear HO_472001; clear BK454; clear BK462; clear BK471; clear HB; have HO_5 := n0_; have HO_11 := n1_; have HO_455000 := n2_; have HO_455001 := n3_; have HO_463000 := n4_; have HO_463001 := n5_; have HO_472000 := n6_; have HO_472001 := n7_; have HO484 := n8_; have HO487 := n9_; have BK454 := n10_; have BK462 := n11_; have BK471 := n12_; have HB := n13_; clear n0_ n1_ n2_ n3_ n4_ n5_ n6_ n7_ n8_ n9_ n10_ n11_ n12_ n13_; (try clear hb); (try clear hb2); (try clear hk); (try clear hi); (try clear ho0); (try clear ho1)) | ((with_reducible refine gate_dst (N := 15) rfl ?_); (try (refine gate_guard (by rfl) ?_; dsimp only)); refine box_event ?hg (N := 15) ?hd (cs := #[.slice none 0 0, .slice none 0 0]) (t := 26) ?hr ?_; (case hd => rfl); (case hg => rfl); (case hr => first | (go_simp; done) | (go_simp; rfl)); intro gb489 hg w84 hbox hb; have n0_ := Aside0.mk (Kd.R_below (rbW HO_5.out) hb); have n1_ := Aside0.mk (Kd.R_below (rbW HO_11.out) hb); have n2_ := Aside0.mk (Kd.R_below (rbW HO_455000.out) hb); have n3_ := Aside0.mk (Kd.R_below (rbW HO_455001.out) hb); have n4_ := Aside0.mk (Kd.R_below (rbW HO_463000.out) hb); have n5_ := Aside0.mk (Kd.R_below (rbW HO_463001.out) hb); have n6_ := Aside0.mk (Kd.R_below (rbW HO_472000.out) hb); have n7_ := Aside0.mk (Kd.R_below (rbW HO_472001.out) hb); have n8_ := Aside0.mk (Kd.R_below (rbW HO484.out) hb); have n9_ := Aside0.mk (Kd.R_below (rbW HO487.out) hb); have n10_ := Aside0.mk (blk_below (g := gb454) (o := .cells #[.slice Ao13 t447.length co13, .slice Ao15 t450.length co15] 26 (0, 0)) (kbW BK454.out) hb); have n11_ := Aside0.mk (blk_below (g := gb462) (o := .cells #[.slice Ao18 t455.length co18, .slice Ao21 t458.length co21] 26 (0, 0)) (kbW BK462.out) hb); have n12_ := Aside0.mk (blk_below (g := gb471) (o := .cells #[.slice Ao42 t465.length co42, .slice Ao46 t468.length co46] 26 (0, 0)) (kbW BK471.out) hb); have n13_ := Aside0.mk (below_step (by repeat (first | exact nbW HB.out | refine nbW (below_set ?_ GE454.out) | refine nbW (below_set ?_ GE462.out) | refine nbW (below_set ?_ GE471.out))) hb); have n14_ := Aside0.mk (hbox); have n15_ := Aside0.mk ((by rw [hg]; exact (below_size (by repeat (first | exact nbW HB.out | refine nbW (below_set ?_ GE454.out) | refine nbW (below_set ?_ GE462.out) | refine nbW (below_set ?_ GE471.out)))) : w.heap.size ≤ gb489)); have n16_ := Aside0.mk ((by rw [hg]; exact (below_size (by repeat (first | exact nbW HB.out | refine nbW (below_set ?_ GE454.out) | refine nbW (below_set ?_ GE462.out) | refine nbW (below_set ?_ GE471.out)))) : w.heap.size ≤ gb489)); have n17_ := Aside0.mk ((by rw [hg]; exact Nat.ne_of_lt (blk_lt (g := gb454) (o := .cells #[.slice Ao13 t447.length co13, .slice Ao15 t450.length co15] 26 (0, 0)) (kbW BK454.out)) : gb454 ≠ gb489)); have n18_ := Aside0.mk ((by rw [hg]; exact Nat.ne_of_gt (blk_lt (g := gb454) (o := .cells #[.slice Ao13 t447.length co13, .slice Ao15 t450.length co15] 26 (0, 0)) (kbW BK454.out)) : gb489 ≠ gb454)); have n19_ := Aside0.mk ((by rw [hg]; exact Nat.ne_of_lt (blk_lt (g := gb462) (o := .cells #[.slice Ao18 t455.length co18, .slice Ao21 t458.length co21] 26 (0, 0)) (kbW BK462.out)) : gb462 ≠ gb489)); have n20_ := Aside0.mk ((by rw [hg]; exact Nat.ne_of_gt (blk_lt (g := gb462) (o := .cells #[.slice Ao18 t455.length co18, .slice Ao21 t458.length co21] 26 (0, 0)) (kbW BK462.out)) : gb489 ≠ gb462)); have n21_ := Aside0.mk ((by rw [hg]; exact Nat.ne_of_lt (blk_lt (g := gb471) (o := .cells #[.slice Ao42 t465.length co42, .slice Ao46 t468.length co46] 26 (0, 0)) (kbW BK471.out)) : gb471 ≠ gb489)); have n22_ := Aside0.mk ((by rw [hg]; exact Nat.ne_of_gt (blk_lt (g := gb471) (o := .cells #[.slice Ao42 t465.length co42, .slice Ao46 t468.length co46] 26 (0, 0)) (kbW BK471.out)) : gb489 ≠ gb471)); clear HO_5; clear HO_11; clear HO_455000; clear HO_455001; clear HO_463000; clear HO_463001; clear HO_472000; clear HO_472001; clear HO484; clear HO487; clear BK454; clear BK462; clear BK471; clear HB; have HO_5 := n0_; have HO_11 := n1_; have HO_455000 := n2_; have HO_455001 := n3_; have HO_463000 := n4_; have HO_463001 := n5_; have HO_472000 := n6_; have HO_472001 := n7_; have HO484 := n8_; have HO487 := n9_; have BK454 := n10_; have BK462 := n11_; have BK471 := n12_; have HB := n13_; have BK489 := n14_; have GW489 := n15_; have GE489 := n16_; have NB454_489 := n17_; have NB489_454 := n18_; have NB462_489 := n19_; have NB489_462 := n20_; have NB471_489 := n21_; have NB489_471 := n22_; clear n0_ n1_ n2_ n3_ n4_ n5_ n6_ n7_ n8_ n9_ n10_ n11_ n12_ n13_ n14_ n15_ n16_ n17_ n18_ n19_ n20_ n21_ n22_; clear hb hbox hg; obtain ⟨Ao85, co85, eo85⟩ := Kd.R_slice HO484.out; subst eo85; have hnb86 := NB489_454.out; have hnc86 := NB454_489.out; have hnb87 := NB489_462.out; have hnc87 := NB462_489.out; have hnb88 := NB489_471.out; have hnc88 := NB471_489.out; have hcz89_0 : w84.cell? ⟨gb489, 0, none⟩ = some (.slice none 0 0) := (blk_cell BK489.out 0).trans rfl; have hcz89_1 : w84.cell? ⟨gb489, 1, none⟩ = some (.slice none 0 0) := (blk_cell BK489.out 1).trans rfl; have hfz89_0 := blk_frozen BK489.out 0; have hfz89_1 := blk_frozen BK489.out 1; obtain ⟨Ao90, co90, eo90⟩ := Kd.R_slice HO487.out; subst eo90; have hnb91 := NB471_454.out; have hnc91 := NB454_471.out; have hnb92 := NB471_462.out; have hnc92 := NB462_471.out; have hcz93_0 : w84.cell? ⟨gb471, 0, none⟩ = some (.slice Ao42 t465.length co42) := (blk_cell BK471.out 0).trans rfl; have hcz93_1 : w84.cell? ⟨gb471, 1, none⟩ = some (.slice Ao46 t468.length co46) := (blk_cell BK471.out 1).trans rfl; have hfz93_0 := blk_frozen BK471.out 0; have hfz93_1 := blk_frozen BK471.out 1) | (go_at_call 34; (with_reducible refine (laws_wSameWalk.calls kj38 _ _ t482 _ _ t485 _ _ t465 _ _ t468 false _ ?side1 ?side2 ?side3 ?side4 ?side5 ?side6 ?side7 ?side8 A67.out).mono ?_); (case side1 => refine (Kd.R_reads' (e := 3) (base := w.heap.size) (ok := fun k_ => ((((((((some k_ ≠ (.slice Ao90 t485.length co90 : Value).ownBlock ∧ some k_ ≠ (.slice Ao10 t444.length co10 : Value).ownBlock) ∧ some k_ ≠ (.slice Ao82 t472.length co82 : Value).ownBlock) ∧ some k_ ≠ (.slice Ao13 t447.length co13 : Value).ownBlock) ∧ some k_ ≠ (.slice Ao15 t450.length co15 : Value).ownBlock) ∧ some k_ ≠ (.slice Ao18 t455.length co18 : Value).ownBlock) ∧ some k_ ≠ (.slice Ao21 t458.length co21 : Value).ownBlock) ∧ some k_ ≠ (.slice Ao42 t465.length co42 : Value).ownBlock) ∧ some k_ ≠ (.slice Ao46 t468.length co46 : Value).ownBlock)) (n := t482.length) (c := co85) ?_).2.2; exact (by apply rbW; exact (Kd.R_mono (Kd.R_far (p := ⟨gb489, 1, none⟩) (Kd.R_far (p := ⟨gb489, 0, none⟩) (Kd.R_types HO484.out BK489.out (by decide)) (fun _ hk => hk.2) (.slice Ao85 t482.length co85)) (fun _ hk => hk.2) (.slice Ao90 t485.length co90)) (fun _ h_ => h_.1)))); (case side2 => exact (Kd.R_reads' HO484.out).2.1); (case side3 => refine (Kd.R_reads' (e := 3) (base := w.heap.size) (ok := fun k_ => ((((((((some k_ ≠ (.slice Ao85 t482.length co85 : Value).ownBlock ∧ some k_ ≠ (.slice Ao10 t444.length co10 : Value).ownBlock) ∧ some k_ ≠ (.slice Ao82 t472.length co82 : Value).ownBlock) ∧ some k_ ≠ (.slice Ao13 t447.length co13 : Value).ownBlock) ∧ some k_ ≠ (.slice Ao15 t450.length co15 : Value).ownBlock) ∧ some k_ ≠ (.slice Ao18 t455.length co18 : Value).ownBlock) ∧ some k_ ≠ (.slice Ao21 t458.length co21 : Value).ownBlock) ∧ some k_ ≠ (.slice Ao42 t465.length co42 : Value).ownBlock) ∧ some k_ ≠ (.slice Ao46 t468.length co46 : Value).ownBlock)) (n := t485.length) (c := co90) ?_).2.2; exact (by apply rbW; exact (Kd.R_mono (Kd.R_far (p := ⟨gb489, 1, none⟩) (Kd.R_far (p := ⟨gb489, 0, none⟩) (Kd.R_types HO487.out BK489.out (by decide)) (fun _ hk => hk.2) (.slice Ao85 t482.length co85)) (fun _ hk => hk.2) (.slice Ao90 t485.length co90)) (fun _ h_ => h_.1)))); (case side4 => exact (Kd.R_reads' HO487.out).2.1); (case side5 => refine (Kd.R_reads' (e := 3) (base := w.heap.size) (ok := fun k_ => (((some k_ ≠ (.slice Ao10 t444.length co10 : Value).ownBlock ∧ (some k_ ≠ (.slice Ao82 t472.length co82 : Value).ownBlock ∧ (some k_ ≠ (.slice Ao13 t447.length co13 : Value).ownBlock ∧ (some k_ ≠ (.slice Ao15 t450.length co15 : Value).ownBlock ∧ (some k_ ≠ (.slice Ao18 t455.length co18 : Value).ownBlock ∧ (some k_ ≠ (.slice Ao21 t458.length co21 : Value).ownBlock ∧ some k_ ≠ (.slice Ao46 t468.length co46 : Value).ownBlock)))))) ∧ some k_ ≠ (.slice Ao85 t482.length co85 : Value).ownBlock) ∧ some k_ ≠ (.slice Ao90 t485.length co90 : Value).ownBlock)) (n := t465.length) (c := co42) ?_).2.2; exact (by apply rbW; exact (Kd.R_mono (Kd.R_far (p := ⟨gb489, 1, none⟩) (Kd.R_far (p := ⟨gb489, 0, none⟩) (Kd.R_types HO_472000.out BK489.out (by decide)) (fun _ hk => hk.2) (.slice Ao85 t482.length co85)) (fun _ hk => hk.2) (.slice Ao90 t485.length co90)) (fun _ h_ => h_.1)))); (case side6 => exact (Kd.R_reads' HO_472000.out).2.1); (case side7 => refine (Kd.R_reads' (e := 3) (base := w.heap.size) (ok := fun k_ => (((some k_ ≠ (.slice Ao10 t444.length co10 : Value).ownBlock ∧ (some k_ ≠ (.slice Ao82 t472.length co82 : Value).ownBlock ∧ (some k_ ≠ (.slice Ao13 t447.length co13 : Value).ownBlock ∧ (some k_ ≠ (.slice Ao15 t450.length co15 : Value).ownBlock ∧ (some k_ ≠ (.slice Ao18 t455.length co18 : Value).ownBlock ∧ (some k_ ≠ (.slice Ao21 t458.length co21 : Value).ownBlock ∧ some k_ ≠ (.slice Ao42 t465.length co42 : Value).ownBlock)))))) ∧ some k_ ≠ (.slice Ao85 t482.length co85 : Value).ownBlock) ∧ some k_ ≠ (.slice Ao90 t485.length co90 : Value).ownBlock)) (n := t468.length) (c := co46) ?_).2.2; exact (by apply rbW; exact (Kd.R_mono (Kd.R_far (p := ⟨gb489, 1, none⟩) (Kd.R_far (p := ⟨gb489, 0, none⟩) (Kd.R_types HO_472001.out BK489.out (by decide)) (fun _ hk => hk.2) (.slice Ao85 t482.length co85)) (fun _ hk => hk.2) (.slice Ao90 t485.length co90)) (fun _ h_ => h_.1)))); (case side8 => exact (Kd.R_reads' HO_472001.out).2.1); rintro e w94 ⟨rfl, hb⟩; have n0_ := Aside0.mk (Kd.R_below (by apply rbW; exact (Kd.R_mono (Kd.R_far (p := ⟨gb489, 1, none⟩) (Kd.R_far (p := ⟨gb489, 0, none⟩) (Kd.R_types HO_5.out BK489.out (by decide)) (fun _ hk => hk.2) (.slice Ao85 t482.length co85)) (fun _ hk => hk.2) (.slice Ao90 t485.length co90)) (fun _ h_ => h_.1))) hb); have n1_ := Aside0.mk (Kd.R_below (by apply rbW; exact (Kd.R_mono (Kd.R_far (p := ⟨gb489, 1, none⟩) (Kd.R_far (p := ⟨gb489, 0, none⟩) (Kd.R_types HO_11.out BK489.out (by decide)) (fun _ hk => hk.2) (.slice Ao85 t482.length co85)) (fun _ hk => hk.2) (.slice Ao90 t485.length co90)) (fun _ h_ => h_.1))) hb); have n2_ := Aside0.mk (Kd.R_below (by apply rbW; exact (Kd.R_mono (Kd.R_far (p := ⟨gb489, 1, none⟩) (Kd.R_far (p := ⟨gb489, 0, none⟩) (Kd.R_types HO_455000.out BK489.out (by decide)) (fun _ hk => hk.2) (.slice Ao85 t482.length co85)) (fun _ hk => hk.2) (.slice Ao90 t485.length co90)) (fun _ h_ => h_.1))) hb); have n3_ := Aside0.mk (Kd.R_below (by apply rbW; exact (Kd.R_mono (Kd.R_far (p := ⟨gb489, 1, none⟩) (Kd.R_far (p := ⟨gb489, 0, none⟩) (Kd.R_types HO_455001.out BK489.out (by decide)) (fun _ hk => hk.2) (.slice Ao85 t482.length co85)) (fun _ hk => hk.2) (.slice Ao90 t485.length co90)) (fun _ h_ => h_.1))) hb); have n4_ := Aside0.mk (Kd.R_below (by apply rbW; exact (Kd.R_mono (Kd.R_far (p := ⟨gb489, 1, none⟩) (Kd.R_far (p := ⟨gb489, 0, none⟩) (Kd.R_types HO_463000.out BK489.out (by decide)) (fun _ hk => hk.2) (.slice Ao85 t482.length co85)) (fun _ hk => hk.2) (.slice Ao90 t485.length co90)) (fun _ h_ => h_.1))) hb); have n5_ := Aside0.mk (Kd.R_below (by apply rbW; exact (Kd.R_mono (Kd.R_far (p := ⟨gb489, 1, none⟩) (Kd.R_far (p := ⟨gb489, 0, none⟩) (Kd.R_types HO_463001.out BK489.out (by decide)) (fun _ hk => hk.2) (.slice Ao85 t482.length co85)) (fun _ hk => hk.2) (.slice Ao90 t485.length co90)) (fun _ h_ => h_.1))) hb); have n6_ := Aside0.mk (Kd.R_below (by apply rbW; exact (Kd.R_mono (Kd.R_far (p := ⟨gb489, 1, none⟩) (Kd.R_far (p := ⟨gb489, 0, none⟩) (Kd.R_types HO_472000.out BK489.out (by decide)) (fun _ hk => hk.2) (.slice Ao85 t482.length co85)) (fun _ hk => hk.2) (.slice Ao90 t485.length co90)) (fun _ h_ => h_.1))) hb); have n7_ := Aside0.mk (Kd.R_below (by apply rbW; exact (Kd.R_mono (Kd.R_far (p := ⟨gb489, 1, none⟩) (Kd.R_far (p := ⟨gb489, 0, none⟩) (Kd.R_types HO_472001.out BK489.out (by decide)) (fun _ hk => hk.2) (.slice Ao85 t482.length co85)) (fun _ hk => hk.2) (.slice Ao90 t485.length co90)) (fun _ h_ => h_.1))) hb); have n8_ := Aside0.mk (Kd.R_below (by apply rbW; exact (Kd.R_mono (Kd.R_far (p := ⟨gb489, 1, none⟩) (Kd.R_far (p := ⟨gb489, 0, none⟩) (Kd.R_types HO484.out BK489.out (by decide)) (fun _ hk => hk.2) (.slice Ao85 t482.length co85)) (fun _ hk => hk.2) (.slice Ao90 t485.length co90)) (fun _ h_ => h_.1))) hb); have n9_ := Aside0.mk (Kd.R_below (by apply rbW; exact (Kd.R_mono (Kd.R_far (p := ⟨gb489, 1, none⟩) (Kd.R_far (p := ⟨gb489, 0, none⟩) (Kd.R_types HO487.out BK489.out (by decide)) (fun _ hk => hk.2) (.slice Ao85 t482.length co85)) (fun _ hk => hk.2) (.slice Ao90 t485.length co90)) (fun _ h_ => h_.1))) hb); have n10_ := Aside0.mk (blk_below (g := gb454) (o := .cells #[.slice Ao13 t447.length co13, .slice Ao15 t450.length co15] 26 (0, 0)) (by apply kbW; refine blk_far ?_ NB454_489.out _; apply kbW; refine blk_far ?_ NB454_489.out _; apply kbW; exact BK454.out) hb); have n11_ := Aside0.mk (blk_below (g := gb462) (o := .cells #[.slice Ao18 t455.length co18, .slice Ao21 t458.length co21] 26 (0, 0)) (by apply kbW; refine blk_far ?_ NB462_489.out _; apply kbW; refine blk_far ?_ NB462_489.out _; apply kbW; exact BK462.out) hb); have n12_ := Aside0.mk (blk_below (g := gb471) (o := .cells #[.slice Ao42 t465.length co42, .slice Ao46 t468.length co46] 26 (0, 0)) (by apply kbW; refine blk_far ?_ NB471_489.out _; apply kbW; refine blk_far ?_ NB471_489.out _; apply kbW; exact BK471.out) hb); have n13_ := Aside0.mk (blk_below (g := gb489) (o := .cells #[.slice Ao85 t482.length co85, .slice Ao90 t485.length co90] 26 (0, 0)) (by apply kbW; refine blk_put (cs := #[.slice Ao85 t482.length co85, .slice none 0 0]) ?_ 1 _ rfl; apply kbW; refine blk_put (cs := #[.slice none 0 0, .slice none 0 0]) ?_ 0 _ rfl; apply kbW; exact BK489.out) hb); have n14_ := Aside0.mk (below_step (by repeat (first | exact nbW HB.out | refine nbW (below_set ?_ GE454.out) | refine nbW (below_set ?_ GE462.out) | refine nbW (below_set ?_ GE471.out) | refine nbW (below_set ?_ GE489.out))) hb); clear HO_5; clear HO_11; clear HO_455000; clear HO_455001; clear HO_463000; clear HO_463001; clear HO_472000; clear HO_472001; clear HO484; clear HO487; clear BK454; clear BK462; clear BK471; clear BK489; clear HB; have HO_5 := n0_; have HO_11 := n1_; have HO_455000 := n2_; have HO_455001 := n3_; have HO_463000 := n4_; have HO_463001 := n5_; have HO_472000 := n6_; have HO_472001 := n7_; have HO484 := n8_; have HO487 := n9_; have BK454 := n10_; have BK462 := n11_; have BK471 := n12_; have BK489 := n13_; have HB := n14_; clear n0_ n1_ n2_ n3_ n4_ n5_ n6_ n7_ n8_ n9_ n10_ n11_ n12_ n13_ n14_; (try clear hb); (try clear hb2); (try clear hk); (try clear hi)))
               go_ret
               exact ⟨by first | rfl | (simp [errW_none, errW_some] <;> rfl) | (simp [*, errW_none, errW_some] <;> rfl), by repeat (first | exact nbW HB.out | refine nbW (below_set ?_ GE454.out) | refine nbW (below_set ?_ GE462.out) | refine nbW (below_set ?_ GE471.out) | refine nbW (below_set ?_ GE489.out))⟩
             ·replace c66 := Bool.eq_false_iff.mpr c66
              subst c66
              have H1 : (some false) = some r := by rw [if_neg (show ¬ (false = true) by decide)] at H; exact H
              clear H
              have H := H1
              clear H1
              obtain rfl := Option.some.inj H
              obtain ⟨Ao95, co95, eo95⟩ := Kd.R_slice HO_11.out
              subst eo95
              go_wp2_with (first | ((with_reducible refine gate_callee (f := 32) rfl ?_); refine goesL_ (some 87) rfl rfl Try.func32 (by kernel_rfl) rfl #[.slice Ao95 t472.length co95] rfl (by (try simp only [List.map_toArray, List.map_cons, List.map_nil]); first | done | rfl | (simp only [List.length_drop, List.length_take]; rfl)) ?_; (with_reducible refine (impl_WalkOfParking.calls kj38 _ _ t472 t482 t485 false _ ?side1 ?side2 A65.out).mono ?_); (case side1 => exact cbW (Kd.R_reads' HO_11.out).2.2); (case side2 => exact (Kd.R_reads' HO_11.out).2.1); rintro e w96 ⟨v483, v486, rfl, ho0, ho1, hb⟩; refine ⟨_, rfl, ?_⟩; have n0_ := Aside0.mk (Kd.R_mono (Kd.R_told (Kd.R_told (Kd.R_old (rbW HO_5.out) hb) (Kd.R_base ho0)) (Kd.R_base ho1)) (fun _ h_ => h_.1)); have n1_ := Aside0.mk (Kd.R_mono (Kd.R_told (Kd.R_told (Kd.R_old (rbW HO_11.out) hb) (Kd.R_base ho0)) (Kd.R_base ho1)) (fun _ h_ => h_.1)); have n2_ := Aside0.mk (Kd.R_mono (Kd.R_told (Kd.R_told (Kd.R_old (rbW HO_455000.out) hb) (Kd.R_base ho0)) (Kd.R_base ho1)) (fun _ h_ => h_.1)); have n3_ := Aside0.mk (Kd.R_mono (Kd.R_told (Kd.R_told (Kd.R_old (rbW HO_455001.out) hb) (Kd.R_base ho0)) (Kd.R_base ho1)) (fun _ h_ => h_.1)); have n4_ := Aside0.mk (Kd.R_mono (Kd.R_told (Kd.R_told (Kd.R_old (rbW HO_463000.out) hb) (Kd.R_base ho0)) (Kd.R_base ho1)) (fun _ h_ => h_.1)); have n5_ := Aside0.mk (Kd.R_mono (Kd.R_told (Kd.R_told (Kd.R_old (rbW HO_463001.out) hb) (Kd.R_base ho0)) (Kd.R_base ho1)) (fun _ h_ => h_.1)); have n6_ := Aside0.mk (Kd.R_mono (Kd.R_told (Kd.R_told (Kd.R_old (rbW HO_472000.out) hb) (Kd.R_base ho0)) (Kd.R_base ho1)) (fun _ h_ => h_.1)); have n7_ := Aside0.mk (Kd.R_mono (Kd.R_told (Kd.R_told (Kd.R_old (rbW HO_472001.out) hb) (Kd.R_base ho0)) (Kd.R_base ho1)) (fun _ h_ => h_.1)); have n8_ := Aside0.mk (Kd.R_lower (Kd.R_new' (Kd.R_new' (Kd.R_new' (Kd.R_new' (Kd.R_new' (Kd.R_new' (Kd.R_new' (Kd.R_new' ho0 (Kd.R_lt (rbW HO_5.out))) (Kd.R_lt (rbW HO_11.out))) (Kd.R_lt (rbW HO_455000.out))) (Kd.R_lt (rbW HO_455001.out))) (Kd.R_lt (rbW HO_463000.out))) (Kd.R_lt (rbW HO_463001.out))) (Kd.R_lt (rbW HO_472000.out))) (Kd.R_lt (rbW HO_472001.out))) (below_size (by repeat (first | exact nbW HB.out | refine nbW (below_set ?_ GE454.out) | refine nbW (below_set ?_ GE462.out) | refine nbW (below_set ?_ GE471.out))))); have n9_ := Aside0.mk (Kd.R_lower (Kd.R_new' (Kd.R_new' (Kd.R_new' (Kd.R_new' (Kd.R_new' (Kd.R_new' (Kd.R_new' (Kd.R_new' ho1 (Kd.R_lt (rbW HO_5.out))) (Kd.R_lt (rbW HO_11.out))) (Kd.R_lt (rbW HO_455000.out))) (Kd.R_lt (rbW HO_455001.out))) (Kd.R_lt (rbW HO_463000.out))) (Kd.R_lt (rbW HO_463001.out))) (Kd.R_lt (rbW HO_472000.out))) (Kd.R_lt (rbW HO_472001.out))) (below_size (by repeat (first | exact nbW HB.out | refine nbW (below_set ?_ GE454.out) | refine nbW (below_set ?_ GE462.out) | refine nbW (below_set ?_ GE471.out))))); have n10_ := Aside0.mk (blk_below (g := gb454) (o := .cells #[.slice Ao13 t447.length co13, .slice Ao15 t450.length co15] 26 (0, 0)) (kbW BK454.out) hb); have n11_ := Aside0.mk (blk_below (g := gb462) (o := .cells #[.slice Ao18 t455.length co18, .slice Ao21 t458.length co21] 26 (0, 0)) (kbW BK462.out) hb); have n12_ := Aside0.mk (blk_below (g := gb471) (o := .cells #[.slice Ao42 t465.length co42, .slice Ao46 t468.length co46] 26 (0, 0)) (kbW BK471.out) hb); have n13_ := Aside0.mk (below_step (by repeat (first | exact nbW HB.out | refine nbW (below_set ?_ GE454.out) | refine nbW (below_set ?_ GE462.out) | refine nbW (below_set ?_ GE471.out))) hb); clear HO_5; clear HO_11; clear HO_455000; clear HO_455001; clear HO_463000; clear HO_463001; clear HO_472000; clear HO_472001; clear BK454; clear BK462; clear BK471; clear HB; have HO_5 := n0_; have HO_11 := n1_; have HO_455000 := n2_; have HO_455001 := n3_; have HO_463000 := n4_; have HO_463001 := n5_; have HO_472000 := n6_; have HO_472001 := n7_; have HO484 := n8_; have HO487 := n9_; have BK454 := n10_; have BK462 := n11_; have BK471 := n12_; have HB := n13_; clear n0_ n1_ n2_ n3_ n4_ n5_ n6_ n7_ n8_ n9_ n10_ n11_ n12_ n13_; (try clear hb); (try clear hb2); (try clear hk); (try clear hi); (try clear ho0); (try clear ho1)) | ((with_reducible refine gate_dst (N := 15) rfl ?_); (try (refine gate_guard (by rfl) ?_; dsimp only)); refine box_event ?hg (N := 15) ?hd (cs := #[.slice none 0 0, .slice none 0 0]) (t := 26) ?hr ?_; (case hd => rfl); (case hg => rfl); (case hr => first | (go_simp; done) | (go_simp; rfl)); intro gb489 hg w97 hbox hb; have n0_ := Aside0.mk (Kd.R_below (rbW HO_5.out) hb); have n1_ := Aside0.mk (Kd.R_below (rbW HO_11.out) hb); have n2_ := Aside0.mk (Kd.R_below (rbW HO_455000.out) hb); have n3_ := Aside0.mk (Kd.R_below (rbW HO_455001.out) hb); have n4_ := Aside0.mk (Kd.R_below (rbW HO_463000.out) hb); have n5_ := Aside0.mk (Kd.R_below (rbW HO_463001.out) hb); have n6_ := Aside0.mk (Kd.R_below (rbW HO_472000.out) hb); have n7_ := Aside0.mk (Kd.R_below (rbW HO_472001.out) hb); have n8_ := Aside0.mk (Kd.R_below (rbW HO484.out) hb); have n9_ := Aside0.mk (Kd.R_below (rbW HO487.out) hb); have n10_ := Aside0.mk (blk_below (g := gb454) (o := .cells #[.slice Ao13 t447.length co13, .slice Ao15 t450.length co15] 26 (0, 0)) (kbW BK454.out) hb); have n11_ := Aside0.mk (blk_below (g := gb462) (o := .cells #[.slice Ao18 t455.length co18, .slice Ao21 t458.length co21] 26 (0, 0)) (kbW BK462.out) hb); have n12_ := Aside0.mk (blk_below (g := gb471) (o := .cells #[.slice Ao42 t465.length co42, .slice Ao46 t468.length co46] 26 (0, 0)) (kbW BK471.out) hb); have n13_ := Aside0.mk (below_step (by repeat (first | exact nbW HB.out | refine nbW (below_set ?_ GE454.out) | refine nbW (below_set ?_ GE462.out) | refine nbW (below_set ?_ GE471.out))) hb); have n14_ := Aside0.mk (hbox); have n15_ := Aside0.mk ((by rw [hg]; exact (below_size (by repeat (first | exact nbW HB.out | refine nbW (below_set ?_ GE454.out) | refine nbW (below_set ?_ GE462.out) | refine nbW (below_set ?_ GE471.out)))) : w.heap.size ≤ gb489)); have n16_ := Aside0.mk ((by rw [hg]; exact (below_size (by repeat (first | exact nbW HB.out | refine nbW (below_set ?_ GE454.out) | refine nbW (below_set ?_ GE462.out) | refine nbW (below_set ?_ GE471.out)))) : w.heap.size ≤ gb489)); have n17_ := Aside0.mk ((by rw [hg]; exact Nat.ne_of_lt (blk_lt (g := gb454) (o := .cells #[.slice Ao13 t447.length co13, .slice Ao15 t450.length co15] 26 (0, 0)) (kbW BK454.out)) : gb454 ≠ gb489)); have n18_ := Aside0.mk ((by rw [hg]; exact Nat.ne_of_gt (blk_lt (g := gb454) (o := .cells #[.slice Ao13 t447.length co13, .slice Ao15 t450.length co15] 26 (0, 0)) (kbW BK454.out)) : gb489 ≠ gb454)); have n19_ := Aside0.mk ((by rw [hg]; exact Nat.ne_of_lt (blk_lt (g := gb462) (o := .cells #[.slice Ao18 t455.length co18, .slice Ao21 t458.length co21] 26 (0, 0)) (kbW BK462.out)) : gb462 ≠ gb489)); have n20_ := Aside0.mk ((by rw [hg]; exact Nat.ne_of_gt (blk_lt (g := gb462) (o := .cells #[.slice Ao18 t455.length co18, .slice Ao21 t458.length co21] 26 (0, 0)) (kbW BK462.out)) : gb489 ≠ gb462)); have n21_ := Aside0.mk ((by rw [hg]; exact Nat.ne_of_lt (blk_lt (g := gb471) (o := .cells #[.slice Ao42 t465.length co42, .slice Ao46 t468.length co46] 26 (0, 0)) (kbW BK471.out)) : gb471 ≠ gb489)); have n22_ := Aside0.mk ((by rw [hg]; exact Nat.ne_of_gt (blk_lt (g := gb471) (o := .cells #[.slice Ao42 t465.length co42, .slice Ao46 t468.length co46] 26 (0, 0)) (kbW BK471.out)) : gb489 ≠ gb471)); clear HO_5; clear HO_11; clear HO_455000; clear HO_455001; clear HO_463000; clear HO_463001; clear HO_472000; clear HO_472001; clear HO484; clear HO487; clear BK454; clear BK462; clear BK471; clear HB; have HO_5 := n0_; have HO_11 := n1_; have HO_455000 := n2_; have HO_455001 := n3_; have HO_463000 := n4_; have HO_463001 := n5_; have HO_472000 := n6_; have HO_472001 := n7_; have HO484 := n8_; have HO487 := n9_; have BK454 := n10_; have BK462 := n11_; have BK471 := n12_; have HB := n13_; have BK489 := n14_; have GW489 := n15_; have GE489 := n16_; have NB454_489 := n17_; have NB489_454 := n18_; have NB462_489 := n19_; have NB489_462 := n20_; have NB471_489 := n21_; have NB489_471 := n22_; clear n0_ n1_ n2_ n3_ n4_ n5_ n6_ n7_ n8_ n9_ n10_ n11_ n12_ n13_ n14_ n15_ n16_ n17_ n18_ n19_ n20_ n21_ n22_; clear hb hbox hg; obtain ⟨Ao98, co98, eo98⟩ := Kd.R_slice HO484.out; subst eo98; have hnb99 := NB489_454.out; have hnc99 := NB454_489.out; have hnb100 := NB489_462.out; have hnc100 := NB462_489.out; have hnb101 := NB489_471.out; have hnc101 := NB471_489.out; have hcz102_0 : w97.cell? ⟨gb489, 0, none⟩ = some (.slice none 0 0) := (blk_cell BK489.out 0).trans rfl; have hcz102_1 : w97.cell? ⟨gb489, 1, none⟩ = some (.slice none 0 0) := (blk_cell BK489.out 1).trans rfl; have hfz102_0 := blk_frozen BK489.out 0; have hfz102_1 := blk_frozen BK489.out 1; obtain ⟨Ao103, co103, eo103⟩ := Kd.R_slice HO487.out; subst eo103))
              go_ret
              exact ⟨by first | rfl | (simp [errW_none, errW_some] <;> rfl) | (simp [*, errW_none, errW_some] <;> rfl), by repeat (first | exact nbW HB.out | refine nbW (below_set ?_ GE454.out) | refine nbW (below_set ?_ GE462.out) | refine nbW (below_set ?_ GE471.out) | refine nbW (below_set ?_ GE489.out))⟩
            ·replace c64 := Bool.eq_false_iff.mpr c64
             subst c64
             have H1 : (laws_FnParkingIsWalks.j2 kj38 t444 t461 t447 t450) = some r := by rw [if_neg (show ¬ (false = true) by decide)] at H; exact H
             clear H
             have H := H1
             clear H1
             have H' := Aside0.mk H
             clear H
             go_wp2
             go_meet
             case rel => exact ⟨_, H', ⟨by have := HJ7.out; have := HJ38.out; first | omega | exact Nat.le_refl _⟩, ⟨by apply rbW; exact Kd.R_mono HO_5.out (fun _ hk => ⟨hk.2.1, ⟨hk.2.2.1, ⟨hk.2.2.2.1, ⟨hk.2.2.2.2.1, ⟨hk.2.2.2.2.2.1, hk.2.2.2.2.2.2⟩⟩⟩⟩⟩)⟩, ⟨by apply rbW; exact Kd.R_mono HO_455000.out (fun _ hk => ⟨hk.1, ⟨hk.2.2.1, ⟨hk.2.2.2.1, ⟨hk.2.2.2.2.1, ⟨hk.2.2.2.2.2.1, hk.2.2.2.2.2.2⟩⟩⟩⟩⟩)⟩, ⟨by apply rbW; exact Kd.R_mono HO_455001.out (fun _ hk => ⟨hk.1, ⟨hk.2.2.1, ⟨hk.2.2.2.1, ⟨hk.2.2.2.2.1, ⟨hk.2.2.2.2.2.1, hk.2.2.2.2.2.2⟩⟩⟩⟩⟩)⟩, ⟨by apply rbW; exact Kd.R_mono HO_463000.out (fun _ hk => ⟨hk.1, ⟨hk.2.2.1, ⟨hk.2.2.2.1, ⟨hk.2.2.2.2.1, ⟨hk.2.2.2.2.2.1, hk.2.2.2.2.2.2⟩⟩⟩⟩⟩)⟩, ⟨by apply rbW; exact Kd.R_mono HO_463001.out (fun _ hk => ⟨hk.1, ⟨hk.2.2.1, ⟨hk.2.2.2.1, ⟨hk.2.2.2.2.1, ⟨hk.2.2.2.2.2.1, hk.2.2.2.2.2.2⟩⟩⟩⟩⟩)⟩, ⟨by apply rbW; exact Kd.R_mono HO_472000.out (fun _ hk => ⟨hk.1, ⟨hk.2.2.1, ⟨hk.2.2.2.1, ⟨hk.2.2.2.2.1, ⟨hk.2.2.2.2.2.1, hk.2.2.2.2.2.2⟩⟩⟩⟩⟩)⟩, ⟨by apply rbW; exact Kd.R_mono HO_472001.out (fun _ hk => ⟨hk.1, ⟨hk.2.2.1, ⟨hk.2.2.2.1, ⟨hk.2.2.2.2.1, ⟨hk.2.2.2.2.2.1, hk.2.2.2.2.2.2⟩⟩⟩⟩⟩)⟩, ⟨by apply kbW; exact BK454.out⟩, ⟨by apply kbW; exact BK462.out⟩, ⟨by apply kbW; exact BK471.out⟩, ⟨by repeat (first | exact nbW HB.out | refine nbW (below_set ?_ GE454.out) | refine nbW (below_set ?_ GE462.out) | refine nbW (below_set ?_ GE471.out))⟩⟩
           case rest =>
            clear HC63
            try clear c1
            try clear c2
            try clear p2
            try clear c3
            try clear c4
            try clear c5
            try clear c6
            try clear c7
            try clear c8
            try clear c9
            try clear c10
            try clear c19
            try clear c22
            try clear c22b0
            try clear c22b1
            try clear c22b2
            try clear c24
            try clear c26
            try clear c31
            try clear c32
            try clear c33
            try clear c35
            try clear c36
            try clear c37
            try clear c38
            try clear c43
            try clear c44
            try clear c50
            try clear c50b0
            try clear c50b1
            try clear c50b2
            try clear c52
            try clear c56
            try clear c57
            try clear c62
            try clear c64
            try clear c66
            try clear c68
            try clear c73
            try clear c74
            try clear c75
            try clear c78
            try clear c79
            try clear c86
            try clear c87
            try clear c88
            try clear c91
            try clear c92
            try clear c99
            try clear c100
            try clear c101
            try clear hcz102_0
            try clear hcz102_1
            try clear hcz14_0
            try clear hcz14_1
            try clear hcz20_0
            try clear hcz20_1
            try clear hcz27_0
            try clear hcz27_1
            try clear hcz28_0
            try clear hcz28_1
            try clear hcz32_0
            try clear hcz32_1
            try clear hcz33_0
            try clear hcz33_1
            try clear hcz45_0
            try clear hcz45_1
            try clear hcz48_0
            try clear hcz48_1
            try clear hcz58_0
            try clear hcz58_1
            try clear hcz76_0
            try clear hcz76_1
            try clear hcz80_0
            try clear hcz80_1
            try clear hcz89_0
            try clear hcz89_1
            try clear hcz93_0
            try clear hcz93_1
            try clear hfz102_0
            try clear hfz102_1
            try clear hfz14_0
            try clear hfz14_1
            try clear hfz20_0
            try clear hfz20_1
            try clear hfz27_0
            try clear hfz27_1
            try clear hfz28_0
            try clear hfz28_1
            try clear hfz32_0
            try clear hfz32_1
            try clear hfz33_0
            try clear hfz33_1
            try clear hfz45_0
            try clear hfz45_1
            try clear hfz48_0
            try clear hfz48_1
            try clear hfz58_0
            try clear hfz58_1
            try clear hfz76_0
            try clear hfz76_1
            try clear hfz80_0
            try clear hfz80_1
            try clear hfz89_0
            try clear hfz89_1
            try clear hfz93_0
            try clear hfz93_1
            try clear p2
            obtain ⟨kq, HA, HJ62, HO_5, HO_455000, HO_455001, HO_463000, HO_463001, HO_472000, HO_472001, BK454, BK462, BK471, HB⟩ := hcut
            cases kq with
            | zero => exact absurd HA.out (by simp [laws_FnParkingIsWalks.j2])
            | succ kj62 =>
             have H := HA.out
             clear HA
             simp only [laws_FnParkingIsWalks.j2] at H
             by_cases c104 : t461 = true
             ·as_aux_lemma =>
               subst c104
               have H1 : ((impl_ParkingOfWalk.f kj62 t447 t450).bind fun bt491 => ((impl_AreaOf.f kj62 t447 t450).bind fun bt495 => ((impl_TouchesOf.f kj62 t447 t450).bind fun bt497 => ((impl_CutsOf.f kj62 t444).bind fun bt501 => (if bt491.2 = true then (if bt495.2 = true then (if bt497.2 = true then (if bt501.2 = true then ((laws_wSame.f kj62 bt491.1 t444).bind fun t505 => (if t505 = true then ((laws_wSame.f kj62 bt497.1 bt501.1).bind fun t506 => (if t506 = true then ((impl_AreHeights.f kj62 t447).bind fun t507 => (laws_FnParkingIsWalks.j3 kj62 t444 bt495.1 (!t507))) else (laws_FnParkingIsWalks.j3 kj62 t444 bt495.1 true))) else (laws_FnParkingIsWalks.j3 kj62 t444 bt495.1 true))) else (laws_FnParkingIsWalks.j3 kj62 t444 bt495.1 true)) else (laws_FnParkingIsWalks.j3 kj62 t444 bt495.1 true)) else (laws_FnParkingIsWalks.j3 kj62 t444 bt495.1 true)) else (laws_FnParkingIsWalks.j3 kj62 t444 bt495.1 true)))))) = some r := by rw [if_pos rfl] at H; exact H
               clear H
               have H := H1
               clear H1
               replace H := Option.bind_eq_some_iff.mp H
               obtain ⟨⟨t491, t494⟩, A1050, H⟩ := H
               replace H : ((impl_AreaOf.f kj62 t447 t450).bind fun bt495 => ((impl_TouchesOf.f kj62 t447 t450).bind fun bt497 => ((impl_CutsOf.f kj62 t444).bind fun bt501 => (if t494 = true then (if bt495.2 = true then (if bt497.2 = true then (if bt501.2 = true then ((laws_wSame.f kj62 t491 t444).bind fun t505 => (if t505 = true then ((laws_wSame.f kj62 bt497.1 bt501.1).bind fun t506 => (if t506 = true then ((impl_AreHeights.f kj62 t447).bind fun t507 => (laws_FnParkingIsWalks.j3 kj62 t444 bt495.1 (!t507))) else (laws_FnParkingIsWalks.j3 kj62 t444 bt495.1 true))) else (laws_FnParkingIsWalks.j3 kj62 t444 bt495.1 true))) else (laws_FnParkingIsWalks.j3 kj62 t444 bt495.1 true)) else (laws_FnParkingIsWalks.j3 kj62 t444 bt495.1 true)) else (laws_FnParkingIsWalks.j3 kj62 t444 bt495.1 true)) else (laws_FnParkingIsWalks.j3 kj62 t444 bt495.1 true))))) = some r := H
               have A105 := Aside0.mk A1050
               clear A1050
               replace H := Option.bind_eq_some_iff.mp H
               obtain ⟨⟨t495, t496⟩, A1060, H⟩ := H
               replace H : ((impl_TouchesOf.f kj62 t447 t450).bind fun bt497 => ((impl_CutsOf.f kj62 t444).bind fun bt501 => (if t494 = true then (if t496 = true then (if bt497.2 = true then (if bt501.2 = true then ((laws_wSame.f kj62 t491 t444).bind fun t505 => (if t505 = true then ((laws_wSame.f kj62 bt497.1 bt501.1).bind fun t506 => (if t506 = true then ((impl_AreHeights.f kj62 t447).bind fun t507 => (laws_FnParkingIsWalks.j3 kj62 t444 t495 (!t507))) else (laws_FnParkingIsWalks.j3 kj62 t444 t495 true))) else (laws_FnParkingIsWalks.j3 kj62 t444 t495 true))) else (laws_FnParkingIsWalks.j3 kj62 t444 t495 true)) else (laws_FnParkingIsWalks.j3 kj62 t444 t495 true)) else (laws_FnParkingIsWalks.j3 kj62 t444 t495 true)) else (laws_FnParkingIsWalks.j3 kj62 t444 t495 true)))) = some r := H
               have A106 := Aside0.mk A1060
               clear A1060
               replace H := Option.bind_eq_some_iff.mp H
               obtain ⟨⟨t497, t500⟩, A1070, H⟩ := H
               replace H : ((impl_CutsOf.f kj62 t444).bind fun bt501 => (if t494 = true then (if t496 = true then (if t500 = true then (if bt501.2 = true then ((laws_wSame.f kj62 t491 t444).bind fun t505 => (if t505 = true then ((laws_wSame.f kj62 t497 bt501.1).bind fun t506 => (if t506 = true then ((impl_AreHeights.f kj62 t447).bind fun t507 => (laws_FnParkingIsWalks.j3 kj62 t444 t495 (!t507))) else (laws_FnParkingIsWalks.j3 kj62 t444 t495 true))) else (laws_FnParkingIsWalks.j3 kj62 t444 t495 true))) else (laws_FnParkingIsWalks.j3 kj62 t444 t495 true)) else (laws_FnParkingIsWalks.j3 kj62 t444 t495 true)) else (laws_FnParkingIsWalks.j3 kj62 t444 t495 true)) else (laws_FnParkingIsWalks.j3 kj62 t444 t495 true))) = some r := H
               have A107 := Aside0.mk A1070
               clear A1070
               replace H := Option.bind_eq_some_iff.mp H
               obtain ⟨⟨t501, t502⟩, A1080, H⟩ := H
               replace H : (if t494 = true then (if t496 = true then (if t500 = true then (if t502 = true then ((laws_wSame.f kj62 t491 t444).bind fun t505 => (if t505 = true then ((laws_wSame.f kj62 t497 t501).bind fun t506 => (if t506 = true then ((impl_AreHeights.f kj62 t447).bind fun t507 => (laws_FnParkingIsWalks.j3 kj62 t444 t495 (!t507))) else (laws_FnParkingIsWalks.j3 kj62 t444 t495 true))) else (laws_FnParkingIsWalks.j3 kj62 t444 t495 true))) else (laws_FnParkingIsWalks.j3 kj62 t444 t495 true)) else (laws_FnParkingIsWalks.j3 kj62 t444 t495 true)) else (laws_FnParkingIsWalks.j3 kj62 t444 t495 true)) else (laws_FnParkingIsWalks.j3 kj62 t444 t495 true)) = some r := H
               have A108 := Aside0.mk A1080
               clear A1080
               have HC109 := Aside0.mk H
               clear H
               have hnb110 := NB454_462.out
               have hnc110 := NB462_454.out
               have hnb111 := NB454_471.out
               have hnc111 := NB471_454.out
               have hcz112_0 : wc.cell? ⟨gb454, 0, none⟩ = some (.slice Ao13 t447.length co13) := (blk_cell BK454.out 0).trans rfl
               have hcz112_1 : wc.cell? ⟨gb454, 1, none⟩ = some (.slice Ao15 t450.length co15) := (blk_cell BK454.out 1).trans rfl
               have hfz112_0 := blk_frozen BK454.out 0
               have hfz112_1 := blk_frozen BK454.out 1
               go_upto_region 23 with (first | ((with_reducible refine gate_callee (f := 37) rfl ?_); refine goesL_ (some 102) rfl rfl Try.func37 (by kernel_rfl) rfl #[.agg #[.slice Ao13 t447.length co13, .slice Ao15 t450.length co15]] rfl (by (try simp only [List.map_toArray, List.map_cons, List.map_nil]); first | done | rfl | (simp only [List.length_drop, List.length_take]; rfl)) ?_; (with_reducible refine (impl_ParkingOfWalk.calls kj62 _ _ t447 _ _ t450 t491 t494 _ ?side1 ?side2 ?side3 ?side4 A105.out).mono ?_); (case side1 => exact cbW (Kd.R_reads' HO_455000.out).2.2); (case side2 => exact (Kd.R_reads' HO_455000.out).2.1); (case side3 => exact cbW (Kd.R_reads' HO_455001.out).2.2); (case side4 => exact (Kd.R_reads' HO_455001.out).2.1); rintro e w113 ⟨v492, rfl, ho0, hb⟩; refine ⟨_, rfl, ?_⟩; have n0_ := Aside0.mk (Kd.R_elder' (rbW HO_5.out) (Kd.R_base ho0) hb); have n1_ := Aside0.mk (Kd.R_elder' (rbW HO_455000.out) (Kd.R_base ho0) hb); have n2_ := Aside0.mk (Kd.R_elder' (rbW HO_455001.out) (Kd.R_base ho0) hb); have n3_ := Aside0.mk (Kd.R_elder' (rbW HO_463000.out) (Kd.R_base ho0) hb); have n4_ := Aside0.mk (Kd.R_elder' (rbW HO_463001.out) (Kd.R_base ho0) hb); have n5_ := Aside0.mk (Kd.R_elder' (rbW HO_472000.out) (Kd.R_base ho0) hb); have n6_ := Aside0.mk (Kd.R_elder' (rbW HO_472001.out) (Kd.R_base ho0) hb); have n7_ := Aside0.mk (Kd.R_lower (Kd.R_new' (Kd.R_new' (Kd.R_new' (Kd.R_new' (Kd.R_new' (Kd.R_new' (Kd.R_new' ho0 (Kd.R_lt (rbW HO_5.out))) (Kd.R_lt (rbW HO_455000.out))) (Kd.R_lt (rbW HO_455001.out))) (Kd.R_lt (rbW HO_463000.out))) (Kd.R_lt (rbW HO_463001.out))) (Kd.R_lt (rbW HO_472000.out))) (Kd.R_lt (rbW HO_472001.out))) (below_size (by repeat (first | exact nbW HB.out | refine nbW (below_set ?_ GE454.out) | refine nbW (below_set ?_ GE462.out) | refine nbW (below_set ?_ GE471.out))))); have n8_ := Aside0.mk (blk_below (g := gb454) (o := .cells #[.slice Ao13 t447.length co13, .slice Ao15 t450.length co15] 26 (0, 0)) (kbW BK454.out) hb); have n9_ := Aside0.mk (blk_below (g := gb462) (o := .cells #[.slice Ao18 t455.length co18, .slice Ao21 t458.length co21] 26 (0, 0)) (kbW BK462.out) hb); have n10_ := Aside0.mk (blk_below (g := gb471) (o := .cells #[.slice Ao42 t465.length co42, .slice Ao46 t468.length co46] 26 (0, 0)) (kbW BK471.out) hb); have n11_ := Aside0.mk (below_step (by repeat (first | exact nbW HB.out | refine nbW (below_set ?_ GE454.out) | refine nbW (below_set ?_ GE462.out) | refine nbW (below_set ?_ GE471.out))) hb); clear HO_5; clear HO_455000; clear HO_455001; clear HO_463000; clear HO_463001; clear HO_472000; clear HO_472001; clear BK454; clear BK462; clear BK471; clear HB; have HO_5 := n0_; have HO_455000 := n1_; have HO_455001 := n2_; have HO_463000 := n3_; have HO_463001 := n4_; have HO_472000 := n5_; have HO_472001 := n6_; have HO493 := n7_; have BK454 := n8_; have BK462 := n9_; have BK471 := n10_; have HB := n11_; clear n0_ n1_ n2_ n3_ n4_ n5_ n6_ n7_ n8_ n9_ n10_ n11_; (try clear hb); (try clear hb2); (try clear hk); (try clear hi); (try clear ho0); have hcz114_0 : w113.cell? ⟨gb454, 0, none⟩ = some (.slice Ao13 t447.length co13) := (blk_cell BK454.out 0).trans rfl; have hcz114_1 : w113.cell? ⟨gb454, 1, none⟩ = some (.slice Ao15 t450.length co15) := (blk_cell BK454.out 1).trans rfl; have hfz114_0 := blk_frozen BK454.out 0; have hfz114_1 := blk_frozen BK454.out 1) | ((with_reducible refine gate_callee (f := 40) rfl ?_); refine goesL_ (some 107) rfl rfl Try.func40 (by kernel_rfl) rfl #[.agg #[.slice Ao13 t447.length co13, .slice Ao15 t450.length co15]] rfl (by (try simp only [List.map_toArray, List.map_cons, List.map_nil]); first | done | rfl | (simp only [List.length_drop, List.length_take]; rfl)) ?_; (with_reducible refine (impl_AreaOf.calls kj62 _ _ t447 _ _ t450 t495 t496 _ ?side1 ?side2 ?side3 ?side4 A106.out).mono ?_); (case side1 => exact cbW (Kd.R_reads' HO_455000.out).2.2); (case side2 => exact (Kd.R_reads' HO_455000.out).2.1); (case side3 => exact cbW (Kd.R_reads' HO_455001.out).2.2); (case side4 => exact (Kd.R_reads' HO_455001.out).2.1); rintro e w115 ⟨rfl, hb⟩; refine ⟨_, rfl, ?_⟩; have n0_ := Aside0.mk (Kd.R_below (rbW HO_5.out) hb); have n1_ := Aside0.mk (Kd.R_below (rbW HO_455000.out) hb); have n2_ := Aside0.mk (Kd.R_below (rbW HO_455001.out) hb); have n3_ := Aside0.mk (Kd.R_below (rbW HO_463000.out) hb); have n4_ := Aside0.mk (Kd.R_below (rbW HO_463001.out) hb); have n5_ := Aside0.mk (Kd.R_below (rbW HO_472000.out) hb); have n6_ := Aside0.mk (Kd.R_below (rbW HO_472001.out) hb); have n7_ := Aside0.mk (Kd.R_below (rbW HO493.out) hb); have n8_ := Aside0.mk (blk_below (g := gb454) (o := .cells #[.slice Ao13 t447.length co13, .slice Ao15 t450.length co15] 26 (0, 0)) (kbW BK454.out) hb); have n9_ := Aside0.mk (blk_below (g := gb462) (o := .cells #[.slice Ao18 t455.length co18, .slice Ao21 t458.length co21] 26 (0, 0)) (kbW BK462.out) hb); have n10_ := Aside0.mk (blk_below (g := gb471) (o := .cells #[.slice Ao42 t465.length co42, .slice Ao46 t468.length co46] 26 (0, 0)) (kbW BK471.out) hb); have n11_ := Aside0.mk (below_step (by repeat (first | exact nbW HB.out | refine nbW (below_set ?_ GE454.out) | refine nbW (below_set ?_ GE462.out) | refine nbW (below_set ?_ GE471.out))) hb); clear HO_5; clear HO_455000; clear HO_455001; clear HO_463000; clear HO_463001; clear HO_472000; clear HO_472001; clear HO493; clear BK454; clear BK462; clear BK471; clear HB; have HO_5 := n0_; have HO_455000 := n1_; have HO_455001 := n2_; have HO_463000 := n3_; have HO_463001 := n4_; have HO_472000 := n5_; have HO_472001 := n6_; have HO493 := n7_; have BK454 := n8_; have BK462 := n9_; have BK471 := n10_; have HB := n11_; clear n0_ n1_ n2_ n3_ n4_ n5_ n6_ n7_ n8_ n9_ n10_ n11_; (try clear hb); (try clear hb2); (try clear hk); (try clear hi); have hcz116_0 : w115.cell? ⟨gb454, 0, none⟩ = some (.slice Ao13 t447.length co13) := (blk_cell BK454.out 0).trans rfl; have hcz116_1 : w115.cell? ⟨gb454, 1, none⟩ = some (.slice Ao15 t450.length co15) := (blk_cell BK454.out 1).trans rfl; have hfz116_0 := blk_frozen BK454.out 0; have hfz116_1 := blk_frozen BK454.out 1) | ((with_reducible refine gate_callee (f := 41) rfl ?_); refine goesL_ (some 112) rfl rfl Try.func41 (by kernel_rfl) rfl #[.agg #[.slice Ao13 t447.length co13, .slice Ao15 t450.length co15]] rfl (by (try simp only [List.map_toArray, List.map_cons, List.map_nil]); first | done | rfl | (simp only [List.length_drop, List.length_take]; rfl)) ?_; (with_reducible refine (impl_TouchesOf.calls kj62 _ _ t447 _ _ t450 t497 t500 _ ?side1 ?side2 ?side3 ?side4 A107.out).mono ?_); (case side1 => exact cbW (Kd.R_reads' HO_455000.out).2.2); (case side2 => exact (Kd.R_reads' HO_455000.out).2.1); (case side3 => exact cbW (Kd.R_reads' HO_455001.out).2.2); (case side4 => exact (Kd.R_reads' HO_455001.out).2.1); rintro e w117 ⟨v498, rfl, ho0, hb⟩; refine ⟨_, rfl, ?_⟩; have n0_ := Aside0.mk (Kd.R_elder' (rbW HO_5.out) (Kd.Q_base ho0) hb); have n1_ := Aside0.mk (Kd.R_elder' (rbW HO_455000.out) (Kd.Q_base ho0) hb); have n2_ := Aside0.mk (Kd.R_elder' (rbW HO_455001.out) (Kd.Q_base ho0) hb); have n3_ := Aside0.mk (Kd.R_elder' (rbW HO_463000.out) (Kd.Q_base ho0) hb); have n4_ := Aside0.mk (Kd.R_elder' (rbW HO_463001.out) (Kd.Q_base ho0) hb); have n5_ := Aside0.mk (Kd.R_elder' (rbW HO_472000.out) (Kd.Q_base ho0) hb); have n6_ := Aside0.mk (Kd.R_elder' (rbW HO_472001.out) (Kd.Q_base ho0) hb); have n7_ := Aside0.mk (Kd.R_elder' (rbW HO493.out) (Kd.Q_base ho0) hb); have n8_ := Aside0.mk (Kd.Q_lower (Kd.Q_new' (Kd.Q_new' (Kd.Q_new' (Kd.Q_new' (Kd.Q_new' (Kd.Q_new' (Kd.Q_new' (Kd.Q_new' ho0 (Kd.R_lt (rbW HO_5.out))) (Kd.R_lt (rbW HO_455000.out))) (Kd.R_lt (rbW HO_455001.out))) (Kd.R_lt (rbW HO_463000.out))) (Kd.R_lt (rbW HO_463001.out))) (Kd.R_lt (rbW HO_472000.out))) (Kd.R_lt (rbW HO_472001.out))) (Kd.R_lt (rbW HO493.out))) (below_size (by repeat (first | exact nbW HB.out | refine nbW (below_set ?_ GE454.out) | refine nbW (below_set ?_ GE462.out) | refine nbW (below_set ?_ GE471.out))))); have n9_ := Aside0.mk (blk_below (g := gb454) (o := .cells #[.slice Ao13 t447.length co13, .slice Ao15 t450.length co15] 26 (0, 0)) (kbW BK454.out) hb); have n10_ := Aside0.mk (blk_below (g := gb462) (o := .cells #[.slice Ao18 t455.length co18, .slice Ao21 t458.length co21] 26 (0, 0)) (kbW BK462.out) hb); have n11_ := Aside0.mk (blk_below (g := gb471) (o := .cells #[.slice Ao42 t465.length co42, .slice Ao46 t468.length co46] 26 (0, 0)) (kbW BK471.out) hb); have n12_ := Aside0.mk (below_step (by repeat (first | exact nbW HB.out | refine nbW (below_set ?_ GE454.out) | refine nbW (below_set ?_ GE462.out) | refine nbW (below_set ?_ GE471.out))) hb); clear HO_5; clear HO_455000; clear HO_455001; clear HO_463000; clear HO_463001; clear HO_472000; clear HO_472001; clear HO493; clear BK454; clear BK462; clear BK471; clear HB; have HO_5 := n0_; have HO_455000 := n1_; have HO_455001 := n2_; have HO_463000 := n3_; have HO_463001 := n4_; have HO_472000 := n5_; have HO_472001 := n6_; have HO493 := n7_; have HO499 := n8_; have BK454 := n9_; have BK462 := n10_; have BK471 := n11_; have HB := n12_; clear n0_ n1_ n2_ n3_ n4_ n5_ n6_ n7_ n8_ n9_ n10_ n11_ n12_; (try clear hb); (try clear hb2); (try clear hk); (try clear hi); (try clear ho0)) | ((with_reducible refine gate_callee (f := 42) rfl ?_); refine goesL_ (some 117) rfl rfl Try.func42 (by kernel_rfl) rfl #[.slice Ao10 t444.length co10] rfl (by (try simp only [List.map_toArray, List.map_cons, List.map_nil]); first | done | rfl | (simp only [List.length_drop, List.length_take]; rfl)) ?_; (with_reducible refine (impl_CutsOf.calls kj62 _ _ t444 t501 t502 _ ?side1 ?side2 A108.out).mono ?_); (case side1 => exact cbW (Kd.R_reads' HO_5.out).2.2); (case side2 => exact (Kd.R_reads' HO_5.out).2.1); rintro e w118 ⟨v503, rfl, ho0, hb⟩; refine ⟨_, rfl, ?_⟩; have n0_ := Aside0.mk (Kd.R_elder' (rbW HO_5.out) (Kd.R_base ho0) hb); have n1_ := Aside0.mk (Kd.R_elder' (rbW HO_455000.out) (Kd.R_base ho0) hb); have n2_ := Aside0.mk (Kd.R_elder' (rbW HO_455001.out) (Kd.R_base ho0) hb); have n3_ := Aside0.mk (Kd.R_elder' (rbW HO_463000.out) (Kd.R_base ho0) hb); have n4_ := Aside0.mk (Kd.R_elder' (rbW HO_463001.out) (Kd.R_base ho0) hb); have n5_ := Aside0.mk (Kd.R_elder' (rbW HO_472000.out) (Kd.R_base ho0) hb); have n6_ := Aside0.mk (Kd.R_elder' (rbW HO_472001.out) (Kd.R_base ho0) hb); have n7_ := Aside0.mk (Kd.R_elder' (rbW HO493.out) (Kd.R_base ho0) hb); have n8_ := Aside0.mk (Kd.Q_elder' (by (with_reducible repeat (first | apply Kd.Q_alloc | apply Kd.Q_drewN | apply Kd.Q_drew)); exact HO499.out) (Kd.R_base ho0) hb); have n9_ := Aside0.mk (Kd.R_lower (Kd.R_new' (Kd.R_new' (Kd.R_new' (Kd.R_new' (Kd.R_new' (Kd.R_new' (Kd.R_new' (Kd.R_new' (Kd.R_new' ho0 (Kd.R_lt (rbW HO_5.out))) (Kd.R_lt (rbW HO_455000.out))) (Kd.R_lt (rbW HO_455001.out))) (Kd.R_lt (rbW HO_463000.out))) (Kd.R_lt (rbW HO_463001.out))) (Kd.R_lt (rbW HO_472000.out))) (Kd.R_lt (rbW HO_472001.out))) (Kd.R_lt (rbW HO493.out))) (Kd.Q_lt (by (with_reducible repeat (first | apply Kd.Q_alloc | apply Kd.Q_drewN | apply Kd.Q_drew)); exact HO499.out))) (below_size (by repeat (first | exact nbW HB.out | refine nbW (below_set ?_ GE454.out) | refine nbW (below_set ?_ GE462.out) | refine nbW (below_set ?_ GE471.out))))); have n10_ := Aside0.mk (blk_below (g := gb454) (o := .cells #[.slice Ao13 t447.length co13, .slice Ao15 t450.length co15] 26 (0, 0)) (kbW BK454.out) hb); have n11_ := Aside0.mk (blk_below (g := gb462) (o := .cells #[.slice Ao18 t455.length co18, .slice Ao21 t458.length co21] 26 (0, 0)) (kbW BK462.out) hb); have n12_ := Aside0.mk (blk_below (g := gb471) (o := .cells #[.slice Ao42 t465.length co42, .slice Ao46 t468.length co46] 26 (0, 0)) (kbW BK471.out) hb); have n13_ := Aside0.mk (below_step (by repeat (first | exact nbW HB.out | refine nbW (below_set ?_ GE454.out) | refine nbW (below_set ?_ GE462.out) | refine nbW (below_set ?_ GE471.out))) hb); clear HO_5; clear HO_455000; clear HO_455001; clear HO_463000; clear HO_463001; clear HO_472000; clear HO_472001; clear HO493; clear HO499; clear BK454; clear BK462; clear BK471; clear HB; have HO_5 := n0_; have HO_455000 := n1_; have HO_455001 := n2_; have HO_463000 := n3_; have HO_463001 := n4_; have HO_472000 := n5_; have HO_472001 := n6_; have HO493 := n7_; have HO499 := n8_; have HO504 := n9_; have BK454 := n10_; have BK462 := n11_; have BK471 := n12_; have HB := n13_; clear n0_ n1_ n2_ n3_ n4_ n5_ n6_ n7_ n8_ n9_ n10_ n11_ n12_ n13_; (try clear hb); (try clear hb2); (try clear hk); (try clear hi); (try clear ho0)))
               (try simp only [Act.put, List.setIfInBounds_toArray, List.set_cons_zero, List.set_cons_succ])
               go_cut [151] (fun v151 wc => ∃ (kq : Nat) (x151_108 : Bool), v151 = .bool x151_108 ∧ Aside0 (laws_FnParkingIsWalks.j3 kq t444 t495 x151_108 = some r) ∧ Aside0 (kq ≤ kj62) ∧ Aside0 (Kd.R (Kd.int .i64) 3 wc w.heap.size (fun k_ => some k_ ≠ ((.slice Ao13 t447.length co13) : Value).ownBlock ∧ some k_ ≠ ((.slice Ao15 t450.length co15) : Value).ownBlock ∧ some k_ ≠ ((.slice Ao18 t455.length co18) : Value).ownBlock ∧ some k_ ≠ ((.slice Ao21 t458.length co21) : Value).ownBlock ∧ some k_ ≠ ((.slice Ao42 t465.length co42) : Value).ownBlock ∧ some k_ ≠ ((.slice Ao46 t468.length co46) : Value).ownBlock) (.slice Ao10 t444.length co10) t444) ∧ Aside0 (Kd.R (Kd.int .i64) 3 wc w.heap.size (fun k_ => some k_ ≠ ((.slice Ao10 t444.length co10) : Value).ownBlock ∧ some k_ ≠ ((.slice Ao15 t450.length co15) : Value).ownBlock ∧ some k_ ≠ ((.slice Ao18 t455.length co18) : Value).ownBlock ∧ some k_ ≠ ((.slice Ao21 t458.length co21) : Value).ownBlock ∧ some k_ ≠ ((.slice Ao42 t465.length co42) : Value).ownBlock ∧ some k_ ≠ ((.slice Ao46 t468.length co46) : Value).ownBlock) (.slice Ao13 t447.length co13) t447) ∧ Aside0 (Kd.R (Kd.int .i64) 3 wc w.heap.size (fun k_ => some k_ ≠ ((.slice Ao10 t444.length co10) : Value).ownBlock ∧ some k_ ≠ ((.slice Ao13 t447.length co13) : Value).ownBlock ∧ some k_ ≠ ((.slice Ao18 t455.length co18) : Value).ownBlock ∧ some k_ ≠ ((.slice Ao21 t458.length co21) : Value).ownBlock ∧ some k_ ≠ ((.slice Ao42 t465.length co42) : Value).ownBlock ∧ some k_ ≠ ((.slice Ao46 t468.length co46) : Value).ownBlock) (.slice Ao15 t450.length co15) t450) ∧ Aside0 (Kd.R (Kd.int .i64) 3 wc w.heap.size (fun k_ => some k_ ≠ ((.slice Ao10 t444.length co10) : Value).ownBlock ∧ some k_ ≠ ((.slice Ao13 t447.length co13) : Value).ownBlock ∧ some k_ ≠ ((.slice Ao15 t450.length co15) : Value).ownBlock ∧ some k_ ≠ ((.slice Ao21 t458.length co21) : Value).ownBlock ∧ some k_ ≠ ((.slice Ao42 t465.length co42) : Value).ownBlock ∧ some k_ ≠ ((.slice Ao46 t468.length co46) : Value).ownBlock) (.slice Ao18 t455.length co18) t455) ∧ Aside0 (Kd.R (Kd.int .i64) 3 wc w.heap.size (fun k_ => some k_ ≠ ((.slice Ao10 t444.length co10) : Value).ownBlock ∧ some k_ ≠ ((.slice Ao13 t447.length co13) : Value).ownBlock ∧ some k_ ≠ ((.slice Ao15 t450.length co15) : Value).ownBlock ∧ some k_ ≠ ((.slice Ao18 t455.length co18) : Value).ownBlock ∧ some k_ ≠ ((.slice Ao42 t465.length co42) : Value).ownBlock ∧ some k_ ≠ ((.slice Ao46 t468.length co46) : Value).ownBlock) (.slice Ao21 t458.length co21) t458) ∧ Aside0 (Kd.R (Kd.int .i64) 3 wc w.heap.size (fun k_ => some k_ ≠ ((.slice Ao10 t444.length co10) : Value).ownBlock ∧ some k_ ≠ ((.slice Ao13 t447.length co13) : Value).ownBlock ∧ some k_ ≠ ((.slice Ao15 t450.length co15) : Value).ownBlock ∧ some k_ ≠ ((.slice Ao18 t455.length co18) : Value).ownBlock ∧ some k_ ≠ ((.slice Ao21 t458.length co21) : Value).ownBlock ∧ some k_ ≠ ((.slice Ao46 t468.length co46) : Value).ownBlock) (.slice Ao42 t465.length co42) t465) ∧ Aside0 (Kd.R (Kd.int .i64) 3 wc w.heap.size (fun k_ => some k_ ≠ ((.slice Ao10 t444.length co10) : Value).ownBlock ∧ some k_ ≠ ((.slice Ao13 t447.length co13) : Value).ownBlock ∧ some k_ ≠ ((.slice Ao15 t450.length co15) : Value).ownBlock ∧ some k_ ≠ ((.slice Ao18 t455.length co18) : Value).ownBlock ∧ some k_ ≠ ((.slice Ao21 t458.length co21) : Value).ownBlock ∧ some k_ ≠ ((.slice Ao42 t465.length co42) : Value).ownBlock) (.slice Ao46 t468.length co46) t468) ∧ Aside0 (wc.heap[gb454]? = some (.cells #[(.slice Ao13 t447.length co13), (.slice Ao15 t450.length co15)] 26 (0, 0))) ∧ Aside0 (wc.heap[gb462]? = some (.cells #[(.slice Ao18 t455.length co18), (.slice Ao21 t458.length co21)] 26 (0, 0))) ∧ Aside0 (wc.heap[gb471]? = some (.cells #[(.slice Ao42 t465.length co42), (.slice Ao46 t468.length co46)] 26 (0, 0))) ∧ Aside0 (Below w.heap.size w wc))
               case first =>
                have H := HC109.out
                clear HC109
                by_cases c119 : t494 = true
                ·as_aux_lemma =>
                  subst c119
                  have H1 : (if t496 = true then (if t500 = true then (if t502 = true then ((laws_wSame.f kj62 t491 t444).bind fun t505 => (if t505 = true then ((laws_wSame.f kj62 t497 t501).bind fun t506 => (if t506 = true then ((impl_AreHeights.f kj62 t447).bind fun t507 => (laws_FnParkingIsWalks.j3 kj62 t444 t495 (!t507))) else (laws_FnParkingIsWalks.j3 kj62 t444 t495 true))) else (laws_FnParkingIsWalks.j3 kj62 t444 t495 true))) else (laws_FnParkingIsWalks.j3 kj62 t444 t495 true)) else (laws_FnParkingIsWalks.j3 kj62 t444 t495 true)) else (laws_FnParkingIsWalks.j3 kj62 t444 t495 true)) = some r := by rw [if_pos rfl] at H; exact H
                  clear H
                  have H := H1
                  clear H1
                  by_cases c120 : t496 = true
                  ·subst c120
                   have H1 : (if t500 = true then (if t502 = true then ((laws_wSame.f kj62 t491 t444).bind fun t505 => (if t505 = true then ((laws_wSame.f kj62 t497 t501).bind fun t506 => (if t506 = true then ((impl_AreHeights.f kj62 t447).bind fun t507 => (laws_FnParkingIsWalks.j3 kj62 t444 t495 (!t507))) else (laws_FnParkingIsWalks.j3 kj62 t444 t495 true))) else (laws_FnParkingIsWalks.j3 kj62 t444 t495 true))) else (laws_FnParkingIsWalks.j3 kj62 t444 t495 true)) else (laws_FnParkingIsWalks.j3 kj62 t444 t495 true)) = some r := by rw [if_pos rfl] at H; exact H
                   clear H
                   have H := H1
                   clear H1
                   by_cases c121 : t500 = true
                   ·subst c121
                    have H1 : (if t502 = true then ((laws_wSame.f kj62 t491 t444).bind fun t505 => (if t505 = true then ((laws_wSame.f kj62 t497 t501).bind fun t506 => (if t506 = true then ((impl_AreHeights.f kj62 t447).bind fun t507 => (laws_FnParkingIsWalks.j3 kj62 t444 t495 (!t507))) else (laws_FnParkingIsWalks.j3 kj62 t444 t495 true))) else (laws_FnParkingIsWalks.j3 kj62 t444 t495 true))) else (laws_FnParkingIsWalks.j3 kj62 t444 t495 true)) = some r := by rw [if_pos rfl] at H; exact H
                    clear H
                    have H := H1
                    clear H1
                    by_cases c122 : t502 = true
                    ·subst c122
                     have H1 : ((laws_wSame.f kj62 t491 t444).bind fun t505 => (if t505 = true then ((laws_wSame.f kj62 t497 t501).bind fun t506 => (if t506 = true then ((impl_AreHeights.f kj62 t447).bind fun t507 => (laws_FnParkingIsWalks.j3 kj62 t444 t495 (!t507))) else (laws_FnParkingIsWalks.j3 kj62 t444 t495 true))) else (laws_FnParkingIsWalks.j3 kj62 t444 t495 true))) = some r := by rw [if_pos rfl] at H; exact H
                     clear H
                     have H := H1
                     clear H1
                     replace H := Option.bind_eq_some_iff.mp H
                     obtain ⟨t505, A1230, H⟩ := H
                     replace H : (if t505 = true then ((laws_wSame.f kj62 t497 t501).bind fun t506 => (if t506 = true then ((impl_AreHeights.f kj62 t447).bind fun t507 => (laws_FnParkingIsWalks.j3 kj62 t444 t495 (!t507))) else (laws_FnParkingIsWalks.j3 kj62 t444 t495 true))) else (laws_FnParkingIsWalks.j3 kj62 t444 t495 true)) = some r := H
                     have A123 := Aside0.mk A1230
                     clear A1230
                     by_cases c124 : t505 = true
                     ·subst c124
                      have H1 : ((laws_wSame.f kj62 t497 t501).bind fun t506 => (if t506 = true then ((impl_AreHeights.f kj62 t447).bind fun t507 => (laws_FnParkingIsWalks.j3 kj62 t444 t495 (!t507))) else (laws_FnParkingIsWalks.j3 kj62 t444 t495 true))) = some r := by rw [if_pos rfl] at H; exact H
                      clear H
                      have H := H1
                      clear H1
                      replace H := Option.bind_eq_some_iff.mp H
                      obtain ⟨t506, A1250, H⟩ := H
                      replace H : (if t506 = true then ((impl_AreHeights.f kj62 t447).bind fun t507 => (laws_FnParkingIsWalks.j3 kj62 t444 t495 (!t507))) else (laws_FnParkingIsWalks.j3 kj62 t444 t495 true)) = some r := H
                      have A125 := Aside0.mk A1250
                      clear A1250
                      by_cases c126 : t506 = true
                      ·subst c126
                       have H1 : ((impl_AreHeights.f kj62 t447).bind fun t507 => (laws_FnParkingIsWalks.j3 kj62 t444 t495 (!t507))) = some r := by rw [if_pos rfl] at H; exact H
                       clear H
                       have H := H1
                       clear H1
                       replace H := Option.bind_eq_some_iff.mp H
                       obtain ⟨t507, A1270, H⟩ := H
                       replace H : (laws_FnParkingIsWalks.j3 kj62 t444 t495 (!t507)) = some r := H
                       have A127 := Aside0.mk A1270
                       clear A1270
                       have H' := Aside0.mk H
                       clear H
                       obtain ⟨Ao128, co128, eo128⟩ := Kd.R_slice HO493.out
                       subst eo128
                       go_wp2_with (first | (go_at_call 15; (with_reducible refine (laws_wSame.calls kj62 _ _ t491 _ _ t444 true _ ?side1 ?side2 ?side3 ?side4 A123.out).mono ?_); (case side1 => exact cbW (Kd.R_reads' HO493.out).2.2); (case side2 => exact (Kd.R_reads' HO493.out).2.1); (case side3 => exact cbW (Kd.R_reads' HO_5.out).2.2); (case side4 => exact (Kd.R_reads' HO_5.out).2.1); rintro e w' ⟨rfl, ⟨nd, rfl⟩⟩; obtain ⟨Ao129, co129, eo129, _⟩ := Kd.Q_slice HO499.out; subst eo129; obtain ⟨Ao130, co130, eo130⟩ := Kd.R_slice HO504.out; subst eo130) | (go_at_call 15; (with_reducible refine (laws_wSame.calls kj62 _ _ t497 _ _ t501 true _ ?side1 ?side2 ?side3 ?side4 A125.out).mono ?_); (case side1 => exact cbW (Kd.Q_reads' HO499.out).2.2); (case side2 => exact (Kd.Q_reads' HO499.out).2.1); (case side3 => exact cbW (Kd.R_reads' HO504.out).2.2); (case side4 => exact (Kd.R_reads' HO504.out).2.1); rintro e w' ⟨rfl, ⟨nd, rfl⟩⟩; have hnb131 := NB454_462.out; have hnc131 := NB462_454.out; have hnb132 := NB454_471.out; have hnc132 := NB471_454.out; have hcz133_0 : w118.cell? ⟨gb454, 0, none⟩ = some (.slice Ao13 t447.length co13) := (blk_cell BK454.out 0).trans rfl; have hcz133_1 : w118.cell? ⟨gb454, 1, none⟩ = some (.slice Ao15 t450.length co15) := (blk_cell BK454.out 1).trans rfl; have hfz133_0 := blk_frozen BK454.out 0; have hfz133_1 := blk_frozen BK454.out 1) | (go_at_call 43; (with_reducible refine (impl_AreHeights.calls kj62 _ _ t447 t507 _ ?side1 ?side2 A127.out).mono ?_); (case side1 => exact cbW (Kd.R_reads' HO_455000.out).2.2); (case side2 => exact (Kd.R_reads' HO_455000.out).2.1); rintro e w' ⟨rfl, ⟨nd, rfl⟩⟩))
                       go_meet
                       case rel => exact ⟨_, (!t507), (by first | rfl | (simp; done) | (simp [*]; done)), H', ⟨by have := HJ7.out; have := HJ38.out; have := HJ62.out; first | omega | exact Nat.le_refl _⟩, ⟨by apply rbW; exact Kd.R_mono HO_5.out (fun _ hk => ⟨hk.1.1.1.1, ⟨hk.1.1.1.2.1, ⟨hk.1.1.1.2.2.1, ⟨hk.1.1.1.2.2.2.1, ⟨hk.1.1.1.2.2.2.2.1, hk.1.1.1.2.2.2.2.2⟩⟩⟩⟩⟩)⟩, ⟨by apply rbW; exact Kd.R_mono HO_455000.out (fun _ hk => ⟨hk.1.1.1.1, ⟨hk.1.1.1.2.1, ⟨hk.1.1.1.2.2.1, ⟨hk.1.1.1.2.2.2.1, ⟨hk.1.1.1.2.2.2.2.1, hk.1.1.1.2.2.2.2.2⟩⟩⟩⟩⟩)⟩, ⟨by apply rbW; exact Kd.R_mono HO_455001.out (fun _ hk => ⟨hk.1.1.1.1, ⟨hk.1.1.1.2.1, ⟨hk.1.1.1.2.2.1, ⟨hk.1.1.1.2.2.2.1, ⟨hk.1.1.1.2.2.2.2.1, hk.1.1.1.2.2.2.2.2⟩⟩⟩⟩⟩)⟩, ⟨by apply rbW; exact Kd.R_mono HO_463000.out (fun _ hk => ⟨hk.1.1.1.1, ⟨hk.1.1.1.2.1, ⟨hk.1.1.1.2.2.1, ⟨hk.1.1.1.2.2.2.1, ⟨hk.1.1.1.2.2.2.2.1, hk.1.1.1.2.2.2.2.2⟩⟩⟩⟩⟩)⟩, ⟨by apply rbW; exact Kd.R_mono HO_463001.out (fun _ hk => ⟨hk.1.1.1.1, ⟨hk.1.1.1.2.1, ⟨hk.1.1.1.2.2.1, ⟨hk.1.1.1.2.2.2.1, ⟨hk.1.1.1.2.2.2.2.1, hk.1.1.1.2.2.2.2.2⟩⟩⟩⟩⟩)⟩, ⟨by apply rbW; exact Kd.R_mono HO_472000.out (fun _ hk => ⟨hk.1.1.1.1, ⟨hk.1.1.1.2.1, ⟨hk.1.1.1.2.2.1, ⟨hk.1.1.1.2.2.2.1, ⟨hk.1.1.1.2.2.2.2.1, hk.1.1.1.2.2.2.2.2⟩⟩⟩⟩⟩)⟩, ⟨by apply rbW; exact Kd.R_mono HO_472001.out (fun _ hk => ⟨hk.1.1.1.1, ⟨hk.1.1.1.2.1, ⟨hk.1.1.1.2.2.1, ⟨hk.1.1.1.2.2.2.1, ⟨hk.1.1.1.2.2.2.2.1, hk.1.1.1.2.2.2.2.2⟩⟩⟩⟩⟩)⟩, ⟨by apply kbW; exact BK454.out⟩, ⟨by apply kbW; exact BK462.out⟩, ⟨by apply kbW; exact BK471.out⟩, ⟨by repeat (first | exact nbW HB.out | refine nbW (below_set ?_ GE454.out) | refine nbW (below_set ?_ GE462.out) | refine nbW (below_set ?_ GE471.out))⟩⟩
                      ·replace c126 := Bool.eq_false_iff.mpr c126
                       subst c126
                       have H1 : (laws_FnParkingIsWalks.j3 kj62 t444 t495 true) = some r := by rw [if_neg (show ¬ (false = true) by decide)] at H; exact H
                       clear H
                       have H := H1
                       clear H1
                       have H' := Aside0.mk H
                       clear H
                       obtain ⟨Ao134, co134, eo134⟩ := Kd.R_slice HO493.out
                       subst eo134
                       go_wp2_with (first | (go_at_call 15; (with_reducible refine (laws_wSame.calls kj62 _ _ t491 _ _ t444 true _ ?side1 ?side2 ?side3 ?side4 A123.out).mono ?_); (case side1 => exact cbW (Kd.R_reads' HO493.out).2.2); (case side2 => exact (Kd.R_reads' HO493.out).2.1); (case side3 => exact cbW (Kd.R_reads' HO_5.out).2.2); (case side4 => exact (Kd.R_reads' HO_5.out).2.1); rintro e w' ⟨rfl, ⟨nd, rfl⟩⟩; obtain ⟨Ao135, co135, eo135, _⟩ := Kd.Q_slice HO499.out; subst eo135; obtain ⟨Ao136, co136, eo136⟩ := Kd.R_slice HO504.out; subst eo136) | (go_at_call 15; (with_reducible refine (laws_wSame.calls kj62 _ _ t497 _ _ t501 false _ ?side1 ?side2 ?side3 ?side4 A125.out).mono ?_); (case side1 => exact cbW (Kd.Q_reads' HO499.out).2.2); (case side2 => exact (Kd.Q_reads' HO499.out).2.1); (case side3 => exact cbW (Kd.R_reads' HO504.out).2.2); (case side4 => exact (Kd.R_reads' HO504.out).2.1); rintro e w' ⟨rfl, ⟨nd, rfl⟩⟩))
                       go_meet
                       case rel => exact ⟨_, (true), (by first | rfl | (simp; done) | (simp [*]; done)), H', ⟨by have := HJ7.out; have := HJ38.out; have := HJ62.out; first | omega | exact Nat.le_refl _⟩, ⟨by apply rbW; exact Kd.R_mono HO_5.out (fun _ hk => ⟨hk.1.1.1.1, ⟨hk.1.1.1.2.1, ⟨hk.1.1.1.2.2.1, ⟨hk.1.1.1.2.2.2.1, ⟨hk.1.1.1.2.2.2.2.1, hk.1.1.1.2.2.2.2.2⟩⟩⟩⟩⟩)⟩, ⟨by apply rbW; exact Kd.R_mono HO_455000.out (fun _ hk => ⟨hk.1.1.1.1, ⟨hk.1.1.1.2.1, ⟨hk.1.1.1.2.2.1, ⟨hk.1.1.1.2.2.2.1, ⟨hk.1.1.1.2.2.2.2.1, hk.1.1.1.2.2.2.2.2⟩⟩⟩⟩⟩)⟩, ⟨by apply rbW; exact Kd.R_mono HO_455001.out (fun _ hk => ⟨hk.1.1.1.1, ⟨hk.1.1.1.2.1, ⟨hk.1.1.1.2.2.1, ⟨hk.1.1.1.2.2.2.1, ⟨hk.1.1.1.2.2.2.2.1, hk.1.1.1.2.2.2.2.2⟩⟩⟩⟩⟩)⟩, ⟨by apply rbW; exact Kd.R_mono HO_463000.out (fun _ hk => ⟨hk.1.1.1.1, ⟨hk.1.1.1.2.1, ⟨hk.1.1.1.2.2.1, ⟨hk.1.1.1.2.2.2.1, ⟨hk.1.1.1.2.2.2.2.1, hk.1.1.1.2.2.2.2.2⟩⟩⟩⟩⟩)⟩, ⟨by apply rbW; exact Kd.R_mono HO_463001.out (fun _ hk => ⟨hk.1.1.1.1, ⟨hk.1.1.1.2.1, ⟨hk.1.1.1.2.2.1, ⟨hk.1.1.1.2.2.2.1, ⟨hk.1.1.1.2.2.2.2.1, hk.1.1.1.2.2.2.2.2⟩⟩⟩⟩⟩)⟩, ⟨by apply rbW; exact Kd.R_mono HO_472000.out (fun _ hk => ⟨hk.1.1.1.1, ⟨hk.1.1.1.2.1, ⟨hk.1.1.1.2.2.1, ⟨hk.1.1.1.2.2.2.1, ⟨hk.1.1.1.2.2.2.2.1, hk.1.1.1.2.2.2.2.2⟩⟩⟩⟩⟩)⟩, ⟨by apply rbW; exact Kd.R_mono HO_472001.out (fun _ hk => ⟨hk.1.1.1.1, ⟨hk.1.1.1.2.1, ⟨hk.1.1.1.2.2.1, ⟨hk.1.1.1.2.2.2.1, ⟨hk.1.1.1.2.2.2.2.1, hk.1.1.1.2.2.2.2.2⟩⟩⟩⟩⟩)⟩, ⟨by apply kbW; exact BK454.out⟩, ⟨by apply kbW; exact BK462.out⟩, ⟨by apply kbW; exact BK471.out⟩, ⟨by repeat (first | exact nbW HB.out | refine nbW (below_set ?_ GE454.out) | refine nbW (below_set ?_ GE462.out) | refine nbW (below_set ?_ GE471.out))⟩⟩
                     ·replace c124 := Bool.eq_false_iff.mpr c124
                      subst c124
                      have H1 : (laws_FnParkingIsWalks.j3 kj62 t444 t495 true) = some r := by rw [if_neg (show ¬ (false = true) by decide)] at H; exact H
                      clear H
                      have H := H1
                      clear H1
                      have H' := Aside0.mk H
                      clear H
                      obtain ⟨Ao137, co137, eo137⟩ := Kd.R_slice HO493.out
                      subst eo137
                      go_wp2_with (first | (go_at_call 15; (with_reducible refine (laws_wSame.calls kj62 _ _ t491 _ _ t444 false _ ?side1 ?side2 ?side3 ?side4 A123.out).mono ?_); (case side1 => exact cbW (Kd.R_reads' HO493.out).2.2); (case side2 => exact (Kd.R_reads' HO493.out).2.1); (case side3 => exact cbW (Kd.R_reads' HO_5.out).2.2); (case side4 => exact (Kd.R_reads' HO_5.out).2.1); rintro e w' ⟨rfl, ⟨nd, rfl⟩⟩))
                      go_meet
                      case rel => exact ⟨_, (true), (by first | rfl | (simp; done) | (simp [*]; done)), H', ⟨by have := HJ7.out; have := HJ38.out; have := HJ62.out; first | omega | exact Nat.le_refl _⟩, ⟨by apply rbW; exact Kd.R_mono HO_5.out (fun _ hk => ⟨hk.1.1.1.1, ⟨hk.1.1.1.2.1, ⟨hk.1.1.1.2.2.1, ⟨hk.1.1.1.2.2.2.1, ⟨hk.1.1.1.2.2.2.2.1, hk.1.1.1.2.2.2.2.2⟩⟩⟩⟩⟩)⟩, ⟨by apply rbW; exact Kd.R_mono HO_455000.out (fun _ hk => ⟨hk.1.1.1.1, ⟨hk.1.1.1.2.1, ⟨hk.1.1.1.2.2.1, ⟨hk.1.1.1.2.2.2.1, ⟨hk.1.1.1.2.2.2.2.1, hk.1.1.1.2.2.2.2.2⟩⟩⟩⟩⟩)⟩, ⟨by apply rbW; exact Kd.R_mono HO_455001.out (fun _ hk => ⟨hk.1.1.1.1, ⟨hk.1.1.1.2.1, ⟨hk.1.1.1.2.2.1, ⟨hk.1.1.1.2.2.2.1, ⟨hk.1.1.1.2.2.2.2.1, hk.1.1.1.2.2.2.2.2⟩⟩⟩⟩⟩)⟩, ⟨by apply rbW; exact Kd.R_mono HO_463000.out (fun _ hk => ⟨hk.1.1.1.1, ⟨hk.1.1.1.2.1, ⟨hk.1.1.1.2.2.1, ⟨hk.1.1.1.2.2.2.1, ⟨hk.1.1.1.2.2.2.2.1, hk.1.1.1.2.2.2.2.2⟩⟩⟩⟩⟩)⟩, ⟨by apply rbW; exact Kd.R_mono HO_463001.out (fun _ hk => ⟨hk.1.1.1.1, ⟨hk.1.1.1.2.1, ⟨hk.1.1.1.2.2.1, ⟨hk.1.1.1.2.2.2.1, ⟨hk.1.1.1.2.2.2.2.1, hk.1.1.1.2.2.2.2.2⟩⟩⟩⟩⟩)⟩, ⟨by apply rbW; exact Kd.R_mono HO_472000.out (fun _ hk => ⟨hk.1.1.1.1, ⟨hk.1.1.1.2.1, ⟨hk.1.1.1.2.2.1, ⟨hk.1.1.1.2.2.2.1, ⟨hk.1.1.1.2.2.2.2.1, hk.1.1.1.2.2.2.2.2⟩⟩⟩⟩⟩)⟩, ⟨by apply rbW; exact Kd.R_mono HO_472001.out (fun _ hk => ⟨hk.1.1.1.1, ⟨hk.1.1.1.2.1, ⟨hk.1.1.1.2.2.1, ⟨hk.1.1.1.2.2.2.1, ⟨hk.1.1.1.2.2.2.2.1, hk.1.1.1.2.2.2.2.2⟩⟩⟩⟩⟩)⟩, ⟨by apply kbW; exact BK454.out⟩, ⟨by apply kbW; exact BK462.out⟩, ⟨by apply kbW; exact BK471.out⟩, ⟨by repeat (first | exact nbW HB.out | refine nbW (below_set ?_ GE454.out) | refine nbW (below_set ?_ GE462.out) | refine nbW (below_set ?_ GE471.out))⟩⟩
                    ·replace c122 := Bool.eq_false_iff.mpr c122
                     subst c122
                     have H1 : (laws_FnParkingIsWalks.j3 kj62 t444 t495 true) = some r := by rw [if_neg (show ¬ (false = true) by decide)] at H; exact H
                     clear H
                     have H := H1
                     clear H1
                     have H' := Aside0.mk H
                     clear H
                     go_wp2
                     go_meet
                     case rel => exact ⟨_, (true), (by first | rfl | (simp; done) | (simp [*]; done)), H', ⟨by have := HJ7.out; have := HJ38.out; have := HJ62.out; first | omega | exact Nat.le_refl _⟩, ⟨by apply rbW; exact Kd.R_mono HO_5.out (fun _ hk => ⟨hk.1.1.1.1, ⟨hk.1.1.1.2.1, ⟨hk.1.1.1.2.2.1, ⟨hk.1.1.1.2.2.2.1, ⟨hk.1.1.1.2.2.2.2.1, hk.1.1.1.2.2.2.2.2⟩⟩⟩⟩⟩)⟩, ⟨by apply rbW; exact Kd.R_mono HO_455000.out (fun _ hk => ⟨hk.1.1.1.1, ⟨hk.1.1.1.2.1, ⟨hk.1.1.1.2.2.1, ⟨hk.1.1.1.2.2.2.1, ⟨hk.1.1.1.2.2.2.2.1, hk.1.1.1.2.2.2.2.2⟩⟩⟩⟩⟩)⟩, ⟨by apply rbW; exact Kd.R_mono HO_455001.out (fun _ hk => ⟨hk.1.1.1.1, ⟨hk.1.1.1.2.1, ⟨hk.1.1.1.2.2.1, ⟨hk.1.1.1.2.2.2.1, ⟨hk.1.1.1.2.2.2.2.1, hk.1.1.1.2.2.2.2.2⟩⟩⟩⟩⟩)⟩, ⟨by apply rbW; exact Kd.R_mono HO_463000.out (fun _ hk => ⟨hk.1.1.1.1, ⟨hk.1.1.1.2.1, ⟨hk.1.1.1.2.2.1, ⟨hk.1.1.1.2.2.2.1, ⟨hk.1.1.1.2.2.2.2.1, hk.1.1.1.2.2.2.2.2⟩⟩⟩⟩⟩)⟩, ⟨by apply rbW; exact Kd.R_mono HO_463001.out (fun _ hk => ⟨hk.1.1.1.1, ⟨hk.1.1.1.2.1, ⟨hk.1.1.1.2.2.1, ⟨hk.1.1.1.2.2.2.1, ⟨hk.1.1.1.2.2.2.2.1, hk.1.1.1.2.2.2.2.2⟩⟩⟩⟩⟩)⟩, ⟨by apply rbW; exact Kd.R_mono HO_472000.out (fun _ hk => ⟨hk.1.1.1.1, ⟨hk.1.1.1.2.1, ⟨hk.1.1.1.2.2.1, ⟨hk.1.1.1.2.2.2.1, ⟨hk.1.1.1.2.2.2.2.1, hk.1.1.1.2.2.2.2.2⟩⟩⟩⟩⟩)⟩, ⟨by apply rbW; exact Kd.R_mono HO_472001.out (fun _ hk => ⟨hk.1.1.1.1, ⟨hk.1.1.1.2.1, ⟨hk.1.1.1.2.2.1, ⟨hk.1.1.1.2.2.2.1, ⟨hk.1.1.1.2.2.2.2.1, hk.1.1.1.2.2.2.2.2⟩⟩⟩⟩⟩)⟩, ⟨by apply kbW; exact BK454.out⟩, ⟨by apply kbW; exact BK462.out⟩, ⟨by apply kbW; exact BK471.out⟩, ⟨by repeat (first | exact nbW HB.out | refine nbW (below_set ?_ GE454.out) | refine nbW (below_set ?_ GE462.out) | refine nbW (below_set ?_ GE471.out))⟩⟩
                   ·replace c121 := Bool.eq_false_iff.mpr c121
                    subst c121
                    have H1 : (laws_FnParkingIsWalks.j3 kj62 t444 t495 true) = some r := by rw [if_neg (show ¬ (false = true) by decide)] at H; exact H
                    clear H
                    have H := H1
                    clear H1
                    have H' := Aside0.mk H
                    clear H
                    go_wp2
                    go_meet
                    case rel => exact ⟨_, (true), (by first | rfl | (simp; done) | (simp [*]; done)), H', ⟨by have := HJ7.out; have := HJ38.out; have := HJ62.out; first | omega | exact Nat.le_refl _⟩, ⟨by apply rbW; exact Kd.R_mono HO_5.out (fun _ hk => ⟨hk.1.1.1.1, ⟨hk.1.1.1.2.1, ⟨hk.1.1.1.2.2.1, ⟨hk.1.1.1.2.2.2.1, ⟨hk.1.1.1.2.2.2.2.1, hk.1.1.1.2.2.2.2.2⟩⟩⟩⟩⟩)⟩, ⟨by apply rbW; exact Kd.R_mono HO_455000.out (fun _ hk => ⟨hk.1.1.1.1, ⟨hk.1.1.1.2.1, ⟨hk.1.1.1.2.2.1, ⟨hk.1.1.1.2.2.2.1, ⟨hk.1.1.1.2.2.2.2.1, hk.1.1.1.2.2.2.2.2⟩⟩⟩⟩⟩)⟩, ⟨by apply rbW; exact Kd.R_mono HO_455001.out (fun _ hk => ⟨hk.1.1.1.1, ⟨hk.1.1.1.2.1, ⟨hk.1.1.1.2.2.1, ⟨hk.1.1.1.2.2.2.1, ⟨hk.1.1.1.2.2.2.2.1, hk.1.1.1.2.2.2.2.2⟩⟩⟩⟩⟩)⟩, ⟨by apply rbW; exact Kd.R_mono HO_463000.out (fun _ hk => ⟨hk.1.1.1.1, ⟨hk.1.1.1.2.1, ⟨hk.1.1.1.2.2.1, ⟨hk.1.1.1.2.2.2.1, ⟨hk.1.1.1.2.2.2.2.1, hk.1.1.1.2.2.2.2.2⟩⟩⟩⟩⟩)⟩, ⟨by apply rbW; exact Kd.R_mono HO_463001.out (fun _ hk => ⟨hk.1.1.1.1, ⟨hk.1.1.1.2.1, ⟨hk.1.1.1.2.2.1, ⟨hk.1.1.1.2.2.2.1, ⟨hk.1.1.1.2.2.2.2.1, hk.1.1.1.2.2.2.2.2⟩⟩⟩⟩⟩)⟩, ⟨by apply rbW; exact Kd.R_mono HO_472000.out (fun _ hk => ⟨hk.1.1.1.1, ⟨hk.1.1.1.2.1, ⟨hk.1.1.1.2.2.1, ⟨hk.1.1.1.2.2.2.1, ⟨hk.1.1.1.2.2.2.2.1, hk.1.1.1.2.2.2.2.2⟩⟩⟩⟩⟩)⟩, ⟨by apply rbW; exact Kd.R_mono HO_472001.out (fun _ hk => ⟨hk.1.1.1.1, ⟨hk.1.1.1.2.1, ⟨hk.1.1.1.2.2.1, ⟨hk.1.1.1.2.2.2.1, ⟨hk.1.1.1.2.2.2.2.1, hk.1.1.1.2.2.2.2.2⟩⟩⟩⟩⟩)⟩, ⟨by apply kbW; exact BK454.out⟩, ⟨by apply kbW; exact BK462.out⟩, ⟨by apply kbW; exact BK471.out⟩, ⟨by repeat (first | exact nbW HB.out | refine nbW (below_set ?_ GE454.out) | refine nbW (below_set ?_ GE462.out) | refine nbW (below_set ?_ GE471.out))⟩⟩
                  ·replace c120 := Bool.eq_false_iff.mpr c120
                   subst c120
                   have H1 : (laws_FnParkingIsWalks.j3 kj62 t444 t495 true) = some r := by rw [if_neg (show ¬ (false = true) by decide)] at H; exact H
                   clear H
                   have H := H1
                   clear H1
                   have H' := Aside0.mk H
                   clear H
                   go_wp2
                   go_meet
                   case rel => exact ⟨_, (true), (by first | rfl | (simp; done) | (simp [*]; done)), H', ⟨by have := HJ7.out; have := HJ38.out; have := HJ62.out; first | omega | exact Nat.le_refl _⟩, ⟨by apply rbW; exact Kd.R_mono HO_5.out (fun _ hk => ⟨hk.1.1.1.1, ⟨hk.1.1.1.2.1, ⟨hk.1.1.1.2.2.1, ⟨hk.1.1.1.2.2.2.1, ⟨hk.1.1.1.2.2.2.2.1, hk.1.1.1.2.2.2.2.2⟩⟩⟩⟩⟩)⟩, ⟨by apply rbW; exact Kd.R_mono HO_455000.out (fun _ hk => ⟨hk.1.1.1.1, ⟨hk.1.1.1.2.1, ⟨hk.1.1.1.2.2.1, ⟨hk.1.1.1.2.2.2.1, ⟨hk.1.1.1.2.2.2.2.1, hk.1.1.1.2.2.2.2.2⟩⟩⟩⟩⟩)⟩, ⟨by apply rbW; exact Kd.R_mono HO_455001.out (fun _ hk => ⟨hk.1.1.1.1, ⟨hk.1.1.1.2.1, ⟨hk.1.1.1.2.2.1, ⟨hk.1.1.1.2.2.2.1, ⟨hk.1.1.1.2.2.2.2.1, hk.1.1.1.2.2.2.2.2⟩⟩⟩⟩⟩)⟩, ⟨by apply rbW; exact Kd.R_mono HO_463000.out (fun _ hk => ⟨hk.1.1.1.1, ⟨hk.1.1.1.2.1, ⟨hk.1.1.1.2.2.1, ⟨hk.1.1.1.2.2.2.1, ⟨hk.1.1.1.2.2.2.2.1, hk.1.1.1.2.2.2.2.2⟩⟩⟩⟩⟩)⟩, ⟨by apply rbW; exact Kd.R_mono HO_463001.out (fun _ hk => ⟨hk.1.1.1.1, ⟨hk.1.1.1.2.1, ⟨hk.1.1.1.2.2.1, ⟨hk.1.1.1.2.2.2.1, ⟨hk.1.1.1.2.2.2.2.1, hk.1.1.1.2.2.2.2.2⟩⟩⟩⟩⟩)⟩, ⟨by apply rbW; exact Kd.R_mono HO_472000.out (fun _ hk => ⟨hk.1.1.1.1, ⟨hk.1.1.1.2.1, ⟨hk.1.1.1.2.2.1, ⟨hk.1.1.1.2.2.2.1, ⟨hk.1.1.1.2.2.2.2.1, hk.1.1.1.2.2.2.2.2⟩⟩⟩⟩⟩)⟩, ⟨by apply rbW; exact Kd.R_mono HO_472001.out (fun _ hk => ⟨hk.1.1.1.1, ⟨hk.1.1.1.2.1, ⟨hk.1.1.1.2.2.1, ⟨hk.1.1.1.2.2.2.1, ⟨hk.1.1.1.2.2.2.2.1, hk.1.1.1.2.2.2.2.2⟩⟩⟩⟩⟩)⟩, ⟨by apply kbW; exact BK454.out⟩, ⟨by apply kbW; exact BK462.out⟩, ⟨by apply kbW; exact BK471.out⟩, ⟨by repeat (first | exact nbW HB.out | refine nbW (below_set ?_ GE454.out) | refine nbW (below_set ?_ GE462.out) | refine nbW (below_set ?_ GE471.out))⟩⟩
                ·replace c119 := Bool.eq_false_iff.mpr c119
                 subst c119
                 have H1 : (laws_FnParkingIsWalks.j3 kj62 t444 t495 true) = some r := by rw [if_neg (show ¬ (false = true) by decide)] at H; exact H
                 clear H
                 have H := H1
                 clear H1
                 have H' := Aside0.mk H
                 clear H
                 go_wp2
                 go_meet
                 case rel => exact ⟨_, (true), (by first | rfl | (simp; done) | (simp [*]; done)), H', ⟨by have := HJ7.out; have := HJ38.out; have := HJ62.out; first | omega | exact Nat.le_refl _⟩, ⟨by apply rbW; exact Kd.R_mono HO_5.out (fun _ hk => ⟨hk.1.1.1.1, ⟨hk.1.1.1.2.1, ⟨hk.1.1.1.2.2.1, ⟨hk.1.1.1.2.2.2.1, ⟨hk.1.1.1.2.2.2.2.1, hk.1.1.1.2.2.2.2.2⟩⟩⟩⟩⟩)⟩, ⟨by apply rbW; exact Kd.R_mono HO_455000.out (fun _ hk => ⟨hk.1.1.1.1, ⟨hk.1.1.1.2.1, ⟨hk.1.1.1.2.2.1, ⟨hk.1.1.1.2.2.2.1, ⟨hk.1.1.1.2.2.2.2.1, hk.1.1.1.2.2.2.2.2⟩⟩⟩⟩⟩)⟩, ⟨by apply rbW; exact Kd.R_mono HO_455001.out (fun _ hk => ⟨hk.1.1.1.1, ⟨hk.1.1.1.2.1, ⟨hk.1.1.1.2.2.1, ⟨hk.1.1.1.2.2.2.1, ⟨hk.1.1.1.2.2.2.2.1, hk.1.1.1.2.2.2.2.2⟩⟩⟩⟩⟩)⟩, ⟨by apply rbW; exact Kd.R_mono HO_463000.out (fun _ hk => ⟨hk.1.1.1.1, ⟨hk.1.1.1.2.1, ⟨hk.1.1.1.2.2.1, ⟨hk.1.1.1.2.2.2.1, ⟨hk.1.1.1.2.2.2.2.1, hk.1.1.1.2.2.2.2.2⟩⟩⟩⟩⟩)⟩, ⟨by apply rbW; exact Kd.R_mono HO_463001.out (fun _ hk => ⟨hk.1.1.1.1, ⟨hk.1.1.1.2.1, ⟨hk.1.1.1.2.2.1, ⟨hk.1.1.1.2.2.2.1, ⟨hk.1.1.1.2.2.2.2.1, hk.1.1.1.2.2.2.2.2⟩⟩⟩⟩⟩)⟩, ⟨by apply rbW; exact Kd.R_mono HO_472000.out (fun _ hk => ⟨hk.1.1.1.1, ⟨hk.1.1.1.2.1, ⟨hk.1.1.1.2.2.1, ⟨hk.1.1.1.2.2.2.1, ⟨hk.1.1.1.2.2.2.2.1, hk.1.1.1.2.2.2.2.2⟩⟩⟩⟩⟩)⟩, ⟨by apply rbW; exact Kd.R_mono HO_472001.out (fun _ hk => ⟨hk.1.1.1.1, ⟨hk.1.1.1.2.1, ⟨hk.1.1.1.2.2.1, ⟨hk.1.1.1.2.2.2.1, ⟨hk.1.1.1.2.2.2.2.1, hk.1.1.1.2.2.2.2.2⟩⟩⟩⟩⟩)⟩, ⟨by apply kbW; exact BK454.out⟩, ⟨by apply kbW; exact BK462.out⟩, ⟨by apply kbW; exact BK471.out⟩, ⟨by repeat (first | exact nbW HB.out | refine nbW (below_set ?_ GE454.out) | refine nbW (below_set ?_ GE462.out) | refine nbW (below_set ?_ GE471.out))⟩⟩
               case rest =>
                clear HC109
                try clear c1
                try clear c2
                try clear p2
                try clear c3
                try clear c4
                try clear c5
                try clear c6
                try clear c7
                try clear c8
                try clear c9
                try clear c10
                try clear c11
                try clear c12
                try clear c13
                try clear c19
                try clear c22
                try clear c22b0
                try clear c22b1
                try clear c22b2
                try clear c24
                try clear c26
                try clear c31
                try clear c32
                try clear c33
                try clear c35
                try clear c36
                try clear c37
                try clear c38
                try clear c40
                try clear c41
                try clear c42
                try clear c43
                try clear c44
                try clear c50
                try clear c50b0
                try clear c50b1
                try clear c50b2
                try clear c52
                try clear c56
                try clear c57
                try clear c62
                try clear c64
                try clear c66
                try clear c68
                try clear c73
                try clear c74
                try clear c75
                try clear c78
                try clear c79
                try clear c86
                try clear c87
                try clear c88
                try clear c91
                try clear c92
                try clear c99
                try clear c100
                try clear c101
                try clear c104
                try clear c110
                try clear c111
                try clear c119
                try clear c120
                try clear c121
                try clear c122
                try clear c124
                try clear c126
                try clear c131
                try clear c132
                try clear hcz102_0
                try clear hcz102_1
                try clear hcz112_0
                try clear hcz112_1
                try clear hcz114_0
                try clear hcz114_1
                try clear hcz116_0
                try clear hcz116_1
                try clear hcz133_0
                try clear hcz133_1
                try clear hcz14_0
                try clear hcz14_1
                try clear hcz20_0
                try clear hcz20_1
                try clear hcz27_0
                try clear hcz27_1
                try clear hcz28_0
                try clear hcz28_1
                try clear hcz32_0
                try clear hcz32_1
                try clear hcz33_0
                try clear hcz33_1
                try clear hcz45_0
                try clear hcz45_1
                try clear hcz48_0
                try clear hcz48_1
                try clear hcz58_0
                try clear hcz58_1
                try clear hcz76_0
                try clear hcz76_1
                try clear hcz80_0
                try clear hcz80_1
                try clear hcz89_0
                try clear hcz89_1
                try clear hcz93_0
                try clear hcz93_1
                try clear hfz102_0
                try clear hfz102_1
                try clear hfz112_0
                try clear hfz112_1
                try clear hfz114_0
                try clear hfz114_1
                try clear hfz116_0
                try clear hfz116_1
                try clear hfz133_0
                try clear hfz133_1
                try clear hfz14_0
                try clear hfz14_1
                try clear hfz20_0
                try clear hfz20_1
                try clear hfz27_0
                try clear hfz27_1
                try clear hfz28_0
                try clear hfz28_1
                try clear hfz32_0
                try clear hfz32_1
                try clear hfz33_0
                try clear hfz33_1
                try clear hfz45_0
                try clear hfz45_1
                try clear hfz48_0
                try clear hfz48_1
                try clear hfz58_0
                try clear hfz58_1
                try clear hfz76_0
                try clear hfz76_1
                try clear hfz80_0
                try clear hfz80_1
                try clear hfz89_0
                try clear hfz89_1
                try clear hfz93_0
                try clear hfz93_1
                try clear p2
                obtain ⟨kq, x151_108, rfl, HA, HJ108, HO_5, HO_455000, HO_455001, HO_463000, HO_463001, HO_472000, HO_472001, BK454, BK462, BK471, HB⟩ := hcut
                cases kq with
                | zero => exact absurd HA.out (by simp [laws_FnParkingIsWalks.j3])
                | succ kj108 =>
                 have H := HA.out
                 clear HA
                 simp only [laws_FnParkingIsWalks.j3] at H
                 by_cases c138 : x151_108 = true
                 ·subst c138
                  have H1 : (some false) = some r := by rw [if_pos rfl] at H; exact H
                  clear H
                  have H := H1
                  clear H1
                  obtain rfl := Option.some.inj H
                  go_wp2
                  go_ret
                  exact ⟨by first | rfl | (simp [errW_none, errW_some] <;> rfl) | (simp [*, errW_none, errW_some] <;> rfl), by repeat (first | exact nbW HB.out | refine nbW (below_set ?_ GE454.out) | refine nbW (below_set ?_ GE462.out) | refine nbW (below_set ?_ GE471.out))⟩
                 ·replace c138 := Bool.eq_false_iff.mpr c138
                  subst c138
                  have H1 : (if (t444.length : Int) = 0 then (some (t495 == 0)) else ((impl_TotalDistance.f kj108 t444 (t444.length : Int)).bind fun bt508 => (if bt508.2 = true then (if t495 = bt508.1 then ((laws_wSum.f kj108 t444).bind fun t510 => (some (t495 == (wrap64 ((wrap64 (Int.tdiv (wrap64 ((t444.length : Int) * (wrap64 ((t444.length : Int) - 1)))) 2)) - t510))))) else (some false)) else (some false)))) = some r := by rw [if_neg (show ¬ (false = true) by decide)] at H; exact H
                  clear H
                  have H := H1
                  clear H1
                  by_cases c139 : (t444.length : Int) = 0
                  ·rw [if_pos c139] at H
                   have c139b0 : ((t444.length : Int) == 0) = true := beq_iff_eq.mpr c139
                   have c139b1 : ((t444.length : Int) != 0) = false := bne_eq_false_iff_eq.mpr c139
                   clear c139
                   obtain rfl := Option.some.inj H
                   go_wp2
                   go_ret
                   exact ⟨by first | rfl | (simp [errW_none, errW_some] <;> rfl) | (simp [*, errW_none, errW_some] <;> rfl), by repeat (first | exact nbW HB.out | refine nbW (below_set ?_ GE454.out) | refine nbW (below_set ?_ GE462.out) | refine nbW (below_set ?_ GE471.out))⟩
                  ·rw [if_neg c139] at H
                   have c139b0 : ((t444.length : Int) == 0) = false := beq_eq_false_iff_ne.mpr c139
                   have c139b1 : ((t444.length : Int) != 0) = true := bne_iff_ne.mpr c139
                   have c139b2 : ¬ (t444 = []) := fun h_ => c139 (by rw [h_]; rfl)
                   replace H := Option.bind_eq_some_iff.mp H
                   obtain ⟨⟨t508, t509⟩, A1400, H⟩ := H
                   replace H : (if t509 = true then (if t495 = t508 then ((laws_wSum.f kj108 t444).bind fun t510 => (some (t495 == (wrap64 ((wrap64 (Int.tdiv (wrap64 ((t444.length : Int) * (wrap64 ((t444.length : Int) - 1)))) 2)) - t510))))) else (some false)) else (some false)) = some r := H
                   have A140 := Aside0.mk A1400
                   clear A1400
                   by_cases c141 : t509 = true
                   ·subst c141
                    have H1 : (if t495 = t508 then ((laws_wSum.f kj108 t444).bind fun t510 => (some (t495 == (wrap64 ((wrap64 (Int.tdiv (wrap64 ((t444.length : Int) * (wrap64 ((t444.length : Int) - 1)))) 2)) - t510))))) else (some false)) = some r := by rw [if_pos rfl] at H; exact H
                    clear H
                    have H := H1
                    clear H1
                    by_cases c142 : t495 = t508
                    ·rw [if_pos c142] at H
                     have c142b0 : (t495 == t508) = true := beq_iff_eq.mpr c142
                     have c142b1 : (t495 != t508) = false := bne_eq_false_iff_eq.mpr c142
                     clear c142
                     replace H := Option.bind_eq_some_iff.mp H
                     obtain ⟨t510, A1430, H⟩ := H
                     replace H : (some (t495 == (wrap64 ((wrap64 (Int.tdiv (wrap64 ((t444.length : Int) * (wrap64 ((t444.length : Int) - 1)))) 2)) - t510)))) = some r := H
                     have A143 := Aside0.mk A1430
                     clear A1430
                     obtain rfl := Option.some.inj H
                     go_wp2_with (first | ((with_reducible refine gate_callee (f := 44) rfl ?_); refine goesL_ (some 161) rfl rfl Try.func44 (by kernel_rfl) rfl #[.slice Ao10 t444.length co10, .int .i64 (t444.length : Int)] rfl (by (try simp only [List.map_toArray, List.map_cons, List.map_nil]); first | done | rfl | (simp only [List.length_drop, List.length_take]; rfl)) ?_; (with_reducible refine (impl_TotalDistance.calls kj108 _ _ t444 (t444.length : Int) t508 true _ ?side1 ?side2 A140.out).mono ?_); (case side1 => exact cbW (Kd.R_reads' HO_5.out).2.2); (case side2 => exact (Kd.R_reads' HO_5.out).2.1); rintro e w144 ⟨rfl, hb⟩; refine ⟨_, rfl, ?_⟩; have n0_ := Aside0.mk (Kd.R_below (rbW HO_5.out) hb); have n1_ := Aside0.mk (Kd.R_below (rbW HO_455000.out) hb); have n2_ := Aside0.mk (Kd.R_below (rbW HO_455001.out) hb); have n3_ := Aside0.mk (Kd.R_below (rbW HO_463000.out) hb); have n4_ := Aside0.mk (Kd.R_below (rbW HO_463001.out) hb); have n5_ := Aside0.mk (Kd.R_below (rbW HO_472000.out) hb); have n6_ := Aside0.mk (Kd.R_below (rbW HO_472001.out) hb); have n7_ := Aside0.mk (blk_below (g := gb454) (o := .cells #[.slice Ao13 t447.length co13, .slice Ao15 t450.length co15] 26 (0, 0)) (kbW BK454.out) hb); have n8_ := Aside0.mk (blk_below (g := gb462) (o := .cells #[.slice Ao18 t455.length co18, .slice Ao21 t458.length co21] 26 (0, 0)) (kbW BK462.out) hb); have n9_ := Aside0.mk (blk_below (g := gb471) (o := .cells #[.slice Ao42 t465.length co42, .slice Ao46 t468.length co46] 26 (0, 0)) (kbW BK471.out) hb); have n10_ := Aside0.mk (below_step (by repeat (first | exact nbW HB.out | refine nbW (below_set ?_ GE454.out) | refine nbW (below_set ?_ GE462.out) | refine nbW (below_set ?_ GE471.out))) hb); clear HO_5; clear HO_455000; clear HO_455001; clear HO_463000; clear HO_463001; clear HO_472000; clear HO_472001; clear BK454; clear BK462; clear BK471; clear HB; have HO_5 := n0_; have HO_455000 := n1_; have HO_455001 := n2_; have HO_463000 := n3_; have HO_463001 := n4_; have HO_472000 := n5_; have HO_472001 := n6_; have BK454 := n7_; have BK462 := n8_; have BK471 := n9_; have HB := n10_; clear n0_ n1_ n2_ n3_ n4_ n5_ n6_ n7_ n8_ n9_ n10_; (try clear hb); (try clear hb2); (try clear hk); (try clear hi)) | (go_at_call 28; (with_reducible refine (laws_wSum.calls kj108 _ _ t444 t510 _ ?side1 ?side2 A143.out).mono ?_); (case side1 => exact cbW (Kd.R_reads' HO_5.out).2.2); (case side2 => exact (Kd.R_reads' HO_5.out).2.1); rintro e w' ⟨rfl, ⟨nd, rfl⟩⟩))
                     go_ret
                     exact ⟨by first | rfl | (simp [errW_none, errW_some] <;> rfl) | (simp [*, errW_none, errW_some] <;> rfl), by repeat (first | exact nbW HB.out | refine nbW (below_set ?_ GE454.out) | refine nbW (below_set ?_ GE462.out) | refine nbW (below_set ?_ GE471.out))⟩
                    ·rw [if_neg c142] at H
                     have c142b0 : (t495 == t508) = false := beq_eq_false_iff_ne.mpr c142
                     have c142b1 : (t495 != t508) = true := bne_iff_ne.mpr c142
                     obtain rfl := Option.some.inj H
                     go_wp2_with (first | ((with_reducible refine gate_callee (f := 44) rfl ?_); refine goesL_ (some 161) rfl rfl Try.func44 (by kernel_rfl) rfl #[.slice Ao10 t444.length co10, .int .i64 (t444.length : Int)] rfl (by (try simp only [List.map_toArray, List.map_cons, List.map_nil]); first | done | rfl | (simp only [List.length_drop, List.length_take]; rfl)) ?_; (with_reducible refine (impl_TotalDistance.calls kj108 _ _ t444 (t444.length : Int) t508 true _ ?side1 ?side2 A140.out).mono ?_); (case side1 => exact cbW (Kd.R_reads' HO_5.out).2.2); (case side2 => exact (Kd.R_reads' HO_5.out).2.1); rintro e w145 ⟨rfl, hb⟩; refine ⟨_, rfl, ?_⟩; have n0_ := Aside0.mk (Kd.R_below (rbW HO_5.out) hb); have n1_ := Aside0.mk (Kd.R_below (rbW HO_455000.out) hb); have n2_ := Aside0.mk (Kd.R_below (rbW HO_455001.out) hb); have n3_ := Aside0.mk (Kd.R_below (rbW HO_463000.out) hb); have n4_ := Aside0.mk (Kd.R_below (rbW HO_463001.out) hb); have n5_ := Aside0.mk (Kd.R_below (rbW HO_472000.out) hb); have n6_ := Aside0.mk (Kd.R_below (rbW HO_472001.out) hb); have n7_ := Aside0.mk (blk_below (g := gb454) (o := .cells #[.slice Ao13 t447.length co13, .slice Ao15 t450.length co15] 26 (0, 0)) (kbW BK454.out) hb); have n8_ := Aside0.mk (blk_below (g := gb462) (o := .cells #[.slice Ao18 t455.length co18, .slice Ao21 t458.length co21] 26 (0, 0)) (kbW BK462.out) hb); have n9_ := Aside0.mk (blk_below (g := gb471) (o := .cells #[.slice Ao42 t465.length co42, .slice Ao46 t468.length co46] 26 (0, 0)) (kbW BK471.out) hb); have n10_ := Aside0.mk (below_step (by repeat (first | exact nbW HB.out | refine nbW (below_set ?_ GE454.out) | refine nbW (below_set ?_ GE462.out) | refine nbW (below_set ?_ GE471.out))) hb); clear HO_5; clear HO_455000; clear HO_455001; clear HO_463000; clear HO_463001; clear HO_472000; clear HO_472001; clear BK454; clear BK462; clear BK471; clear HB; have HO_5 := n0_; have HO_455000 := n1_; have HO_455001 := n2_; have HO_463000 := n3_; have HO_463001 := n4_; have HO_472000 := n5_; have HO_472001 := n6_; have BK454 := n7_; have BK462 := n8_; have BK471 := n9_; have HB := n10_; clear n0_ n1_ n2_ n3_ n4_ n5_ n6_ n7_ n8_ n9_ n10_; (try clear hb); (try clear hb2); (try clear hk); (try clear hi)))
                     go_ret
                     exact ⟨by first | rfl | (simp [errW_none, errW_some] <;> rfl) | (simp [*, errW_none, errW_some] <;> rfl), by repeat (first | exact nbW HB.out | refine nbW (below_set ?_ GE454.out) | refine nbW (below_set ?_ GE462.out) | refine nbW (below_set ?_ GE471.out))⟩
                   ·replace c141 := Bool.eq_false_iff.mpr c141
                    subst c141
                    have H1 : (some false) = some r := by rw [if_neg (show ¬ (false = true) by decide)] at H; exact H
                    clear H
                    have H := H1
                    clear H1
                    obtain rfl := Option.some.inj H
                    go_wp2_with (first | ((with_reducible refine gate_callee (f := 44) rfl ?_); refine goesL_ (some 161) rfl rfl Try.func44 (by kernel_rfl) rfl #[.slice Ao10 t444.length co10, .int .i64 (t444.length : Int)] rfl (by (try simp only [List.map_toArray, List.map_cons, List.map_nil]); first | done | rfl | (simp only [List.length_drop, List.length_take]; rfl)) ?_; (with_reducible refine (impl_TotalDistance.calls kj108 _ _ t444 (t444.length : Int) t508 false _ ?side1 ?side2 A140.out).mono ?_); (case side1 => exact cbW (Kd.R_reads' HO_5.out).2.2); (case side2 => exact (Kd.R_reads' HO_5.out).2.1); rintro e w146 ⟨rfl, hb⟩; refine ⟨_, rfl, ?_⟩; have n0_ := Aside0.mk (Kd.R_below (rbW HO_5.out) hb); have n1_ := Aside0.mk (Kd.R_below (rbW HO_455000.out) hb); have n2_ := Aside0.mk (Kd.R_below (rbW HO_455001.out) hb); have n3_ := Aside0.mk (Kd.R_below (rbW HO_463000.out) hb); have n4_ := Aside0.mk (Kd.R_below (rbW HO_463001.out) hb); have n5_ := Aside0.mk (Kd.R_below (rbW HO_472000.out) hb); have n6_ := Aside0.mk (Kd.R_below (rbW HO_472001.out) hb); have n7_ := Aside0.mk (blk_below (g := gb454) (o := .cells #[.slice Ao13 t447.length co13, .slice Ao15 t450.length co15] 26 (0, 0)) (kbW BK454.out) hb); have n8_ := Aside0.mk (blk_below (g := gb462) (o := .cells #[.slice Ao18 t455.length co18, .slice Ao21 t458.length co21] 26 (0, 0)) (kbW BK462.out) hb); have n9_ := Aside0.mk (blk_below (g := gb471) (o := .cells #[.slice Ao42 t465.length co42, .slice Ao46 t468.length co46] 26 (0, 0)) (kbW BK471.out) hb); have n10_ := Aside0.mk (below_step (by repeat (first | exact nbW HB.out | refine nbW (below_set ?_ GE454.out) | refine nbW (below_set ?_ GE462.out) | refine nbW (below_set ?_ GE471.out))) hb); clear HO_5; clear HO_455000; clear HO_455001; clear HO_463000; clear HO_463001; clear HO_472000; clear HO_472001; clear BK454; clear BK462; clear BK471; clear HB; have HO_5 := n0_; have HO_455000 := n1_; have HO_455001 := n2_; have HO_463000 := n3_; have HO_463001 := n4_; have HO_472000 := n5_; have HO_472001 := n6_; have BK454 := n7_; have BK462 := n8_; have BK471 := n9_; have HB := n10_; clear n0_ n1_ n2_ n3_ n4_ n5_ n6_ n7_ n8_ n9_ n10_; (try clear hb); (try clear hb2); (try clear hk); (try clear hi)))
                    go_ret
                    exact ⟨by first | rfl | (simp [errW_none, errW_some] <;> rfl) | (simp [*, errW_none, errW_some] <;> rfl), by repeat (first | exact nbW HB.out | refine nbW (below_set ?_ GE454.out) | refine nbW (below_set ?_ GE462.out) | refine nbW (below_set ?_ GE471.out))⟩
             ·replace c104 := Bool.eq_false_iff.mpr c104
              subst c104
              have H1 : (some true) = some r := by rw [if_neg (show ¬ (false = true) by decide)] at H; exact H
              clear H
              have H := H1
              clear H1
              obtain rfl := Option.some.inj H
              go_wp2
              go_ret
              exact ⟨by first | rfl | (simp [errW_none, errW_some] <;> rfl) | (simp [*, errW_none, errW_some] <;> rfl), by repeat (first | exact nbW HB.out | refine nbW (below_set ?_ GE454.out) | refine nbW (below_set ?_ GE462.out) | refine nbW (below_set ?_ GE471.out))⟩

/-- THE ONE PURE STATEMENT of laws_FnParkingIsWalks: yours. -/
def laws_FnParkingIsWalks.Pure : Prop := ∀ (l0 : List Int) (l1 : List Int), l0.length ≤ maxLen → l0.length * 1 ≤ 140737488351232 → (∀ x ∈ l0, (Lit.int .u8 x).wf = true) → l1.length ≤ maxLen → l1.length * 1 ≤ 140737488351232 → (∀ x ∈ l1, (Lit.int .u8 x).wf = true) → ∃ k, laws_FnParkingIsWalks.f k l0 l1 = some true
theorem laws_FnParkingIsWalks.walk (P : laws_FnParkingIsWalks.Pure) (a0 : Option Addr) (len0 cap0 : Nat) (z0 : List Int) (a1 : Option Addr) (len1 cap1 : Nat) (z1 : List Int) (w : World) (w0 : (a0 = none ∧ len0 = 0 ∧ cap0 = 0 ∧ z0 = []) ∨ ∃ x, a0 = some x ∧ len0 ≤ cap0 ∧ cap0 ≤ maxLen ∧ z0.length = cap0 ∧ (∀ i, i < z0.length → w.cell? (x.add i) = some (.int .u8 (z0.getD i 0))) ∧ ∀ n ∈ z0, (Lit.int .u8 n).wf = true) (y0 : len0 * 1 ≤ 140737488351232) (w1 : (a1 = none ∧ len1 = 0 ∧ cap1 = 0 ∧ z1 = []) ∨ ∃ x, a1 = some x ∧ len1 ≤ cap1 ∧ cap1 ≤ maxLen ∧ z1.length = cap1 ∧ (∀ i, i < z1.length → w.cell? (x.add i) = some (.int .u8 (z1.getD i 0))) ∧ ∀ n ∈ z1, (Lit.int .u8 n).wf = true) (y1 : len1 * 1 ≤ 140737488351232) :
  Calls Try.prog 5 #[.slice a0 len0 cap0, .slice a1 len1 cap1] w fun e w' => e = .returned (.bool true) ∧ Below w.heap.size w w' := by
 obtain ⟨l0, rfl, hr0, hm0, hw0, hc0⟩ := ReadsInt.ofRowC w0
 obtain ⟨l1, rfl, hr1, hm1, hw1, hc1⟩ := ReadsInt.ofRowC w1
 obtain ⟨k, h⟩ := P l0 l1 hm0 y0 hw0 hm1 y1 hw1
 refine (laws_FnParkingIsWalks.calls k _ _ l0 _ _ l1 true w (Kd.C_of_reads (d := (0 : Int)) (h1 := fun _ => rfl) hr0) hc0 (Kd.C_of_reads (d := (0 : Int)) (h1 := fun _ => rfl) hr1) hc1 h).mono ?_
 rintro e w' ⟨rfl, hd⟩
 exact ⟨rfl, hd⟩

end Go.Proofs.Ytkbdjbmalpkkfaa.PFnParkingIsWalks
