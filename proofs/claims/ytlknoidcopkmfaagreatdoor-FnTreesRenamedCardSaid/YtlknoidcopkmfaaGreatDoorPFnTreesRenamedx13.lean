-- Written by a program of this session for this claim (its own turn of the print).
import Derived.Test.YtlknoidcopkmfaaGreatDoorPFnTreesRenamedx0
import Derived.Test.YtlknoidcopkmfaaGreatDoorPFnTreesRenamedx1
import Derived.Test.YtlknoidcopkmfaaGreatDoorPFnTreesRenamedx3
import Derived.Test.YtlknoidcopkmfaaGreatDoorPFnTreesRenamedx4
import Derived.Test.YtlknoidcopkmfaaGreatDoorPFnTreesRenamedx6
import Derived.Test.YtlknoidcopkmfaaGreatDoorPFnTreesRenamedx7
import Derived.Test.YtlknoidcopkmfaaGreatDoorPFnTreesRenamedx8
import Derived.Test.YtlknoidcopkmfaaGreatDoorPFnTreesRenamedx9
import Derived.Test.YtlknoidcopkmfaaGreatDoorPFnTreesRenamedx11
import Derived.Test.YtlknoidcopkmfaaGreatDoorPFnTreesRenamedx12
namespace Go.Proofs.YtlknoidcopkmfaaGreatDoor.PFnTreesRenamed
open Go.RowKit Go.Proofs.YtlknoidcopkmfaaGreatDoorW.PrintWords Go.Proofs.YtlknoidcopkmfaaGreatDoorW.PrintLast Go.Proofs.YtlknoidcopkmfaaGreatDoorW.PrintMore
attribute [local go_sem] max2_int min2_int max_two min_two max_three min_three max_four min_four   -- for this text's walks alone
set_option linter.unusedVariables false
set_option linter.unusedSimpArgs false

/-! ### laws_FnTreesRenamed: function 4 -/
mutual
def laws_FnTreesRenamed.j0 : Nat → List Int → List Int → List Int → List Int → List Int → Bool → Bool → Option (Bool)
 | 0, _, _, _, _, _, _, _ => none
 | k + 1, x0, x1, x5, x6, x7, x8, x73 => if x73 = true then (some false) else (if x8 = true then ((impl_DepthsOf.f k x5).bind fun bt570 => ((impl_DepthsOf.f k x7).bind fun bt574 => ((impl_BelowCounts.f k x5).bind fun bt578 => ((impl_BelowCounts.f k x7).bind fun bt582 => (if bt570.2 = true then (if bt574.2 = true then (if bt578.2 = true then (laws_FnTreesRenamed.j1 k x0 x1 x6 bt570.1 bt574.1 bt578.1 bt582.1 (!bt582.2)) else (laws_FnTreesRenamed.j1 k x0 x1 x6 bt570.1 bt574.1 bt578.1 bt582.1 true)) else (laws_FnTreesRenamed.j1 k x0 x1 x6 bt570.1 bt574.1 bt578.1 bt582.1 true)) else (laws_FnTreesRenamed.j1 k x0 x1 x6 bt570.1 bt574.1 bt578.1 bt582.1 true)))))) else (laws_FnTreesRenamed.j3 k x0 x1))
def laws_FnTreesRenamed.j3 : Nat → List Int → List Int → Option (Bool)
 | 0, _, _ => none
 | k + 1, x0, x1 => (spec_DrawRerootTree.f k x1).bind fun bt591 => ((impl_RerootTree.f k bt591.1 bt591.2).bind fun bt595 => ((spec_RerootTree.f k bt591.1 bt591.2).bind fun bt599 => (if (bt595.2 != bt599.2) = true then (laws_FnTreesRenamed.j4 k x0 x1 bt591.1 bt591.2 bt595.1 bt595.2 true) else ((laws_wSame.f k bt595.1 bt599.1).bind fun t603 => (laws_FnTreesRenamed.j4 k x0 x1 bt591.1 bt591.2 bt595.1 bt595.2 (!t603))))))
def laws_FnTreesRenamed.j4 : Nat → List Int → List Int → List Int → Int → List Int → Bool → Bool → Option (Bool)
 | 0, _, _, _, _, _, _, _ => none
 | k + 1, x0, x1, x21, x22, x23, x24, x164 => if x164 = true then (some false) else (if x24 = true then ((impl_RerootTree.f k x23 x22).bind fun bt604 => ((impl_DegreesOf.f k x21).bind fun bt608 => ((impl_DegreesOf.f k x23).bind fun bt612 => (if bt604.2 = true then (if bt608.2 = true then (if bt612.2 = true then ((laws_wSame.f k bt604.1 x21).bind fun t616 => (if t616 = true then (if 0 < (bt608.1.length : Int) then (if 0 ≤ x22 then (if x22 < (bt612.1.length : Int) then (if (rd bt608.1 0) = (rd bt612.1 x22) then (if x22 < (bt608.1.length : Int) then (if 0 < (bt612.1.length : Int) then (if (rd bt608.1 x22) = (rd bt612.1 0) then (laws_FnTreesRenamed.j5 k x0 x1) else (some false)) else (none)) else (none)) else (some false)) else (none)) else (none)) else (none)) else (some false))) else (some false)) else (some false)) else (some false))))) else (laws_FnTreesRenamed.j5 k x0 x1))
def laws_FnTreesRenamed.j5 : Nat → List Int → List Int → Option (Bool)
 | 0, _, _ => none
 | k + 1, x0, x1 => (spec_DrawParseTree.f k x1).bind fun t621 => ((impl_ParseTree.f k t621).bind fun bt622 => ((spec_ParseTree.f k t621).bind fun bt626 => (if (bt622.2 != bt626.2) = true then (laws_FnTreesRenamed.j6 k x0 t621 bt622.1 bt622.2 true) else ((laws_wSame.f k bt622.1 bt626.1).bind fun t630 => (laws_FnTreesRenamed.j6 k x0 t621 bt622.1 bt622.2 (!t630))))))
def laws_FnTreesRenamed.j6 : Nat → List Int → ByteArray → List Int → Bool → Bool → Option (Bool)
 | 0, _, _, _, _, _ => none
 | k + 1, x0, x33, x34, x35, x238 => if x238 = true then (some false) else (if x35 = true then ((impl_TreeText.f k x34).bind fun bt631 => (if bt631.2 = true then (if bt631.1.toList = x33.toList then (laws_FnTreesRenamed.j7 k x0) else (some false)) else (some false))) else (laws_FnTreesRenamed.j7 k x0))
def laws_FnTreesRenamed.j7 : Nat → List Int → Option (Bool)
 | 0, _ => none
 | k + 1, x0 => (spec_DrawTreeText.f k x0).bind fun t633 => ((impl_TreeText.f k t633).bind fun bt636 => ((impl_IsTree.f k t633).bind fun t638 => (if (bt636.2 != t638) = true then (some false) else ((impl_ParseTree.f k bt636.1).bind fun bt639 => (if bt636.2 = true then (if bt639.2 = true then ((laws_wSame.f k bt639.1 t633).bind fun t643 => (some t643)) else (some false)) else (some true))))))
def laws_FnTreesRenamed.j1 : Nat → List Int → List Int → List Int → List Int → List Int → List Int → List Int → Bool → Option (Bool)
 | 0, _, _, _, _, _, _, _, _ => none
 | k + 1, x0, x1, x6, x11, x13, x15, x17, x108 => if x108 = true then (some false) else (laws_FnTreesRenamed.l0 k x0 x1 x11 x13 x15 x17 x6 (x6.length : Int) 0)
def laws_FnTreesRenamed.l0 : Nat → List Int → List Int → List Int → List Int → List Int → List Int → List Int → Int → Int → Option (Bool)
 | 0, _, _, _, _, _, _, _, _, _ => none
 | k + 1, x0, x1, x11, x13, x15, x17, x109, x110, x111 => if x111 < x110 then (if 0 ≤ x111 then (if x111 < (x109.length : Int) then (if x111 < (x11.length : Int) then (if 0 ≤ (wrap64 ((rd x109 x111) - 1)) then (if (wrap64 ((rd x109 x111) - 1)) < (x13.length : Int) then (if (rd x11 x111) = (rd x13 (wrap64 ((rd x109 x111) - 1))) then (if 0 ≤ (wrap64 (x111 + 1)) then (if (wrap64 (x111 + 1)) < (x15.length : Int) then (if 0 ≤ (rd x109 x111) then (if (rd x109 x111) < (x17.length : Int) then (if (rd x15 (wrap64 (x111 + 1))) = (rd x17 (rd x109 x111)) then (laws_FnTreesRenamed.l0 k x0 x1 x11 x13 x15 x17 x109 x110 (wrap64 (x111 + 1))) else (some false)) else (none)) else (none)) else (none)) else (none)) else (some false)) else (none)) else (none)) else (none)) else (none)) else (none)) else (laws_FnTreesRenamed.j3 k x0 x1)
end
def laws_FnTreesRenamed.f (k : Nat) (l0 : List Int) (l1 : List Int) : Option (Bool) := (laws_big.f l0 l1).bind fun t554 => (if t554 = true then (some true) else ((spec_DrawRelabelTree.f k l0).bind fun bt555 => ((impl_RelabelTree.f k bt555.1 bt555.2).bind fun bt561 => ((spec_RelabelTree.f k bt555.1 bt555.2).bind fun bt565 => (if (bt561.2 != bt565.2) = true then (laws_FnTreesRenamed.j0 k l0 l1 bt555.1 bt555.2 bt561.1 bt561.2 true) else ((laws_wSame.f k bt561.1 bt565.1).bind fun t569 => (laws_FnTreesRenamed.j0 k l0 l1 bt555.1 bt555.2 bt561.1 bt561.2 (!t569))))))))
theorem laws_FnTreesRenamed.mono_l : ∀ k, (∀ y0 y1 y2 y3 y4 y5 y6, LeO (laws_FnTreesRenamed.j0 k y0 y1 y2 y3 y4 y5 y6) (laws_FnTreesRenamed.j0 (k + 1) y0 y1 y2 y3 y4 y5 y6)) ∧ (∀ y0 y1, LeO (laws_FnTreesRenamed.j3 k y0 y1) (laws_FnTreesRenamed.j3 (k + 1) y0 y1)) ∧ (∀ y0 y1 y2 y3 y4 y5 y6, LeO (laws_FnTreesRenamed.j4 k y0 y1 y2 y3 y4 y5 y6) (laws_FnTreesRenamed.j4 (k + 1) y0 y1 y2 y3 y4 y5 y6)) ∧ (∀ y0 y1, LeO (laws_FnTreesRenamed.j5 k y0 y1) (laws_FnTreesRenamed.j5 (k + 1) y0 y1)) ∧ (∀ y0 y1 y2 y3 y4, LeO (laws_FnTreesRenamed.j6 k y0 y1 y2 y3 y4) (laws_FnTreesRenamed.j6 (k + 1) y0 y1 y2 y3 y4)) ∧ (∀ y0, LeO (laws_FnTreesRenamed.j7 k y0) (laws_FnTreesRenamed.j7 (k + 1) y0)) ∧ (∀ y0 y1 y2 y3 y4 y5 y6 y7, LeO (laws_FnTreesRenamed.j1 k y0 y1 y2 y3 y4 y5 y6 y7) (laws_FnTreesRenamed.j1 (k + 1) y0 y1 y2 y3 y4 y5 y6 y7)) ∧ (∀ y0 y1 y2 y3 y4 y5 y6 y7 y8, LeO (laws_FnTreesRenamed.l0 k y0 y1 y2 y3 y4 y5 y6 y7 y8) (laws_FnTreesRenamed.l0 (k + 1) y0 y1 y2 y3 y4 y5 y6 y7 y8))
 | 0 => ⟨fun _ _ _ _ _ _ _ r h => by simp [laws_FnTreesRenamed.j0] at h, fun _ _ r h => by simp [laws_FnTreesRenamed.j3] at h, fun _ _ _ _ _ _ _ r h => by simp [laws_FnTreesRenamed.j4] at h, fun _ _ r h => by simp [laws_FnTreesRenamed.j5] at h, fun _ _ _ _ _ r h => by simp [laws_FnTreesRenamed.j6] at h, fun _ r h => by simp [laws_FnTreesRenamed.j7] at h, fun _ _ _ _ _ _ _ _ r h => by simp [laws_FnTreesRenamed.j1] at h, fun _ _ _ _ _ _ _ _ _ r h => by simp [laws_FnTreesRenamed.l0] at h⟩
 | k + 1 => by
  obtain ⟨ih0, ih1, ih2, ih3, ih4, ih5, ih6, ih7⟩ := laws_FnTreesRenamed.mono_l k
  refine ⟨?_, ?_, ?_, ?_, ?_, ?_, ?_, ?_⟩
  all_goals intros
  all_goals (first | unfold laws_FnTreesRenamed.j0 | unfold laws_FnTreesRenamed.j3 | unfold laws_FnTreesRenamed.j4 | unfold laws_FnTreesRenamed.j5 | unfold laws_FnTreesRenamed.j6 | unfold laws_FnTreesRenamed.j7 | unfold laws_FnTreesRenamed.j1 | unfold laws_FnTreesRenamed.l0)
  all_goals (repeat' first | (with_reducible first | exact ih0 _ _ _ _ _ _ _ | exact ih1 _ _ | exact ih2 _ _ _ _ _ _ _ | exact ih3 _ _ | exact ih4 _ _ _ _ _ | exact ih5 _ | exact ih6 _ _ _ _ _ _ _ _ | exact ih7 _ _ _ _ _ _ _ _ _ | exact impl_BelowCounts.mono _ _ | exact impl_DegreesOf.mono _ _ | exact impl_DepthsOf.mono _ _ | exact impl_IsTree.mono _ _ | exact impl_ParseTree.mono _ _ | exact impl_RelabelTree.mono _ _ _ | exact impl_RerootTree.mono _ _ _ | exact impl_TreeText.mono _ _ | exact laws_wSame.mono _ _ _ | exact spec_DrawParseTree.mono _ _ | exact spec_DrawRelabelTree.mono _ _ | exact spec_DrawRerootTree.mono _ _ | exact spec_DrawTreeText.mono _ _ | exact spec_ParseTree.mono _ _ | exact spec_RelabelTree.mono _ _ _ | exact spec_RerootTree.mono _ _ _ | exact LeO.refl _ | exact LeO.none _ | refine LeO.ite ?_ ?_ | refine LeO.bind ?_ (fun _ => ?_)) | exact LeO.none _ | refine LeO.ite ?_ ?_ | refine LeO.bind ?_ (fun _ => ?_))
theorem laws_FnTreesRenamed.mono : ∀ a0 a1 k, LeO (laws_FnTreesRenamed.f k a0 a1) (laws_FnTreesRenamed.f (k + 1) a0 a1) := by
 intro a0 a1 k
 obtain ⟨ih0, ih1, ih2, ih3, ih4, ih5, ih6, ih7⟩ := laws_FnTreesRenamed.mono_l k
 unfold laws_FnTreesRenamed.f
 repeat' first | (with_reducible first | exact ih0 _ _ _ _ _ _ _ | exact ih1 _ _ | exact ih2 _ _ _ _ _ _ _ | exact ih3 _ _ | exact ih4 _ _ _ _ _ | exact ih5 _ | exact ih6 _ _ _ _ _ _ _ _ | exact ih7 _ _ _ _ _ _ _ _ _ | exact impl_BelowCounts.mono _ _ | exact impl_DegreesOf.mono _ _ | exact impl_DepthsOf.mono _ _ | exact impl_IsTree.mono _ _ | exact impl_ParseTree.mono _ _ | exact impl_RelabelTree.mono _ _ _ | exact impl_RerootTree.mono _ _ _ | exact impl_TreeText.mono _ _ | exact laws_wSame.mono _ _ _ | exact spec_DrawParseTree.mono _ _ | exact spec_DrawRelabelTree.mono _ _ | exact spec_DrawRerootTree.mono _ _ | exact spec_DrawTreeText.mono _ _ | exact spec_ParseTree.mono _ _ | exact spec_RelabelTree.mono _ _ _ | exact spec_RerootTree.mono _ _ _ | exact LeO.refl _ | exact LeO.none _ | refine LeO.ite ?_ ?_ | refine LeO.bind ?_ (fun _ => ?_)) | exact LeO.none _ | refine LeO.ite ?_ ?_ | refine LeO.bind ?_ (fun _ => ?_)
def laws_FnTreesRenamed.T18 : Bool × List (List Nat × List Nat) := (true, [([], []), ([], []), ([0, 1], [0, 1]), ([2], [2]), ([], []), ([], []), ([5], [5]), ([4, 6], [4, 6]), ([7], [7]), ([3, 8], [3, 8]), ([9], [9]), ([10], [10]), ([10], [10]), ([12, 10], [10, 12]), ([11, 13, 10], [10, 11, 13]), ([14, 10], [10, 14]), ([10], [10]), ([10], [10]), ([16, 17, 10], [10, 16, 17]), ([18, 10], [10, 18]), ([15, 19, 10], [10, 15, 19]), ([10, 20], [10, 20])])
def laws_FnTreesRenamed.B18 : List Nat := [0, 0, 3, 7, 0, 0, 32, 112, 240, 511, 1023, 2047, 2047, 6143, 16383, 32767, 2047, 2047, 198655, 460799, 1048575, 2097151]
theorem laws_FnTreesRenamed.tab18 : rtab .any (opsOf Tryz.f4 18) = laws_FnTreesRenamed.T18 := by kernel_rfl
theorem laws_FnTreesRenamed.bits18 : waitsOk laws_FnTreesRenamed.T18.2 laws_FnTreesRenamed.B18 = true := by kernel_rfl
def laws_FnTreesRenamed.T30 : Bool × List (List Nat × List Nat) := (true, [([], []), ([0], [0]), ([1], [1]), ([2], [2]), ([3, 2], [2, 3]), ([2, 4], [2, 4]), ([5, 2], [5]), ([6], [6]), ([7, 6], [6, 7]), ([6, 8], [6, 8]), ([9, 6], [9]), ([10], [10]), ([10], [10]), ([11, 12, 10, 10], [10, 11, 12]), ([13, 10], [10, 13]), ([10, 14], [10, 14]), ([15, 13], [15]), ([16], [16]), ([17, 16], [16, 17]), ([18, 16], [16, 18]), ([16], [16]), ([16], [16]), ([20, 21, 16], [16, 20, 21]), ([22, 16], [16, 22]), ([19, 23, 16], [16, 19, 23]), ([16, 24], [16, 24]), ([25, 16], [25]), ([26], [26]), ([26], [26]), ([27, 28, 26], [26, 27, 28]), ([29, 26], [26, 29]), ([26], [26]), ([31, 26], [26, 31]), ([32, 26], [26, 32]), ([30, 33, 26], [26, 30, 33]), ([26, 34], [26, 34])])
def laws_FnTreesRenamed.B30 : List Nat := [0, 1, 3, 7, 15, 31, 63, 127, 255, 511, 1023, 2047, 2047, 8191, 16383, 32767, 65535, 131071, 262143, 524287, 131071, 131071, 3276799, 7471103, 16777215, 33554431, 67108863, 134217727, 134217727, 536870911, 1073741823, 134217727, 2281701375, 6576668671, 17179869183, 34359738367]
theorem laws_FnTreesRenamed.tab30 : rtab .any (opsOf Tryz.f4 30) = laws_FnTreesRenamed.T30 := by kernel_rfl
theorem laws_FnTreesRenamed.bits30 : waitsOk laws_FnTreesRenamed.T30.2 laws_FnTreesRenamed.B30 = true := by kernel_rfl
set_option maxHeartbeats 8000000 in
set_option maxRecDepth 100000 in
theorem laws_FnTreesRenamed.calls (k : Nat) (A0 : Option Addr) (c0 : Nat) (l0 : List Int) (A1 : Option Addr) (c1 : Nat) (l1 : List Int) (r : Bool) (w : World) (hg : Gl w) (hr0 : Kd.C (Kd.int .u8) w A0 l0.length l0) (hc0 : l0.length ≤ c0) (hr1 : Kd.C (Kd.int .u8) w A1 l1.length l1) (hc1 : l1.length ≤ c1) (h : laws_FnTreesRenamed.f k l0 l1 = some r) :
  Calls Tryz.prog 4 #[.slice A0 l0.length c0, .slice A1 l1.length c1] w fun e w' => e = .returned (.bool r) ∧ Below w.heap.size w w' := by
 have HGL := Aside0.mk hg
 clear hg
 have HR0 := Aside0.mk hr0
 have HC0 := Aside0.mk hc0
 clear hr0 hc0
 have HR1 := Aside0.mk hr1
 have HC1 := Aside0.mk hc1
 clear hr1 hc1
 have HB := Aside0.mk (Below.refl w.heap.size w)
 have H : ((laws_big.f l0 l1).bind fun t554 => (if t554 = true then (some true) else ((spec_DrawRelabelTree.f k l0).bind fun bt555 => ((impl_RelabelTree.f k bt555.1 bt555.2).bind fun bt561 => ((spec_RelabelTree.f k bt555.1 bt555.2).bind fun bt565 => (if (bt561.2 != bt565.2) = true then (laws_FnTreesRenamed.j0 k l0 l1 bt555.1 bt555.2 bt561.1 bt561.2 true) else ((laws_wSame.f k bt561.1 bt565.1).bind fun t569 => (laws_FnTreesRenamed.j0 k l0 l1 bt555.1 bt555.2 bt561.1 bt561.2 (!t569))))))))) = some r := h
 clear h
 replace H := Option.bind_eq_some_iff.mp H
 obtain ⟨t554, A30, H⟩ := H
 (try dsimp -simprocs only at H)
 have A3 := Aside0.mk A30
 clear A30
 by_cases c4 : t554 = true
 ·subst c4
  have H1 : (some true) = some r := by rw [if_pos rfl] at H; exact H
  clear H
  have H := H1
  clear H1
  obtain rfl := Option.some.inj H
  go_enter Tryz.func4, Tryz.ntmps4
  go_wp2_with (first | ((with_reducible refine gate_callee (f := 11) rfl ?_); refine gcW 47 Tryz.func11 #[.slice A0 l0.length c0, .slice A1 l1.length c1] rfl ?_; (with_reducible refine (laws_big.calls _ _ l0 _ _ l1 true _ ?side1 ?side2 ?side3 ?side4 A3.out).mono ?_); (case side1 => exact cbW HR0.out); (case side2 => exact HC0.out); (case side3 => exact cbW HR1.out); (case side4 => exact HC1.out); rintro e w' ⟨rfl, ⟨nd, rfl⟩⟩; refine ⟨_, rfl, ?_⟩))
  go_ret
  exact ⟨by first | rfl | (simp [errW_none, errW_some] <;> rfl) | (simp [*, errW_none, errW_some] <;> rfl), nbW HB.out⟩
 ·as_aux_lemma =>
   replace c4 := Bool.eq_false_iff.mpr c4
   subst c4
   have H1 : ((spec_DrawRelabelTree.f k l0).bind fun bt555 => ((impl_RelabelTree.f k bt555.1 bt555.2).bind fun bt561 => ((spec_RelabelTree.f k bt555.1 bt555.2).bind fun bt565 => (if (bt561.2 != bt565.2) = true then (laws_FnTreesRenamed.j0 k l0 l1 bt555.1 bt555.2 bt561.1 bt561.2 true) else ((laws_wSame.f k bt561.1 bt565.1).bind fun t569 => (laws_FnTreesRenamed.j0 k l0 l1 bt555.1 bt555.2 bt561.1 bt561.2 (!t569))))))) = some r := by rw [if_neg (show ¬ (false = true) by decide)] at H; exact H
   clear H
   have H := H1
   clear H1
   replace H := Option.bind_eq_some_iff.mp H
   obtain ⟨⟨t555, t556⟩, A50, H⟩ := H
   (try dsimp -simprocs only at H)
   have A5 := Aside0.mk A50
   clear A50
   replace H := Option.bind_eq_some_iff.mp H
   obtain ⟨⟨t561, t562⟩, A60, H⟩ := H
   (try dsimp -simprocs only at H)
   have A6 := Aside0.mk A60
   clear A60
   replace H := Option.bind_eq_some_iff.mp H
   obtain ⟨⟨t565, t566⟩, A70, H⟩ := H
   (try dsimp -simprocs only at H)
   have A7 := Aside0.mk A70
   clear A70
   have HC8 := Aside0.mk H
   clear H
   go_enter Tryz.func4, Tryz.ntmps4
   go_upto_region 6 with (first | ((with_reducible refine gate_callee (f := 11) rfl ?_); refine gcW 47 Tryz.func11 #[.slice A0 l0.length c0, .slice A1 l1.length c1] rfl ?_; (with_reducible refine (laws_big.calls _ _ l0 _ _ l1 false _ ?side1 ?side2 ?side3 ?side4 A3.out).mono ?_); (case side1 => exact cbW HR0.out); (case side2 => exact HC0.out); (case side3 => exact cbW HR1.out); (case side4 => exact HC1.out); rintro e w' ⟨rfl, ⟨nd, rfl⟩⟩; refine ⟨_, rfl, ?_⟩) | ((with_reducible refine gate_callee (f := 12) rfl ?_); refine gcW 50 Tryz.func12 #[.slice A0 l0.length c0] rfl ?_; (with_reducible refine (spec_DrawRelabelTree.calls k _ _ l0 t555 t556 _ ?side1 ?side2 A5.out).mono ?_); (case side1 => exact cbW HR0.out); (case side2 => exact HC0.out); rintro e w9 ⟨v557, v559, rfl, ho0, ho1, hb⟩; refine ⟨_, rfl, ?_⟩; have n0_ := Aside0.mk (Kd.R_lower ho0 (below_size (nbW HB.out))); have n1_ := Aside0.mk (Kd.R_lower ho1 (below_size (nbW HB.out))); have n2_ := Aside0.mk (below_step (nbW HB.out) hb); clear HB; have HO558 := n0_; have HO560 := n1_; have HB := n2_; clear n0_ n1_ n2_; (try clear hb); (try clear hb2); (try clear hk); (try clear hi); (try clear ho0); (try clear ho1); obtain ⟨Ao10, co10, eo10⟩ := Kd.R_slice HO558.out; subst eo10; obtain ⟨Ao11, co11, eo11⟩ := Kd.R_slice HO560.out; subst eo11) | ((with_reducible refine gate_callee (f := 13) rfl ?_); refine gcW 56 Tryz.func13 #[.slice Ao10 t555.length co10, .slice Ao11 t556.length co11] rfl ?_; (with_reducible refine (impl_RelabelTree.calls k _ _ t555 _ _ t556 t561 t562 _ ?side1 ?side2 ?side3 ?side4 A6.out).mono ?_); (case side1 => exact cbW (Kd.R_reads' HO558.out).2.2); (case side2 => exact (Kd.R_reads' HO558.out).2.1); (case side3 => exact cbW (Kd.R_reads' HO560.out).2.2); (case side4 => exact (Kd.R_reads' HO560.out).2.1); rintro e w12 ⟨v563, rfl, ho0, hb⟩; refine ⟨_, rfl, ?_⟩; have n0_ := Aside0.mk (Kd.R_elder' (rbW HO558.out) (Kd.R_base ho0) hb); have n1_ := Aside0.mk (Kd.R_elder' (rbW HO560.out) (Kd.R_base ho0) hb); have n2_ := Aside0.mk (Kd.R_lower (Kd.R_new' (Kd.R_new' ho0 (Kd.R_lt (rbW HO558.out))) (Kd.R_lt (rbW HO560.out))) (below_size (nbW HB.out))); have n3_ := Aside0.mk (below_step (nbW HB.out) hb); clear HO558; clear HO560; clear HB; have HO558 := n0_; have HO560 := n1_; have HO564 := n2_; have HB := n3_; clear n0_ n1_ n2_ n3_; (try clear hb); (try clear hb2); (try clear hk); (try clear hi); (try clear ho0)) | ((with_reducible refine gate_callee (f := 14) rfl ?_); refine gcW 62 Tryz.func14 #[.slice Ao10 t555.length co10, .slice Ao11 t556.length co11] rfl ?_; (with_reducible refine (spec_RelabelTree.calls k _ _ t555 _ _ t556 t565 t566 _ ?side1 ?side2 ?side3 ?side4 A7.out).mono ?_); (case side1 => exact cbW (Kd.R_reads' HO558.out).2.2); (case side2 => exact (Kd.R_reads' HO558.out).2.1); (case side3 => exact cbW (Kd.R_reads' HO560.out).2.2); (case side4 => exact (Kd.R_reads' HO560.out).2.1); rintro e w13 ⟨v567, rfl, ho0, hb⟩; refine ⟨_, rfl, ?_⟩; have n0_ := Aside0.mk (Kd.R_elder' (rbW HO558.out) (Kd.R_base ho0) hb); have n1_ := Aside0.mk (Kd.R_elder' (rbW HO560.out) (Kd.R_base ho0) hb); have n2_ := Aside0.mk (Kd.R_elder' (rbW HO564.out) (Kd.R_base ho0) hb); have n3_ := Aside0.mk (Kd.R_lower (Kd.R_new' (Kd.R_new' (Kd.R_new' ho0 (Kd.R_lt (rbW HO558.out))) (Kd.R_lt (rbW HO560.out))) (Kd.R_lt (rbW HO564.out))) (below_size (nbW HB.out))); have n4_ := Aside0.mk (below_step (nbW HB.out) hb); clear HO558; clear HO560; clear HO564; clear HB; have HO558 := n0_; have HO560 := n1_; have HO564 := n2_; have HO568 := n3_; have HB := n4_; clear n0_ n1_ n2_ n3_ n4_; (try clear hb); (try clear hb2); (try clear hk); (try clear hi); (try clear ho0)))
   (try simp only [Act.put, List.setIfInBounds_toArray, List.set_cons_zero, List.set_cons_succ])
   go_cut [73] (fun v73 wc => ∃ (kq : Nat) (x73_7 : Bool), v73 = .bool x73_7 ∧ Aside0 (laws_FnTreesRenamed.j0 kq l0 l1 t555 t556 t561 t562 x73_7 = some r) ∧ Aside0 (kq ≤ k) ∧ Aside0 (Kd.R (Kd.int .i64) 3 wc w.heap.size (fun k_ => some k_ ≠ ((.slice Ao11 t556.length co11) : Value).ownBlock ∧ some k_ ≠ (v563 : Value).ownBlock) (.slice Ao10 t555.length co10) t555) ∧ Aside0 (Kd.R (Kd.int .i64) 3 wc w.heap.size (fun k_ => some k_ ≠ ((.slice Ao10 t555.length co10) : Value).ownBlock ∧ some k_ ≠ (v563 : Value).ownBlock) (.slice Ao11 t556.length co11) t556) ∧ Aside0 (Kd.R (Kd.int .i64) 3 wc w.heap.size (fun k_ => some k_ ≠ ((.slice Ao10 t555.length co10) : Value).ownBlock ∧ some k_ ≠ ((.slice Ao11 t556.length co11) : Value).ownBlock) v563 t561) ∧ Aside0 (Below w.heap.size w wc))
   case first =>
    have H := HC8.out
    clear HC8
    by_cases c14 : (t562 != t566) = true
    ·rw [if_pos c14] at H
     have c14b0 : (t562 != t566) = true := c14
     (try (have c14b1 : decide (t562 = t566) = false := by simpa using c14))
     (try (have c14b2 : (t562 == t566) = false := by simpa using c14))
     (try (have c14b3 : ¬ (t562 = t566) := by simpa using c14))
     clear c14
     (first | rw [c14b0] | (simp only [i64_w, i32_w]; rw [c14b0]) | rw [c14b1] | skip)
     have H' := Aside0.mk H
     clear H
     go_wp2
     go_meet
     case rel => exact ⟨_, (true), (by first | rfl | (simp; done) | (simp [*]; done)), H', ⟨by first | omega | exact Nat.le_refl _⟩, ⟨by apply rbW; exact Kd.R_mono HO558.out (fun _ hk => ⟨hk.1.1, hk.1.2⟩)⟩, ⟨by apply rbW; exact Kd.R_mono HO560.out (fun _ hk => ⟨hk.1.1, hk.1.2⟩)⟩, ⟨by apply rbW; exact Kd.R_mono HO564.out (fun _ hk => ⟨hk.1.1.2, hk.1.2⟩)⟩, ⟨nbW HB.out⟩⟩
    ·rw [if_neg c14] at H
     have c14b0 : (t562 != t566) = false := by simpa using c14
     (try (have c14b1 : decide (t562 = t566) = true := by simpa using c14))
     (try (have c14b2 : (t562 == t566) = true := by simpa using c14))
     clear c14
     (first | rw [c14b0] | (simp only [i64_w, i32_w]; rw [c14b0]) | rw [c14b1] | skip)
     replace H := Option.bind_eq_some_iff.mp H
     obtain ⟨t569, A150, H⟩ := H
     (try dsimp -simprocs only at H)
     have A15 := Aside0.mk A150
     clear A150
     have H' := Aside0.mk H
     clear H
     obtain ⟨Ao16, co16, eo16⟩ := Kd.R_slice HO564.out
     subst eo16
     obtain ⟨Ao17, co17, eo17⟩ := Kd.R_slice HO568.out
     subst eo17
     go_wp2_with (first | (go_at_call 15; (with_reducible refine (laws_wSame.calls k _ _ t561 _ _ t565 t569 _ ?side1 ?side2 ?side3 ?side4 A15.out).mono ?_); (case side1 => exact cbW (Kd.R_reads' HO564.out).2.2); (case side2 => exact (Kd.R_reads' HO564.out).2.1); (case side3 => exact cbW (Kd.R_reads' HO568.out).2.2); (case side4 => exact (Kd.R_reads' HO568.out).2.1); rintro e w' ⟨rfl, ⟨nd, rfl⟩⟩))
     go_meet
     case rel => exact ⟨_, (!t569), (by first | rfl | (simp; done) | (simp [*]; done)), H', ⟨by first | omega | exact Nat.le_refl _⟩, ⟨by apply rbW; exact Kd.R_mono HO558.out (fun _ hk => ⟨hk.1.1, hk.1.2⟩)⟩, ⟨by apply rbW; exact Kd.R_mono HO560.out (fun _ hk => ⟨hk.1.1, hk.1.2⟩)⟩, ⟨by apply rbW; exact Kd.R_mono HO564.out (fun _ hk => ⟨hk.1.1.2, hk.1.2⟩)⟩, ⟨nbW HB.out⟩⟩
   case rest =>
    clear HC8
    try clear c1
    try clear p2
    try clear c4
    try clear c11
    try clear c12
    try clear c13
    try clear c14
    try clear c14b0
    try clear c14b1
    try clear c14b2
    obtain ⟨kq, x73_7, rfl, HA, HJ7, HO_5, HO_6, HO_7, HB⟩ := hcut
    cases kq with
    | zero => exact absurd HA.out (by simp [laws_FnTreesRenamed.j0])
    | succ kj7 =>
     have H := HA.out
     clear HA
     simp only [laws_FnTreesRenamed.j0] at H
     by_cases c18 : x73_7 = true
     ·subst c18
      have H1 : (some false) = some r := by rw [if_pos rfl] at H; exact H
      clear H
      have H := H1
      clear H1
      obtain rfl := Option.some.inj H
      go_wp2
      go_ret
      exact ⟨by first | rfl | (simp [errW_none, errW_some] <;> rfl) | (simp [*, errW_none, errW_some] <;> rfl), nbW HB.out⟩
     ·as_aux_lemma =>
       replace c18 := Bool.eq_false_iff.mpr c18
       subst c18
       have H1 : (if t562 = true then ((impl_DepthsOf.f kj7 t555).bind fun bt570 => ((impl_DepthsOf.f kj7 t561).bind fun bt574 => ((impl_BelowCounts.f kj7 t555).bind fun bt578 => ((impl_BelowCounts.f kj7 t561).bind fun bt582 => (if bt570.2 = true then (if bt574.2 = true then (if bt578.2 = true then (laws_FnTreesRenamed.j1 kj7 l0 l1 t556 bt570.1 bt574.1 bt578.1 bt582.1 (!bt582.2)) else (laws_FnTreesRenamed.j1 kj7 l0 l1 t556 bt570.1 bt574.1 bt578.1 bt582.1 true)) else (laws_FnTreesRenamed.j1 kj7 l0 l1 t556 bt570.1 bt574.1 bt578.1 bt582.1 true)) else (laws_FnTreesRenamed.j1 kj7 l0 l1 t556 bt570.1 bt574.1 bt578.1 bt582.1 true)))))) else (laws_FnTreesRenamed.j3 kj7 l0 l1)) = some r := by rw [if_neg (show ¬ (false = true) by decide)] at H; exact H
       clear H
       have H := H1
       clear H1
       have HC19 := Aside0.mk H
       clear H
       go_upto_if 74 with (fail)
       go_cut [] (fun wc => ∃ (kq : Nat), Aside0 (laws_FnTreesRenamed.j3 kq l0 l1 = some r) ∧ Aside0 (kq ≤ kj7) ∧ Aside0 (Below w.heap.size w wc))
       case first =>
        have H := HC19.out
        clear HC19
        by_cases c20 : t562 = true
        ·as_aux_lemma =>
          subst c20
          have H1 : ((impl_DepthsOf.f kj7 t555).bind fun bt570 => ((impl_DepthsOf.f kj7 t561).bind fun bt574 => ((impl_BelowCounts.f kj7 t555).bind fun bt578 => ((impl_BelowCounts.f kj7 t561).bind fun bt582 => (if bt570.2 = true then (if bt574.2 = true then (if bt578.2 = true then (laws_FnTreesRenamed.j1 kj7 l0 l1 t556 bt570.1 bt574.1 bt578.1 bt582.1 (!bt582.2)) else (laws_FnTreesRenamed.j1 kj7 l0 l1 t556 bt570.1 bt574.1 bt578.1 bt582.1 true)) else (laws_FnTreesRenamed.j1 kj7 l0 l1 t556 bt570.1 bt574.1 bt578.1 bt582.1 true)) else (laws_FnTreesRenamed.j1 kj7 l0 l1 t556 bt570.1 bt574.1 bt578.1 bt582.1 true)))))) = some r := by rw [if_pos rfl] at H; exact H
          clear H
          have H := H1
          clear H1
          replace H := Option.bind_eq_some_iff.mp H
          obtain ⟨⟨t570, t571⟩, A210, H⟩ := H
          (try dsimp -simprocs only at H)
          have A21 := Aside0.mk A210
          clear A210
          replace H := Option.bind_eq_some_iff.mp H
          obtain ⟨⟨t574, t575⟩, A220, H⟩ := H
          (try dsimp -simprocs only at H)
          have A22 := Aside0.mk A220
          clear A220
          replace H := Option.bind_eq_some_iff.mp H
          obtain ⟨⟨t578, t579⟩, A230, H⟩ := H
          (try dsimp -simprocs only at H)
          have A23 := Aside0.mk A230
          clear A230
          replace H := Option.bind_eq_some_iff.mp H
          obtain ⟨⟨t582, t583⟩, A240, H⟩ := H
          (try dsimp -simprocs only at H)
          have A24 := Aside0.mk A240
          clear A240
          have HC25 := Aside0.mk H
          clear H
          go_upto_region 13 with (first | ((with_reducible refine gate_callee (f := 16) rfl ?_); refine gcW 77 Tryz.func16 #[.slice Ao10 t555.length co10] rfl ?_; (with_reducible refine (impl_DepthsOf.calls kj7 _ _ t555 t570 t571 _ ?side1 ?side2 A21.out).mono ?_); (case side1 => exact cbW (Kd.R_reads' HO_5.out).2.2); (case side2 => exact (Kd.R_reads' HO_5.out).2.1); rintro e w26 ⟨v572, rfl, ho0, hb⟩; refine ⟨_, rfl, ?_⟩; have n0_ := Aside0.mk (Kd.R_elder' (rbW HO_5.out) (Kd.R_base ho0) hb); have n1_ := Aside0.mk (Kd.R_elder' (rbW HO_6.out) (Kd.R_base ho0) hb); have n2_ := Aside0.mk (Kd.R_elder' (rbW HO_7.out) (Kd.R_base ho0) hb); have n3_ := Aside0.mk (Kd.R_lower (Kd.R_new' (Kd.R_new' (Kd.R_new' ho0 (Kd.R_lt (rbW HO_5.out))) (Kd.R_lt (rbW HO_6.out))) (Kd.R_lt (rbW HO_7.out))) (below_size (nbW HB.out))); have n4_ := Aside0.mk (below_step (nbW HB.out) hb); clear HO_5; clear HO_6; clear HO_7; clear HB; have HO_5 := n0_; have HO_6 := n1_; have HO_7 := n2_; have HO573 := n3_; have HB := n4_; clear n0_ n1_ n2_ n3_ n4_; (try clear hb); (try clear hb2); (try clear hk); (try clear hi); (try clear ho0); obtain ⟨Ao27, co27, eo27⟩ := Kd.R_slice HO_7.out; subst eo27) | ((with_reducible refine gate_callee (f := 16) rfl ?_); refine gcW 82 Tryz.func16 #[.slice Ao27 t561.length co27] rfl ?_; (with_reducible refine (impl_DepthsOf.calls kj7 _ _ t561 t574 t575 _ ?side1 ?side2 A22.out).mono ?_); (case side1 => exact cbW (Kd.R_reads' HO_7.out).2.2); (case side2 => exact (Kd.R_reads' HO_7.out).2.1); rintro e w28 ⟨v576, rfl, ho0, hb⟩; refine ⟨_, rfl, ?_⟩; have n0_ := Aside0.mk (Kd.R_elder' (rbW HO_5.out) (Kd.R_base ho0) hb); have n1_ := Aside0.mk (Kd.R_elder' (rbW HO_6.out) (Kd.R_base ho0) hb); have n2_ := Aside0.mk (Kd.R_elder' (rbW HO_7.out) (Kd.R_base ho0) hb); have n3_ := Aside0.mk (Kd.R_elder' (rbW HO573.out) (Kd.R_base ho0) hb); have n4_ := Aside0.mk (Kd.R_lower (Kd.R_new' (Kd.R_new' (Kd.R_new' (Kd.R_new' ho0 (Kd.R_lt (rbW HO_5.out))) (Kd.R_lt (rbW HO_6.out))) (Kd.R_lt (rbW HO_7.out))) (Kd.R_lt (rbW HO573.out))) (below_size (nbW HB.out))); have n5_ := Aside0.mk (below_step (nbW HB.out) hb); clear HO_5; clear HO_6; clear HO_7; clear HO573; clear HB; have HO_5 := n0_; have HO_6 := n1_; have HO_7 := n2_; have HO573 := n3_; have HO577 := n4_; have HB := n5_; clear n0_ n1_ n2_ n3_ n4_ n5_; (try clear hb); (try clear hb2); (try clear hk); (try clear hi); (try clear ho0)) | ((with_reducible refine gate_callee (f := 17) rfl ?_); refine gcW 87 Tryz.func17 #[.slice Ao10 t555.length co10] rfl ?_; (with_reducible refine (impl_BelowCounts.calls kj7 _ _ t555 t578 t579 _ ?side1 ?side2 A23.out).mono ?_); (case side1 => exact cbW (Kd.R_reads' HO_5.out).2.2); (case side2 => exact (Kd.R_reads' HO_5.out).2.1); rintro e w29 ⟨v580, rfl, ho0, hb⟩; refine ⟨_, rfl, ?_⟩; have n0_ := Aside0.mk (Kd.R_elder' (rbW HO_5.out) (Kd.R_base ho0) hb); have n1_ := Aside0.mk (Kd.R_elder' (rbW HO_6.out) (Kd.R_base ho0) hb); have n2_ := Aside0.mk (Kd.R_elder' (rbW HO_7.out) (Kd.R_base ho0) hb); have n3_ := Aside0.mk (Kd.R_elder' (rbW HO573.out) (Kd.R_base ho0) hb); have n4_ := Aside0.mk (Kd.R_elder' (rbW HO577.out) (Kd.R_base ho0) hb); have n5_ := Aside0.mk (Kd.R_lower (Kd.R_new' (Kd.R_new' (Kd.R_new' (Kd.R_new' (Kd.R_new' ho0 (Kd.R_lt (rbW HO_5.out))) (Kd.R_lt (rbW HO_6.out))) (Kd.R_lt (rbW HO_7.out))) (Kd.R_lt (rbW HO573.out))) (Kd.R_lt (rbW HO577.out))) (below_size (nbW HB.out))); have n6_ := Aside0.mk (below_step (nbW HB.out) hb); clear HO_5; clear HO_6; clear HO_7; clear HO573; clear HO577; clear HB; have HO_5 := n0_; have HO_6 := n1_; have HO_7 := n2_; have HO573 := n3_; have HO577 := n4_; have HO581 := n5_; have HB := n6_; clear n0_ n1_ n2_ n3_ n4_ n5_ n6_; (try clear hb); (try clear hb2); (try clear hk); (try clear hi); (try clear ho0)) | ((with_reducible refine gate_callee (f := 17) rfl ?_); refine gcW 92 Tryz.func17 #[.slice Ao27 t561.length co27] rfl ?_; (with_reducible refine (impl_BelowCounts.calls kj7 _ _ t561 t582 t583 _ ?side1 ?side2 A24.out).mono ?_); (case side1 => exact cbW (Kd.R_reads' HO_7.out).2.2); (case side2 => exact (Kd.R_reads' HO_7.out).2.1); rintro e w30 ⟨v584, rfl, ho0, hb⟩; refine ⟨_, rfl, ?_⟩; have n0_ := Aside0.mk (Kd.R_elder' (rbW HO_5.out) (Kd.R_base ho0) hb); have n1_ := Aside0.mk (Kd.R_elder' (rbW HO_6.out) (Kd.R_base ho0) hb); have n2_ := Aside0.mk (Kd.R_elder' (rbW HO_7.out) (Kd.R_base ho0) hb); have n3_ := Aside0.mk (Kd.R_elder' (rbW HO573.out) (Kd.R_base ho0) hb); have n4_ := Aside0.mk (Kd.R_elder' (rbW HO577.out) (Kd.R_base ho0) hb); have n5_ := Aside0.mk (Kd.R_elder' (rbW HO581.out) (Kd.R_base ho0) hb); have n6_ := Aside0.mk (Kd.R_lower (Kd.R_new' (Kd.R_new' (Kd.R_new' (Kd.R_new' (Kd.R_new' (Kd.R_new' ho0 (Kd.R_lt (rbW HO_5.out))) (Kd.R_lt (rbW HO_6.out))) (Kd.R_lt (rbW HO_7.out))) (Kd.R_lt (rbW HO573.out))) (Kd.R_lt (rbW HO577.out))) (Kd.R_lt (rbW HO581.out))) (below_size (nbW HB.out))); have n7_ := Aside0.mk (below_step (nbW HB.out) hb); clear HO_5; clear HO_6; clear HO_7; clear HO573; clear HO577; clear HO581; clear HB; have HO_5 := n0_; have HO_6 := n1_; have HO_7 := n2_; have HO573 := n3_; have HO577 := n4_; have HO581 := n5_; have HO585 := n6_; have HB := n7_; clear n0_ n1_ n2_ n3_ n4_ n5_ n6_ n7_; (try clear hb); (try clear hb2); (try clear hk); (try clear hi); (try clear ho0)))
          (try simp only [Act.put, List.setIfInBounds_toArray, List.set_cons_zero, List.set_cons_succ])
          go_cut [108] (fun v108 wc => ∃ (kq : Nat) (x108_24 : Bool), v108 = .bool x108_24 ∧ Aside0 (laws_FnTreesRenamed.j1 kq l0 l1 t556 t570 t574 t578 t582 x108_24 = some r) ∧ Aside0 (kq ≤ kj7) ∧ Aside0 (Kd.R (Kd.int .i64) 3 wc w.heap.size (fun k_ => some k_ ≠ (v572 : Value).ownBlock ∧ some k_ ≠ (v576 : Value).ownBlock ∧ some k_ ≠ (v580 : Value).ownBlock ∧ some k_ ≠ (v584 : Value).ownBlock) (.slice Ao11 t556.length co11) t556) ∧ Aside0 (Kd.R (Kd.int .i64) 3 wc w.heap.size (fun k_ => some k_ ≠ ((.slice Ao11 t556.length co11) : Value).ownBlock ∧ some k_ ≠ (v576 : Value).ownBlock ∧ some k_ ≠ (v580 : Value).ownBlock ∧ some k_ ≠ (v584 : Value).ownBlock) v572 t570) ∧ Aside0 (Kd.R (Kd.int .i64) 3 wc w.heap.size (fun k_ => some k_ ≠ ((.slice Ao11 t556.length co11) : Value).ownBlock ∧ some k_ ≠ (v572 : Value).ownBlock ∧ some k_ ≠ (v580 : Value).ownBlock ∧ some k_ ≠ (v584 : Value).ownBlock) v576 t574) ∧ Aside0 (Kd.R (Kd.int .i64) 3 wc w.heap.size (fun k_ => some k_ ≠ ((.slice Ao11 t556.length co11) : Value).ownBlock ∧ some k_ ≠ (v572 : Value).ownBlock ∧ some k_ ≠ (v576 : Value).ownBlock ∧ some k_ ≠ (v584 : Value).ownBlock) v580 t578) ∧ Aside0 (Kd.R (Kd.int .i64) 3 wc w.heap.size (fun k_ => some k_ ≠ ((.slice Ao11 t556.length co11) : Value).ownBlock ∧ some k_ ≠ (v572 : Value).ownBlock ∧ some k_ ≠ (v576 : Value).ownBlock ∧ some k_ ≠ (v580 : Value).ownBlock) v584 t582) ∧ Aside0 (Below w.heap.size w wc))
          case first =>
           have H := HC25.out
           clear HC25
           by_cases c31 : t571 = true
           ·subst c31
            have H1 : (if t575 = true then (if t579 = true then (laws_FnTreesRenamed.j1 kj7 l0 l1 t556 t570 t574 t578 t582 (!t583)) else (laws_FnTreesRenamed.j1 kj7 l0 l1 t556 t570 t574 t578 t582 true)) else (laws_FnTreesRenamed.j1 kj7 l0 l1 t556 t570 t574 t578 t582 true)) = some r := by rw [if_pos rfl] at H; exact H
            clear H
            have H := H1
            clear H1
            by_cases c32 : t575 = true
            ·subst c32
             have H1 : (if t579 = true then (laws_FnTreesRenamed.j1 kj7 l0 l1 t556 t570 t574 t578 t582 (!t583)) else (laws_FnTreesRenamed.j1 kj7 l0 l1 t556 t570 t574 t578 t582 true)) = some r := by rw [if_pos rfl] at H; exact H
             clear H
             have H := H1
             clear H1
             by_cases c33 : t579 = true
             ·subst c33
              have H1 : (laws_FnTreesRenamed.j1 kj7 l0 l1 t556 t570 t574 t578 t582 (!t583)) = some r := by rw [if_pos rfl] at H; exact H
              clear H
              have H := H1
              clear H1
              have H' := Aside0.mk H
              clear H
              go_wp2
              go_meet
              case rel => exact ⟨_, (!t583), (by first | rfl | (simp; done) | (simp [*]; done)), H', ⟨by have := HJ7.out; first | omega | exact Nat.le_refl _⟩, ⟨by apply rbW; exact Kd.R_mono HO_6.out (fun _ hk => ⟨hk.1.1.1.2, ⟨hk.1.1.2, ⟨hk.1.2, hk.2⟩⟩⟩)⟩, ⟨by apply rbW; exact Kd.R_mono HO573.out (fun _ hk => ⟨hk.1.1.1.1.2, ⟨hk.1.1.2, ⟨hk.1.2, hk.2⟩⟩⟩)⟩, ⟨by apply rbW; exact Kd.R_mono HO577.out (fun _ hk => ⟨hk.1.1.1.1.2, ⟨hk.1.1.2, ⟨hk.1.2, hk.2⟩⟩⟩)⟩, ⟨by apply rbW; exact Kd.R_mono HO581.out (fun _ hk => ⟨hk.1.1.1.1.2, ⟨hk.1.1.2, ⟨hk.1.2, hk.2⟩⟩⟩)⟩, ⟨by apply rbW; exact Kd.R_mono HO585.out (fun _ hk => ⟨hk.1.1.1.1.2, ⟨hk.1.1.2, ⟨hk.1.2, hk.2⟩⟩⟩)⟩, ⟨nbW HB.out⟩⟩
             ·replace c33 := Bool.eq_false_iff.mpr c33
              subst c33
              have H1 : (laws_FnTreesRenamed.j1 kj7 l0 l1 t556 t570 t574 t578 t582 true) = some r := by rw [if_neg (show ¬ (false = true) by decide)] at H; exact H
              clear H
              have H := H1
              clear H1
              have H' := Aside0.mk H
              clear H
              go_wp2
              go_meet
              case rel => exact ⟨_, (true), (by first | rfl | (simp; done) | (simp [*]; done)), H', ⟨by have := HJ7.out; first | omega | exact Nat.le_refl _⟩, ⟨by apply rbW; exact Kd.R_mono HO_6.out (fun _ hk => ⟨hk.1.1.1.2, ⟨hk.1.1.2, ⟨hk.1.2, hk.2⟩⟩⟩)⟩, ⟨by apply rbW; exact Kd.R_mono HO573.out (fun _ hk => ⟨hk.1.1.1.1.2, ⟨hk.1.1.2, ⟨hk.1.2, hk.2⟩⟩⟩)⟩, ⟨by apply rbW; exact Kd.R_mono HO577.out (fun _ hk => ⟨hk.1.1.1.1.2, ⟨hk.1.1.2, ⟨hk.1.2, hk.2⟩⟩⟩)⟩, ⟨by apply rbW; exact Kd.R_mono HO581.out (fun _ hk => ⟨hk.1.1.1.1.2, ⟨hk.1.1.2, ⟨hk.1.2, hk.2⟩⟩⟩)⟩, ⟨by apply rbW; exact Kd.R_mono HO585.out (fun _ hk => ⟨hk.1.1.1.1.2, ⟨hk.1.1.2, ⟨hk.1.2, hk.2⟩⟩⟩)⟩, ⟨nbW HB.out⟩⟩
            ·replace c32 := Bool.eq_false_iff.mpr c32
             subst c32
             have H1 : (laws_FnTreesRenamed.j1 kj7 l0 l1 t556 t570 t574 t578 t582 true) = some r := by rw [if_neg (show ¬ (false = true) by decide)] at H; exact H
             clear H
             have H := H1
             clear H1
             have H' := Aside0.mk H
             clear H
             go_wp2
             go_meet
             case rel => exact ⟨_, (true), (by first | rfl | (simp; done) | (simp [*]; done)), H', ⟨by have := HJ7.out; first | omega | exact Nat.le_refl _⟩, ⟨by apply rbW; exact Kd.R_mono HO_6.out (fun _ hk => ⟨hk.1.1.1.2, ⟨hk.1.1.2, ⟨hk.1.2, hk.2⟩⟩⟩)⟩, ⟨by apply rbW; exact Kd.R_mono HO573.out (fun _ hk => ⟨hk.1.1.1.1.2, ⟨hk.1.1.2, ⟨hk.1.2, hk.2⟩⟩⟩)⟩, ⟨by apply rbW; exact Kd.R_mono HO577.out (fun _ hk => ⟨hk.1.1.1.1.2, ⟨hk.1.1.2, ⟨hk.1.2, hk.2⟩⟩⟩)⟩, ⟨by apply rbW; exact Kd.R_mono HO581.out (fun _ hk => ⟨hk.1.1.1.1.2, ⟨hk.1.1.2, ⟨hk.1.2, hk.2⟩⟩⟩)⟩, ⟨by apply rbW; exact Kd.R_mono HO585.out (fun _ hk => ⟨hk.1.1.1.1.2, ⟨hk.1.1.2, ⟨hk.1.2, hk.2⟩⟩⟩)⟩, ⟨nbW HB.out⟩⟩
           ·replace c31 := Bool.eq_false_iff.mpr c31
            subst c31
            have H1 : (laws_FnTreesRenamed.j1 kj7 l0 l1 t556 t570 t574 t578 t582 true) = some r := by rw [if_neg (show ¬ (false = true) by decide)] at H; exact H
            clear H
            have H := H1
            clear H1
            have H' := Aside0.mk H
            clear H
            go_wp2
            go_meet
            case rel => exact ⟨_, (true), (by first | rfl | (simp; done) | (simp [*]; done)), H', ⟨by have := HJ7.out; first | omega | exact Nat.le_refl _⟩, ⟨by apply rbW; exact Kd.R_mono HO_6.out (fun _ hk => ⟨hk.1.1.1.2, ⟨hk.1.1.2, ⟨hk.1.2, hk.2⟩⟩⟩)⟩, ⟨by apply rbW; exact Kd.R_mono HO573.out (fun _ hk => ⟨hk.1.1.1.1.2, ⟨hk.1.1.2, ⟨hk.1.2, hk.2⟩⟩⟩)⟩, ⟨by apply rbW; exact Kd.R_mono HO577.out (fun _ hk => ⟨hk.1.1.1.1.2, ⟨hk.1.1.2, ⟨hk.1.2, hk.2⟩⟩⟩)⟩, ⟨by apply rbW; exact Kd.R_mono HO581.out (fun _ hk => ⟨hk.1.1.1.1.2, ⟨hk.1.1.2, ⟨hk.1.2, hk.2⟩⟩⟩)⟩, ⟨by apply rbW; exact Kd.R_mono HO585.out (fun _ hk => ⟨hk.1.1.1.1.2, ⟨hk.1.1.2, ⟨hk.1.2, hk.2⟩⟩⟩)⟩, ⟨nbW HB.out⟩⟩
          case rest =>
           clear HC25
           try clear c1
           try clear c2
           try clear p2
           try clear c3
           try clear c4
           try clear c11
           try clear c12
           try clear c13
           try clear c14
           try clear c14b0
           try clear c14b1
           try clear c14b2
           try clear c16
           try clear c17
           try clear c18
           try clear c20
           try clear c31
           try clear c32
           try clear c33
           try clear p2
           obtain ⟨kq, x108_24, rfl, HA, HJ24, HO_6, HO_11, HO_13, HO_15, HO_17, HB⟩ := hcut
           cases kq with
           | zero => exact absurd HA.out (by simp [laws_FnTreesRenamed.j1])
           | succ kj24 =>
            have H := HA.out
            clear HA
            simp only [laws_FnTreesRenamed.j1] at H
            by_cases c34 : x108_24 = true
            ·subst c34
             have H1 : (some false) = some r := by rw [if_pos rfl] at H; exact H
             clear H
             have H := H1
             clear H1
             obtain rfl := Option.some.inj H
             go_wp2
             go_ret
             exact ⟨by first | rfl | (simp [errW_none, errW_some] <;> rfl) | (simp [*, errW_none, errW_some] <;> rfl), nbW HB.out⟩
            ·as_aux_lemma =>
              replace c34 := Bool.eq_false_iff.mpr c34
              subst c34
              have H1 : (laws_FnTreesRenamed.l0 kj24 l0 l1 t570 t574 t578 t582 t556 (t556.length : Int) 0) = some r := by rw [if_neg (show ¬ (false = true) by decide)] at H; exact H
              clear H
              have H := H1
              clear H1
              have H' := Aside0.mk H
              clear H
              go_wp2
              go_loopg [111] kj24 (fun kq v111 w' => ∃ (x111_3 : Int), v111 = .int .i64 x111_3 ∧ Aside0 (laws_FnTreesRenamed.l0 kq l0 l1 t570 t574 t578 t582 t556 (t556.length : Int) x111_3 = some r) ∧ Aside0 (kq ≤ kj24) ∧ Aside0 (Kd.R (Kd.int .i64) 3 w' w.heap.size (fun k_ => some k_ ≠ (v576 : Value).ownBlock ∧ some k_ ≠ (v580 : Value).ownBlock ∧ some k_ ≠ (v584 : Value).ownBlock ∧ some k_ ≠ ((.slice Ao11 t556.length co11) : Value).ownBlock) v572 t570) ∧ Aside0 (Kd.R (Kd.int .i64) 3 w' w.heap.size (fun k_ => some k_ ≠ (v572 : Value).ownBlock ∧ some k_ ≠ (v580 : Value).ownBlock ∧ some k_ ≠ (v584 : Value).ownBlock ∧ some k_ ≠ ((.slice Ao11 t556.length co11) : Value).ownBlock) v576 t574) ∧ Aside0 (Kd.R (Kd.int .i64) 3 w' w.heap.size (fun k_ => some k_ ≠ (v572 : Value).ownBlock ∧ some k_ ≠ (v576 : Value).ownBlock ∧ some k_ ≠ (v584 : Value).ownBlock ∧ some k_ ≠ ((.slice Ao11 t556.length co11) : Value).ownBlock) v580 t578) ∧ Aside0 (Kd.R (Kd.int .i64) 3 w' w.heap.size (fun k_ => some k_ ≠ (v572 : Value).ownBlock ∧ some k_ ≠ (v576 : Value).ownBlock ∧ some k_ ≠ (v580 : Value).ownBlock ∧ some k_ ≠ ((.slice Ao11 t556.length co11) : Value).ownBlock) v584 t582) ∧ Aside0 (Kd.R (Kd.int .i64) 3 w' w.heap.size (fun k_ => some k_ ≠ (v572 : Value).ownBlock ∧ some k_ ≠ (v576 : Value).ownBlock ∧ some k_ ≠ (v580 : Value).ownBlock ∧ some k_ ≠ (v584 : Value).ownBlock) (.slice Ao11 t556.length co11) t556) ∧ Aside0 (Below w.heap.size w w'))
              case atStart => exact ⟨(0), (by first | rfl | (simp; done) | (simp [*]; done)), H', ⟨Nat.le_refl _⟩, ⟨by apply rbW; exact Kd.R_mono HO_11.out (fun _ hk => ⟨hk.2.1, ⟨hk.2.2.1, ⟨hk.2.2.2, hk.1⟩⟩⟩)⟩, ⟨by apply rbW; exact Kd.R_mono HO_13.out (fun _ hk => ⟨hk.2.1, ⟨hk.2.2.1, ⟨hk.2.2.2, hk.1⟩⟩⟩)⟩, ⟨by apply rbW; exact Kd.R_mono HO_15.out (fun _ hk => ⟨hk.2.1, ⟨hk.2.2.1, ⟨hk.2.2.2, hk.1⟩⟩⟩)⟩, ⟨by apply rbW; exact Kd.R_mono HO_17.out (fun _ hk => ⟨hk.2.1, ⟨hk.2.2.1, ⟨hk.2.2.2, hk.1⟩⟩⟩)⟩, ⟨by apply rbW; exact HO_6.out⟩, ⟨nbW HB.out⟩⟩
              case round =>
               clear H'
               try clear c1
               try clear c2
               try clear p2
               try clear c3
               try clear c4
               try clear c11
               try clear c12
               try clear c13
               try clear c14
               try clear c14b0
               try clear c14b1
               try clear c14b2
               try clear c16
               try clear c17
               try clear c18
               try clear c20
               try clear c31
               try clear c32
               try clear c33
               try clear c34
               try clear p2
               obtain ⟨x111_3, rfl, HA, HK3, HO_11, HO_13, HO_15, HO_17, HO_109, HB⟩ := hrel
               cases gk with
               | zero => exact absurd HA.out (by simp [laws_FnTreesRenamed.l0])
               | succ k3 =>
                have H := HA.out
                clear HA
                simp only [laws_FnTreesRenamed.l0] at H
                by_cases c35 : x111_3 < (t556.length : Int)
                ·as_aux_lemma =>
                  rw [if_pos c35] at H
                  have c35b0 := decide_eq_true c35
                  clear c35
                  by_cases c36 : 0 ≤ x111_3
                  ·as_aux_lemma =>
                    rw [if_pos c36] at H
                    have c36b0 := decide_eq_true c36
                    clear c36
                    by_cases c37 : x111_3 < (t556.length : Int)
                    ·as_aux_lemma =>
                      rw [if_pos c37] at H
                      have c37b0 := decide_eq_true c37
                      clear c37
                      by_cases c38 : x111_3 < (t570.length : Int)
                      ·as_aux_lemma =>
                        rw [if_pos c38] at H
                        have c38b0 := decide_eq_true c38
                        clear c38
                        obtain ⟨ji39, hji39⟩ : ∃ j_ : Int, (wrap64 ((rd t556 x111_3) - 1)) = j_ := ⟨_, rfl⟩
                        replace H : (if 0 ≤ (ji39) then (if (ji39) < (t574.length : Int) then (if (rd t570 x111_3) = (rd t574 (ji39)) then (if 0 ≤ (wrap64 (x111_3 + 1)) then (if (wrap64 (x111_3 + 1)) < (t578.length : Int) then (if 0 ≤ (rd t556 x111_3) then (if (rd t556 x111_3) < (t582.length : Int) then (if (rd t578 (wrap64 (x111_3 + 1))) = (rd t582 (rd t556 x111_3)) then (laws_FnTreesRenamed.l0 k3 l0 l1 t570 t574 t578 t582 t556 (t556.length : Int) (wrap64 (x111_3 + 1))) else (some false)) else (none)) else (none)) else (none)) else (none)) else (some false)) else (none)) else (none)) = some r := by first | (rw [hji39] at H; exact H) | (simp only [hji39] at H ⊢; exact H)
                        have hji39w : (IntKind.i64.wrap ((rd t556 x111_3) - 1)) = ji39 := (i64_w _).trans hji39
                        by_cases c40 : 0 ≤ (ji39)
                        ·as_aux_lemma =>
                          rw [if_pos c40] at H
                          have c40b0 := decide_eq_true c40
                          clear c40
                          by_cases c41 : (ji39) < (t574.length : Int)
                          ·as_aux_lemma =>
                            rw [if_pos c41] at H
                            have c41b0 := decide_eq_true c41
                            clear c41
                            by_cases c42 : (rd t570 x111_3) = (rd t574 (ji39))
                            ·as_aux_lemma =>
                              rw [if_pos c42] at H
                              have c42b0 : ((rd t570 x111_3) == (rd t574 (ji39))) = true := beq_iff_eq.mpr c42
                              have c42b1 : ((rd t570 x111_3) != (rd t574 (ji39))) = false := bne_eq_false_iff_eq.mpr c42
                              clear c42
                              obtain ⟨ji43, hji43⟩ : ∃ j_ : Int, (wrap64 (x111_3 + 1)) = j_ := ⟨_, rfl⟩
                              replace H : (if 0 ≤ (ji43) then (if (ji43) < (t578.length : Int) then (if 0 ≤ (rd t556 x111_3) then (if (rd t556 x111_3) < (t582.length : Int) then (if (rd t578 (ji43)) = (rd t582 (rd t556 x111_3)) then (laws_FnTreesRenamed.l0 k3 l0 l1 t570 t574 t578 t582 t556 (t556.length : Int) ji43) else (some false)) else (none)) else (none)) else (none)) else (none)) = some r := by first | (rw [hji43] at H; exact H) | (simp only [hji43] at H ⊢; exact H)
                              have hji43w : (IntKind.i64.wrap (x111_3 + 1)) = ji43 := (i64_w _).trans hji43
                              by_cases c44 : 0 ≤ (ji43)
                              ·as_aux_lemma =>
                                rw [if_pos c44] at H
                                have c44b0 := decide_eq_true c44
                                clear c44
                                by_cases c45 : (ji43) < (t578.length : Int)
                                ·as_aux_lemma =>
                                  rw [if_pos c45] at H
                                  have c45b0 := decide_eq_true c45
                                  clear c45
                                  by_cases c46 : 0 ≤ (rd t556 x111_3)
                                  ·as_aux_lemma =>
                                    rw [if_pos c46] at H
                                    have c46b0 := decide_eq_true c46
                                    clear c46
                                    by_cases c47 : (rd t556 x111_3) < (t582.length : Int)
                                    ·as_aux_lemma =>
                                      rw [if_pos c47] at H
                                      have c47b0 := decide_eq_true c47
                                      clear c47
                                      by_cases c48 : (rd t578 (ji43)) = (rd t582 (rd t556 x111_3))
                                      ·as_aux_lemma =>
                                        rw [if_pos c48] at H
                                        have c48b0 : ((rd t578 (ji43)) == (rd t582 (rd t556 x111_3))) = true := beq_iff_eq.mpr c48
                                        have c48b1 : ((rd t578 (ji43)) != (rd t582 (rd t556 x111_3))) = false := bne_eq_false_iff_eq.mpr c48
                                        clear c48
                                        have H' := Aside0.mk H
                                        clear H
                                        have p586 : 0 ≤ (x111_3 : Int) := of_decide_eq_true (by first | (with_reducible assumption) | assumption)
                                        have q586 : x111_3 < (t556.length : Int) := of_decide_eq_true (by first | (with_reducible assumption) | assumption)
                                        obtain ⟨ad586, e586, hx586_0⟩ := Kd.at_int (Kd.R_reads' HO_109.out).2.2 x111_3 p586 q586
                                        cases e586
                                        replace p586 := eq_true p586
                                        replace q586 := eq_true q586
                                        try go_wp2
                                        have n0_ := Aside0.mk (Kd.R_drew HO_11.out)
                                        have n1_ := Aside0.mk (Kd.R_drew HO_13.out)
                                        have n2_ := Aside0.mk (Kd.R_drew HO_15.out)
                                        have n3_ := Aside0.mk (Kd.R_drew HO_17.out)
                                        have n4_ := Aside0.mk (Kd.R_drew HO_109.out)
                                        have n5_ := Aside0.mk (below_drew1 HB.out)
                                        clear HO_11
                                        clear HO_13
                                        clear HO_15
                                        clear HO_17
                                        clear HO_109
                                        clear HB
                                        have HO_11 := n0_
                                        have HO_13 := n1_
                                        have HO_15 := n2_
                                        have HO_17 := n3_
                                        have HO_109 := n4_
                                        have HB := n5_
                                        clear n0_ n1_ n2_ n3_ n4_ n5_
                                        obtain ⟨Ao50, co50, eo50⟩ := Kd.R_slice HO_11.out
                                        (first | subst eo50 | (injection eo50 with f1_ f2_ f3_; have f4_ := f1_.symm; have f5_ := f3_.symm; clear f1_ f2_ f3_; subst f4_; subst f5_))
                                        have p587 : 0 ≤ (x111_3 : Int) := of_decide_eq_true (by first | (with_reducible assumption) | assumption)
                                        have q587 : x111_3 < (t570.length : Int) := of_decide_eq_true (by first | (with_reducible assumption) | assumption)
                                        obtain ⟨ad587, e587, hx587_0⟩ := Kd.at_int (Kd.R_reads' HO_11.out).2.2 x111_3 p587 q587
                                        cases e587
                                        replace p587 := eq_true p587
                                        replace q587 := eq_true q587
                                        obtain ⟨Ao51, co51, eo51⟩ := Kd.R_slice HO_13.out
                                        (first | subst eo51 | (injection eo51 with f1_ f2_ f3_; have f4_ := f1_.symm; have f5_ := f3_.symm; clear f1_ f2_ f3_; subst f4_; subst f5_))
                                        have p588 : 0 ≤ ((ji39) : Int) := of_decide_eq_true (by first | (with_reducible assumption) | assumption)
                                        have q588 : (ji39) < (t574.length : Int) := of_decide_eq_true (by first | (with_reducible assumption) | assumption)
                                        obtain ⟨ad588, e588, hx588_0⟩ := Kd.at_int (Kd.R_reads' HO_13.out).2.2 (ji39) p588 q588
                                        cases e588
                                        replace p588 := eq_true p588
                                        replace q588 := eq_true q588
                                        obtain ⟨Ao52, co52, eo52⟩ := Kd.R_slice HO_15.out
                                        (first | subst eo52 | (injection eo52 with f1_ f2_ f3_; have f4_ := f1_.symm; have f5_ := f3_.symm; clear f1_ f2_ f3_; subst f4_; subst f5_))
                                        have p589 : 0 ≤ ((ji43) : Int) := of_decide_eq_true (by first | (with_reducible assumption) | assumption)
                                        have q589 : (ji43) < (t578.length : Int) := of_decide_eq_true (by first | (with_reducible assumption) | assumption)
                                        obtain ⟨ad589, e589, hx589_0⟩ := Kd.at_int (Kd.R_reads' HO_15.out).2.2 (ji43) p589 q589
                                        cases e589
                                        replace p589 := eq_true p589
                                        replace q589 := eq_true q589
                                        obtain ⟨Ao53, co53, eo53⟩ := Kd.R_slice HO_17.out
                                        (first | subst eo53 | (injection eo53 with f1_ f2_ f3_; have f4_ := f1_.symm; have f5_ := f3_.symm; clear f1_ f2_ f3_; subst f4_; subst f5_))
                                        have p590 : 0 ≤ ((rd t556 x111_3) : Int) := of_decide_eq_true (by first | (with_reducible assumption) | assumption)
                                        have q590 : (rd t556 x111_3) < (t582.length : Int) := of_decide_eq_true (by first | (with_reducible assumption) | assumption)
                                        obtain ⟨ad590, e590, hx590_0⟩ := Kd.at_int (Kd.R_reads' HO_17.out).2.2 (rd t556 x111_3) p590 q590
                                        cases e590
                                        replace p590 := eq_true p590
                                        replace q590 := eq_true q590
                                        refine start_ (n := 22) (S := fun w' => w'.cell? (ad587.add (x111_3).toNat) = some (.int .i64 (rd t570 x111_3)) ∧ w'.cell? (ad588.add ((ji39)).toNat) = some (.int .i64 (rd t574 (ji39))) ∧ w'.cell? (ad589.add ((ji43)).toNat) = some (.int .i64 (rd t578 (ji43))) ∧ w'.cell? (ad590.add ((rd t556 x111_3)).toNat) = some (.int .i64 (rd t582 (rd t556 x111_3)))) (ds := []) #[false, false, false, false, false, false, false, false, false, false, false, false, false, false, false, false, false, false, false, false, false, false] (by kernel_rfl) rfl rfl ⟨hx587_0, hx588_0, hx589_0, hx590_0⟩ (fun hHeld => ?_); refine with_tabW laws_FnTreesRenamed.tab18 laws_FnTreesRenamed.bits18 (fun HT_ HW_ => ?_)
                                        generalize wr.drew = w49 at HO_11 HO_13 HO_15 HO_17 HO_109 HB hx587_0 hx588_0 hx589_0 hx590_0 hHeld ⊢
                                        refine puW 0 116 HT_.out ?_
                                        refine puW 1 117 HT_.out ?_
                                        refine puW 2 118 HT_.out ?_
                                        refine puW 4 120 HT_.out ?_
                                        refine puW 5 121 HT_.out ?_
                                        refine puW 6 122 HT_.out ?_
                                        refine puW 7 123 HT_.out ?_
                                        refine taW 3 119 HT_.out HW_.out hHeld rfl (by rintro w' ⟨s0, s1, s2, s3⟩; go_simp; with_reducible rfl) ?_
                                        refine taW 8 124 HT_.out HW_.out hHeld rfl (by rintro w' ⟨s0, s1, s2, s3⟩; go_simp; with_reducible rfl) ?_
                                        refine puW 9 125 HT_.out ?_
                                        refine puW 10 126 HT_.out ?_
                                        refine puW 11 127 HT_.out ?_
                                        refine puW 12 128 HT_.out ?_
                                        refine puW 13 129 HT_.out ?_
                                        refine puW 14 130 HT_.out ?_
                                        refine puW 16 132 HT_.out ?_
                                        refine puW 17 133 HT_.out ?_
                                        refine puW 18 134 HT_.out ?_
                                        refine taW 15 131 HT_.out HW_.out hHeld rfl (by rintro w' ⟨s0, s1, s2, s3⟩; go_simp; with_reducible rfl) ?_
                                        refine taW 19 135 HT_.out HW_.out hHeld rfl (by rintro w' ⟨s0, s1, s2, s3⟩; go_simp; with_reducible rfl) ?_
                                        refine puW 20 136 HT_.out ?_
                                        refine puW 21 137 HT_.out ?_
                                        refine done_ (done_of HT_.out (by kernel_rfl)) ?_
                                        try go_wp2
                                        go_roundg k3
                                        case measure => have := HJ7.out; have := HJ24.out; have := HK3.out; omega
                                        case rel => exact ⟨(ji43), (by first | rfl | (simp; done) | (simp only [← hji43] <;> (first | rfl | simp)) | (simp [*]; done)), H', ⟨by have := HJ7.out; have := HJ24.out; have := HK3.out; omega⟩, ⟨by apply rbW; exact HO_11.out⟩, ⟨by apply rbW; exact HO_13.out⟩, ⟨by apply rbW; exact HO_15.out⟩, ⟨by apply rbW; exact HO_17.out⟩, ⟨by apply rbW; exact HO_109.out⟩, ⟨nbW HB.out⟩⟩
                                      ·as_aux_lemma =>
                                        rw [if_neg c48] at H
                                        have c48b0 : ((rd t578 (ji43)) == (rd t582 (rd t556 x111_3))) = false := beq_eq_false_iff_ne.mpr c48
                                        have c48b1 : ((rd t578 (ji43)) != (rd t582 (rd t556 x111_3))) = true := bne_iff_ne.mpr c48
                                        obtain rfl := Option.some.inj H
                                        have p586 : 0 ≤ (x111_3 : Int) := of_decide_eq_true (by first | (with_reducible assumption) | assumption)
                                        have q586 : x111_3 < (t556.length : Int) := of_decide_eq_true (by first | (with_reducible assumption) | assumption)
                                        obtain ⟨ad586, e586, hx586_0⟩ := Kd.at_int (Kd.R_reads' HO_109.out).2.2 x111_3 p586 q586
                                        cases e586
                                        replace p586 := eq_true p586
                                        replace q586 := eq_true q586
                                        try go_wp2
                                        have n0_ := Aside0.mk (Kd.R_drew HO_11.out)
                                        have n1_ := Aside0.mk (Kd.R_drew HO_13.out)
                                        have n2_ := Aside0.mk (Kd.R_drew HO_15.out)
                                        have n3_ := Aside0.mk (Kd.R_drew HO_17.out)
                                        have n4_ := Aside0.mk (Kd.R_drew HO_109.out)
                                        have n5_ := Aside0.mk (below_drew1 HB.out)
                                        clear HO_11
                                        clear HO_13
                                        clear HO_15
                                        clear HO_17
                                        clear HO_109
                                        clear HB
                                        have HO_11 := n0_
                                        have HO_13 := n1_
                                        have HO_15 := n2_
                                        have HO_17 := n3_
                                        have HO_109 := n4_
                                        have HB := n5_
                                        clear n0_ n1_ n2_ n3_ n4_ n5_
                                        obtain ⟨Ao55, co55, eo55⟩ := Kd.R_slice HO_11.out
                                        (first | subst eo55 | (injection eo55 with f1_ f2_ f3_; have f4_ := f1_.symm; have f5_ := f3_.symm; clear f1_ f2_ f3_; subst f4_; subst f5_))
                                        have p587 : 0 ≤ (x111_3 : Int) := of_decide_eq_true (by first | (with_reducible assumption) | assumption)
                                        have q587 : x111_3 < (t570.length : Int) := of_decide_eq_true (by first | (with_reducible assumption) | assumption)
                                        obtain ⟨ad587, e587, hx587_0⟩ := Kd.at_int (Kd.R_reads' HO_11.out).2.2 x111_3 p587 q587
                                        cases e587
                                        replace p587 := eq_true p587
                                        replace q587 := eq_true q587
                                        obtain ⟨Ao56, co56, eo56⟩ := Kd.R_slice HO_13.out
                                        (first | subst eo56 | (injection eo56 with f1_ f2_ f3_; have f4_ := f1_.symm; have f5_ := f3_.symm; clear f1_ f2_ f3_; subst f4_; subst f5_))
                                        have p588 : 0 ≤ ((ji39) : Int) := of_decide_eq_true (by first | (with_reducible assumption) | assumption)
                                        have q588 : (ji39) < (t574.length : Int) := of_decide_eq_true (by first | (with_reducible assumption) | assumption)
                                        obtain ⟨ad588, e588, hx588_0⟩ := Kd.at_int (Kd.R_reads' HO_13.out).2.2 (ji39) p588 q588
                                        cases e588
                                        replace p588 := eq_true p588
                                        replace q588 := eq_true q588
                                        obtain ⟨Ao57, co57, eo57⟩ := Kd.R_slice HO_15.out
                                        (first | subst eo57 | (injection eo57 with f1_ f2_ f3_; have f4_ := f1_.symm; have f5_ := f3_.symm; clear f1_ f2_ f3_; subst f4_; subst f5_))
                                        have p589 : 0 ≤ ((ji43) : Int) := of_decide_eq_true (by first | (with_reducible assumption) | assumption)
                                        have q589 : (ji43) < (t578.length : Int) := of_decide_eq_true (by first | (with_reducible assumption) | assumption)
                                        obtain ⟨ad589, e589, hx589_0⟩ := Kd.at_int (Kd.R_reads' HO_15.out).2.2 (ji43) p589 q589
                                        cases e589
                                        replace p589 := eq_true p589
                                        replace q589 := eq_true q589
                                        obtain ⟨Ao58, co58, eo58⟩ := Kd.R_slice HO_17.out
                                        (first | subst eo58 | (injection eo58 with f1_ f2_ f3_; have f4_ := f1_.symm; have f5_ := f3_.symm; clear f1_ f2_ f3_; subst f4_; subst f5_))
                                        have p590 : 0 ≤ ((rd t556 x111_3) : Int) := of_decide_eq_true (by first | (with_reducible assumption) | assumption)
                                        have q590 : (rd t556 x111_3) < (t582.length : Int) := of_decide_eq_true (by first | (with_reducible assumption) | assumption)
                                        obtain ⟨ad590, e590, hx590_0⟩ := Kd.at_int (Kd.R_reads' HO_17.out).2.2 (rd t556 x111_3) p590 q590
                                        cases e590
                                        replace p590 := eq_true p590
                                        replace q590 := eq_true q590
                                        refine start_ (n := 22) (S := fun w' => w'.cell? (ad587.add (x111_3).toNat) = some (.int .i64 (rd t570 x111_3)) ∧ w'.cell? (ad588.add ((ji39)).toNat) = some (.int .i64 (rd t574 (ji39))) ∧ w'.cell? (ad589.add ((ji43)).toNat) = some (.int .i64 (rd t578 (ji43))) ∧ w'.cell? (ad590.add ((rd t556 x111_3)).toNat) = some (.int .i64 (rd t582 (rd t556 x111_3)))) (ds := []) #[false, false, false, false, false, false, false, false, false, false, false, false, false, false, false, false, false, false, false, false, false, false] (by kernel_rfl) rfl rfl ⟨hx587_0, hx588_0, hx589_0, hx590_0⟩ (fun hHeld => ?_); refine with_tabW laws_FnTreesRenamed.tab18 laws_FnTreesRenamed.bits18 (fun HT_ HW_ => ?_)
                                        generalize wr.drew = w54 at HO_11 HO_13 HO_15 HO_17 HO_109 HB hx587_0 hx588_0 hx589_0 hx590_0 hHeld ⊢
                                        refine puW 0 116 HT_.out ?_
                                        refine puW 1 117 HT_.out ?_
                                        refine puW 2 118 HT_.out ?_
                                        refine puW 4 120 HT_.out ?_
                                        refine puW 5 121 HT_.out ?_
                                        refine puW 6 122 HT_.out ?_
                                        refine puW 7 123 HT_.out ?_
                                        refine taW 3 119 HT_.out HW_.out hHeld rfl (by rintro w' ⟨s0, s1, s2, s3⟩; go_simp; with_reducible rfl) ?_
                                        refine taW 8 124 HT_.out HW_.out hHeld rfl (by rintro w' ⟨s0, s1, s2, s3⟩; go_simp; with_reducible rfl) ?_
                                        refine puW 9 125 HT_.out ?_
                                        refine puW 10 126 HT_.out ?_
                                        refine puW 11 127 HT_.out ?_
                                        refine puW 12 128 HT_.out ?_
                                        refine puW 13 129 HT_.out ?_
                                        refine puW 14 130 HT_.out ?_
                                        refine puW 16 132 HT_.out ?_
                                        refine puW 17 133 HT_.out ?_
                                        refine puW 18 134 HT_.out ?_
                                        refine taW 15 131 HT_.out HW_.out hHeld rfl (by rintro w' ⟨s0, s1, s2, s3⟩; go_simp; with_reducible rfl) ?_
                                        refine taW 19 135 HT_.out HW_.out hHeld rfl (by rintro w' ⟨s0, s1, s2, s3⟩; go_simp; with_reducible rfl) ?_
                                        refine puW 20 136 HT_.out ?_
                                        refine puW 21 137 HT_.out ?_
                                        refine done_ (done_of HT_.out (by kernel_rfl)) ?_
                                        try go_wp2
                                        go_ret
                                        exact ⟨by first | rfl | (simp [errW_none, errW_some] <;> rfl) | (simp only [← hji39, ← hji43]; first | rfl | (simp [errW_none, errW_some] <;> rfl)) | (simp [*, errW_none, errW_some] <;> rfl), nbW HB.out⟩
                                    ·rw [if_neg c47] at H
                                     exact absurd H (by simp)
                                  ·rw [if_neg c46] at H
                                   exact absurd H (by simp)
                                ·rw [if_neg c45] at H
                                 exact absurd H (by simp)
                              ·rw [if_neg c44] at H
                               exact absurd H (by simp)
                            ·as_aux_lemma =>
                              rw [if_neg c42] at H
                              have c42b0 : ((rd t570 x111_3) == (rd t574 (ji39))) = false := beq_eq_false_iff_ne.mpr c42
                              have c42b1 : ((rd t570 x111_3) != (rd t574 (ji39))) = true := bne_iff_ne.mpr c42
                              obtain rfl := Option.some.inj H
                              have p586 : 0 ≤ (x111_3 : Int) := of_decide_eq_true (by first | (with_reducible assumption) | assumption)
                              have q586 : x111_3 < (t556.length : Int) := of_decide_eq_true (by first | (with_reducible assumption) | assumption)
                              obtain ⟨ad586, e586, hx586_0⟩ := Kd.at_int (Kd.R_reads' HO_109.out).2.2 x111_3 p586 q586
                              cases e586
                              replace p586 := eq_true p586
                              replace q586 := eq_true q586
                              try go_wp2
                              have n0_ := Aside0.mk (Kd.R_drew HO_11.out)
                              have n1_ := Aside0.mk (Kd.R_drew HO_13.out)
                              have n2_ := Aside0.mk (Kd.R_drew HO_15.out)
                              have n3_ := Aside0.mk (Kd.R_drew HO_17.out)
                              have n4_ := Aside0.mk (Kd.R_drew HO_109.out)
                              have n5_ := Aside0.mk (below_drew1 HB.out)
                              clear HO_11
                              clear HO_13
                              clear HO_15
                              clear HO_17
                              clear HO_109
                              clear HB
                              have HO_11 := n0_
                              have HO_13 := n1_
                              have HO_15 := n2_
                              have HO_17 := n3_
                              have HO_109 := n4_
                              have HB := n5_
                              clear n0_ n1_ n2_ n3_ n4_ n5_
                              obtain ⟨Ao60, co60, eo60⟩ := Kd.R_slice HO_11.out
                              (first | subst eo60 | (injection eo60 with f1_ f2_ f3_; have f4_ := f1_.symm; have f5_ := f3_.symm; clear f1_ f2_ f3_; subst f4_; subst f5_))
                              have p587 : 0 ≤ (x111_3 : Int) := of_decide_eq_true (by first | (with_reducible assumption) | assumption)
                              have q587 : x111_3 < (t570.length : Int) := of_decide_eq_true (by first | (with_reducible assumption) | assumption)
                              obtain ⟨ad587, e587, hx587_0⟩ := Kd.at_int (Kd.R_reads' HO_11.out).2.2 x111_3 p587 q587
                              cases e587
                              replace p587 := eq_true p587
                              replace q587 := eq_true q587
                              obtain ⟨Ao61, co61, eo61⟩ := Kd.R_slice HO_13.out
                              (first | subst eo61 | (injection eo61 with f1_ f2_ f3_; have f4_ := f1_.symm; have f5_ := f3_.symm; clear f1_ f2_ f3_; subst f4_; subst f5_))
                              have p588 : 0 ≤ ((ji39) : Int) := of_decide_eq_true (by first | (with_reducible assumption) | assumption)
                              have q588 : (ji39) < (t574.length : Int) := of_decide_eq_true (by first | (with_reducible assumption) | assumption)
                              obtain ⟨ad588, e588, hx588_0⟩ := Kd.at_int (Kd.R_reads' HO_13.out).2.2 (ji39) p588 q588
                              cases e588
                              replace p588 := eq_true p588
                              replace q588 := eq_true q588
                              refine start_ (n := 22) (S := fun w' => w'.cell? (ad587.add (x111_3).toNat) = some (.int .i64 (rd t570 x111_3)) ∧ w'.cell? (ad588.add ((ji39)).toNat) = some (.int .i64 (rd t574 (ji39)))) (ds := []) #[false, false, false, false, false, false, false, false, false, false, false, false, false, false, false, false, false, false, false, false, false, false] (by kernel_rfl) rfl rfl ⟨hx587_0, hx588_0⟩ (fun hHeld => ?_); refine with_tabW laws_FnTreesRenamed.tab18 laws_FnTreesRenamed.bits18 (fun HT_ HW_ => ?_)
                              generalize wr.drew = w59 at HO_11 HO_13 HO_15 HO_17 HO_109 HB hx587_0 hx588_0 hHeld ⊢
                              refine puW 0 116 HT_.out ?_
                              refine puW 1 117 HT_.out ?_
                              refine puW 2 118 HT_.out ?_
                              refine puW 4 120 HT_.out ?_
                              refine puW 5 121 HT_.out ?_
                              refine puW 6 122 HT_.out ?_
                              refine puW 7 123 HT_.out ?_
                              refine taW 3 119 HT_.out HW_.out hHeld rfl (by rintro w' ⟨s0, s1⟩; go_simp; with_reducible rfl) ?_
                              refine taW 8 124 HT_.out HW_.out hHeld rfl (by rintro w' ⟨s0, s1⟩; go_simp; with_reducible rfl) ?_
                              refine puW 9 125 HT_.out ?_
                              refine puW 10 126 HT_.out ?_
                              refine ofW 11 127 HT_.out ?_
                              refine ofW 12 128 HT_.out ?_
                              refine ofW 13 129 HT_.out ?_
                              refine ofW 14 130 HT_.out ?_
                              refine ofW 15 131 HT_.out ?_
                              refine ofW 16 132 HT_.out ?_
                              refine ofW 17 133 HT_.out ?_
                              refine ofW 18 134 HT_.out ?_
                              refine ofW 19 135 HT_.out ?_
                              refine ofW 20 136 HT_.out ?_
                              refine puW 21 137 HT_.out ?_
                              refine done_ (done_of HT_.out (by kernel_rfl)) ?_
                              try go_wp2
                              go_ret
                              exact ⟨by first | rfl | (simp [errW_none, errW_some] <;> rfl) | (simp only [← hji39]; first | rfl | (simp [errW_none, errW_some] <;> rfl)) | (simp [*, errW_none, errW_some] <;> rfl), nbW HB.out⟩
                          ·rw [if_neg c41] at H
                           exact absurd H (by simp)
                        ·rw [if_neg c40] at H
                         exact absurd H (by simp)
                      ·rw [if_neg c38] at H
                       exact absurd H (by simp)
                    ·rw [if_neg c37] at H
                     exact absurd H (by simp)
                  ·rw [if_neg c36] at H
                   exact absurd H (by simp)
                ·rw [if_neg c35] at H
                 have c35b0 := decide_eq_false c35
                 clear c35
                 have H' := Aside0.mk H
                 clear H
                 go_wp2
                 go_meet
                 case rel => exact ⟨_, H', ⟨by have := HJ7.out; have := HJ24.out; have := HK3.out; first | omega | exact Nat.le_refl _⟩, ⟨nbW HB.out⟩⟩
        ·replace c20 := Bool.eq_false_iff.mpr c20
         subst c20
         have H1 : (laws_FnTreesRenamed.j3 kj7 l0 l1) = some r := by rw [if_neg (show ¬ (false = true) by decide)] at H; exact H
         clear H
         have H := H1
         clear H1
         have H' := Aside0.mk H
         clear H
         go_wp2
         go_meet
         case rel => exact ⟨_, H', ⟨by have := HJ7.out; first | omega | exact Nat.le_refl _⟩, ⟨nbW HB.out⟩⟩
       case rest =>
        clear HC19
        try clear c2
        try clear p2
        try clear c3
        try clear c4
        try clear p5
        try clear q5
        try clear hx5
        try clear c20
        try clear c35
        try clear c35b0
        try clear c36
        try clear c37
        try clear c38
        try clear c40
        try clear c41
        try clear c42
        try clear c42b0
        try clear c42b1
        try clear c44
        try clear c45
        try clear c46
        try clear c47
        try clear c48
        try clear c48b0
        try clear c48b1
        try clear p58
        try clear q58
        try clear hx58
        try clear p59
        try clear q59
        try clear hx59
        try clear hx586_0
        try clear hx587_0
        try clear hx588_0
        try clear hx589_0
        try clear hx590_0
        try clear p586
        try clear p587
        try clear p588
        try clear p589
        try clear p590
        try clear q586
        try clear q587
        try clear q588
        try clear q589
        try clear q590
        obtain ⟨kq, HA, HJ18, HB⟩ := hcut
        cases kq with
        | zero => exact absurd HA.out (by simp [laws_FnTreesRenamed.j3])
        | succ kj18 =>
         have H := HA.out
         clear HA
         simp only [laws_FnTreesRenamed.j3] at H
         replace H := Option.bind_eq_some_iff.mp H
         obtain ⟨⟨t591, t592⟩, A620, H⟩ := H
         (try dsimp -simprocs only at H)
         have A62 := Aside0.mk A620
         clear A620
         replace H := Option.bind_eq_some_iff.mp H
         obtain ⟨⟨t595, t596⟩, A630, H⟩ := H
         (try dsimp -simprocs only at H)
         have A63 := Aside0.mk A630
         clear A630
         replace H := Option.bind_eq_some_iff.mp H
         obtain ⟨⟨t599, t600⟩, A640, H⟩ := H
         (try dsimp -simprocs only at H)
         have A64 := Aside0.mk A640
         clear A640
         have HC65 := Aside0.mk H
         clear H
         go_upto_region 24 with (first | ((with_reducible refine gate_callee (f := 18) rfl ?_); refine gcW 141 Tryz.func18 #[.slice A1 l1.length c1] rfl ?_; (with_reducible refine (spec_DrawRerootTree.calls kj18 _ _ l1 t591 t592 _ ?side1 ?side2 A62.out).mono ?_); (case side1 => exact cbW (Kd.C_below HR1.out HB.out)); (case side2 => exact HC1.out); rintro e w66 ⟨v593, rfl, ho0, hb⟩; refine ⟨_, rfl, ?_⟩; have n0_ := Aside0.mk (Kd.R_lower ho0 (below_size (nbW HB.out))); have n1_ := Aside0.mk (below_step (nbW HB.out) hb); clear HB; have HO594 := n0_; have HB := n1_; clear n0_ n1_; (try clear hb); (try clear hb2); (try clear hk); (try clear hi); (try clear ho0); obtain ⟨Ao67, co67, eo67⟩ := Kd.R_slice HO594.out; subst eo67) | ((with_reducible refine gate_callee (f := 19) rfl ?_); refine gcW 147 Tryz.func19 #[.slice Ao67 t591.length co67, .int .i64 t592] rfl ?_; (with_reducible refine (impl_RerootTree.calls kj18 _ _ t591 t592 t595 t596 _ ?side1 ?side2 A63.out).mono ?_); (case side1 => exact cbW (Kd.R_reads' HO594.out).2.2); (case side2 => exact (Kd.R_reads' HO594.out).2.1); rintro e w68 ⟨v597, rfl, ho0, hb⟩; refine ⟨_, rfl, ?_⟩; have n0_ := Aside0.mk (Kd.R_elder' (rbW HO594.out) (Kd.R_base ho0) hb); have n1_ := Aside0.mk (Kd.R_lower (Kd.R_new' ho0 (Kd.R_lt (rbW HO594.out))) (below_size (nbW HB.out))); have n2_ := Aside0.mk (below_step (nbW HB.out) hb); clear HO594; clear HB; have HO594 := n0_; have HO598 := n1_; have HB := n2_; clear n0_ n1_ n2_; (try clear hb); (try clear hb2); (try clear hk); (try clear hi); (try clear ho0)) | ((with_reducible refine gate_callee (f := 20) rfl ?_); refine gcW 153 Tryz.func20 #[.slice Ao67 t591.length co67, .int .i64 t592] rfl ?_; (with_reducible refine (spec_RerootTree.calls kj18 _ _ t591 t592 t599 t600 _ ?side1 ?side2 A64.out).mono ?_); (case side1 => exact cbW (Kd.R_reads' HO594.out).2.2); (case side2 => exact (Kd.R_reads' HO594.out).2.1); rintro e w69 ⟨v601, rfl, ho0, hb⟩; refine ⟨_, rfl, ?_⟩; have n0_ := Aside0.mk (Kd.R_elder' (rbW HO594.out) (Kd.R_base ho0) hb); have n1_ := Aside0.mk (Kd.R_elder' (rbW HO598.out) (Kd.R_base ho0) hb); have n2_ := Aside0.mk (Kd.R_lower (Kd.R_new' (Kd.R_new' ho0 (Kd.R_lt (rbW HO594.out))) (Kd.R_lt (rbW HO598.out))) (below_size (nbW HB.out))); have n3_ := Aside0.mk (below_step (nbW HB.out) hb); clear HO594; clear HO598; clear HB; have HO594 := n0_; have HO598 := n1_; have HO602 := n2_; have HB := n3_; clear n0_ n1_ n2_ n3_; (try clear hb); (try clear hb2); (try clear hk); (try clear hi); (try clear ho0)))
         (try simp only [Act.put, List.setIfInBounds_toArray, List.set_cons_zero, List.set_cons_succ])
         go_cut [164] (fun v164 wc => ∃ (kq : Nat) (x164_64 : Bool), v164 = .bool x164_64 ∧ Aside0 (laws_FnTreesRenamed.j4 kq l0 l1 t591 t592 t595 t596 x164_64 = some r) ∧ Aside0 (kq ≤ kj18) ∧ Aside0 (Kd.R (Kd.int .i64) 3 wc w.heap.size (fun k_ => some k_ ≠ (v597 : Value).ownBlock) (.slice Ao67 t591.length co67) t591) ∧ Aside0 (Kd.R (Kd.int .i64) 3 wc w.heap.size (fun k_ => some k_ ≠ ((.slice Ao67 t591.length co67) : Value).ownBlock) v597 t595) ∧ Aside0 (Below w.heap.size w wc))
         case first =>
          have H := HC65.out
          clear HC65
          by_cases c70 : (t596 != t600) = true
          ·rw [if_pos c70] at H
           have c70b0 : (t596 != t600) = true := c70
           (try (have c70b1 : decide (t596 = t600) = false := by simpa using c70))
           (try (have c70b2 : (t596 == t600) = false := by simpa using c70))
           (try (have c70b3 : ¬ (t596 = t600) := by simpa using c70))
           clear c70
           (first | rw [c70b0] | (simp only [i64_w, i32_w]; rw [c70b0]) | rw [c70b1] | skip)
           have H' := Aside0.mk H
           clear H
           go_wp2
           go_meet
           case rel => exact ⟨_, (true), (by first | rfl | (simp; done) | (simp [*]; done)), H', ⟨by have := HJ7.out; have := HJ18.out; first | omega | exact Nat.le_refl _⟩, ⟨by apply rbW; exact Kd.R_mono HO594.out (fun _ hk => hk.1.2)⟩, ⟨by apply rbW; exact Kd.R_mono HO598.out (fun _ hk => hk.1.2)⟩, ⟨nbW HB.out⟩⟩
          ·rw [if_neg c70] at H
           have c70b0 : (t596 != t600) = false := by simpa using c70
           (try (have c70b1 : decide (t596 = t600) = true := by simpa using c70))
           (try (have c70b2 : (t596 == t600) = true := by simpa using c70))
           clear c70
           (first | rw [c70b0] | (simp only [i64_w, i32_w]; rw [c70b0]) | rw [c70b1] | skip)
           replace H := Option.bind_eq_some_iff.mp H
           obtain ⟨t603, A710, H⟩ := H
           (try dsimp -simprocs only at H)
           have A71 := Aside0.mk A710
           clear A710
           have H' := Aside0.mk H
           clear H
           obtain ⟨Ao72, co72, eo72⟩ := Kd.R_slice HO598.out
           subst eo72
           obtain ⟨Ao73, co73, eo73⟩ := Kd.R_slice HO602.out
           subst eo73
           go_wp2_with (first | (go_at_call 15; (with_reducible refine (laws_wSame.calls kj18 _ _ t595 _ _ t599 t603 _ ?side1 ?side2 ?side3 ?side4 A71.out).mono ?_); (case side1 => exact cbW (Kd.R_reads' HO598.out).2.2); (case side2 => exact (Kd.R_reads' HO598.out).2.1); (case side3 => exact cbW (Kd.R_reads' HO602.out).2.2); (case side4 => exact (Kd.R_reads' HO602.out).2.1); rintro e w' ⟨rfl, ⟨nd, rfl⟩⟩))
           go_meet
           case rel => exact ⟨_, (!t603), (by first | rfl | (simp; done) | (simp [*]; done)), H', ⟨by have := HJ7.out; have := HJ18.out; first | omega | exact Nat.le_refl _⟩, ⟨by apply rbW; exact Kd.R_mono HO594.out (fun _ hk => hk.1.2)⟩, ⟨by apply rbW; exact Kd.R_mono HO598.out (fun _ hk => hk.1.2)⟩, ⟨nbW HB.out⟩⟩
         case rest =>
          clear HC65
          try clear c1
          try clear c2
          try clear p2
          try clear c3
          try clear c4
          try clear p5
          try clear q5
          try clear hx5
          try clear c7
          try clear c18
          try clear c19
          try clear c20
          try clear c35
          try clear c35b0
          try clear c36
          try clear c37
          try clear c38
          try clear c40
          try clear c41
          try clear c42
          try clear c42b0
          try clear c42b1
          try clear c44
          try clear c45
          try clear c46
          try clear c47
          try clear c48
          try clear c48b0
          try clear c48b1
          try clear p58
          try clear q58
          try clear hx58
          try clear p59
          try clear q59
          try clear hx59
          try clear c70
          try clear c70b0
          try clear c70b1
          try clear c70b2
          try clear hx586_0
          try clear hx587_0
          try clear hx588_0
          try clear hx589_0
          try clear hx590_0
          try clear p2
          try clear p5
          try clear p58
          try clear p586
          try clear p587
          try clear p588
          try clear p589
          try clear p59
          try clear p590
          try clear q5
          try clear q58
          try clear q586
          try clear q587
          try clear q588
          try clear q589
          try clear q59
          try clear q590
          obtain ⟨kq, x164_64, rfl, HA, HJ64, HO_21, HO_23, HB⟩ := hcut
          cases kq with
          | zero => exact absurd HA.out (by simp [laws_FnTreesRenamed.j4])
          | succ kj64 =>
           have H := HA.out
           clear HA
           simp only [laws_FnTreesRenamed.j4] at H
           by_cases c74 : x164_64 = true
           ·subst c74
            have H1 : (some false) = some r := by rw [if_pos rfl] at H; exact H
            clear H
            have H := H1
            clear H1
            obtain rfl := Option.some.inj H
            go_wp2
            go_ret
            exact ⟨by first | rfl | (simp [errW_none, errW_some] <;> rfl) | (simp [*, errW_none, errW_some] <;> rfl), nbW HB.out⟩
           ·as_aux_lemma =>
             replace c74 := Bool.eq_false_iff.mpr c74
             subst c74
             have H1 : (if t596 = true then ((impl_RerootTree.f kj64 t595 t592).bind fun bt604 => ((impl_DegreesOf.f kj64 t591).bind fun bt608 => ((impl_DegreesOf.f kj64 t595).bind fun bt612 => (if bt604.2 = true then (if bt608.2 = true then (if bt612.2 = true then ((laws_wSame.f kj64 bt604.1 t591).bind fun t616 => (if t616 = true then (if 0 < (bt608.1.length : Int) then (if 0 ≤ t592 then (if t592 < (bt612.1.length : Int) then (if (rd bt608.1 0) = (rd bt612.1 t592) then (if t592 < (bt608.1.length : Int) then (if 0 < (bt612.1.length : Int) then (if (rd bt608.1 t592) = (rd bt612.1 0) then (laws_FnTreesRenamed.j5 kj64 l0 l1) else (some false)) else (none)) else (none)) else (some false)) else (none)) else (none)) else (none)) else (some false))) else (some false)) else (some false)) else (some false))))) else (laws_FnTreesRenamed.j5 kj64 l0 l1)) = some r := by rw [if_neg (show ¬ (false = true) by decide)] at H; exact H
             clear H
             have H := H1
             clear H1
             have HC75 := Aside0.mk H
             clear H
             go_upto_if 165 with (fail)
             go_cut [] (fun wc => ∃ (kq : Nat), Aside0 (laws_FnTreesRenamed.j5 kq l0 l1 = some r) ∧ Aside0 (kq ≤ kj64) ∧ Aside0 (Below w.heap.size w wc))
             case first =>
              have H := HC75.out
              clear HC75
              by_cases c76 : t596 = true
              ·as_aux_lemma =>
                subst c76
                have H1 : ((impl_RerootTree.f kj64 t595 t592).bind fun bt604 => ((impl_DegreesOf.f kj64 t591).bind fun bt608 => ((impl_DegreesOf.f kj64 t595).bind fun bt612 => (if bt604.2 = true then (if bt608.2 = true then (if bt612.2 = true then ((laws_wSame.f kj64 bt604.1 t591).bind fun t616 => (if t616 = true then (if 0 < (bt608.1.length : Int) then (if 0 ≤ t592 then (if t592 < (bt612.1.length : Int) then (if (rd bt608.1 0) = (rd bt612.1 t592) then (if t592 < (bt608.1.length : Int) then (if 0 < (bt612.1.length : Int) then (if (rd bt608.1 t592) = (rd bt612.1 0) then (laws_FnTreesRenamed.j5 kj64 l0 l1) else (some false)) else (none)) else (none)) else (some false)) else (none)) else (none)) else (none)) else (some false))) else (some false)) else (some false)) else (some false))))) = some r := by rw [if_pos rfl] at H; exact H
                clear H
                have H := H1
                clear H1
                replace H := Option.bind_eq_some_iff.mp H
                obtain ⟨⟨t604, t605⟩, A770, H⟩ := H
                (try dsimp -simprocs only at H)
                have A77 := Aside0.mk A770
                clear A770
                replace H := Option.bind_eq_some_iff.mp H
                obtain ⟨⟨t608, t609⟩, A780, H⟩ := H
                (try dsimp -simprocs only at H)
                have A78 := Aside0.mk A780
                clear A780
                replace H := Option.bind_eq_some_iff.mp H
                obtain ⟨⟨t612, t613⟩, A790, H⟩ := H
                (try dsimp -simprocs only at H)
                have A79 := Aside0.mk A790
                clear A790
                by_cases c80 : t605 = true
                ·as_aux_lemma =>
                  subst c80
                  have H1 : (if t609 = true then (if t613 = true then ((laws_wSame.f kj64 t604 t591).bind fun t616 => (if t616 = true then (if 0 < (t608.length : Int) then (if 0 ≤ t592 then (if t592 < (t612.length : Int) then (if (rd t608 0) = (rd t612 t592) then (if t592 < (t608.length : Int) then (if 0 < (t612.length : Int) then (if (rd t608 t592) = (rd t612 0) then (laws_FnTreesRenamed.j5 kj64 l0 l1) else (some false)) else (none)) else (none)) else (some false)) else (none)) else (none)) else (none)) else (some false))) else (some false)) else (some false)) = some r := by rw [if_pos rfl] at H; exact H
                  clear H
                  have H := H1
                  clear H1
                  by_cases c81 : t609 = true
                  ·as_aux_lemma =>
                    subst c81
                    have H1 : (if t613 = true then ((laws_wSame.f kj64 t604 t591).bind fun t616 => (if t616 = true then (if 0 < (t608.length : Int) then (if 0 ≤ t592 then (if t592 < (t612.length : Int) then (if (rd t608 0) = (rd t612 t592) then (if t592 < (t608.length : Int) then (if 0 < (t612.length : Int) then (if (rd t608 t592) = (rd t612 0) then (laws_FnTreesRenamed.j5 kj64 l0 l1) else (some false)) else (none)) else (none)) else (some false)) else (none)) else (none)) else (none)) else (some false))) else (some false)) = some r := by rw [if_pos rfl] at H; exact H
                    clear H
                    have H := H1
                    clear H1
                    by_cases c82 : t613 = true
                    ·as_aux_lemma =>
                      subst c82
                      have H1 : ((laws_wSame.f kj64 t604 t591).bind fun t616 => (if t616 = true then (if 0 < (t608.length : Int) then (if 0 ≤ t592 then (if t592 < (t612.length : Int) then (if (rd t608 0) = (rd t612 t592) then (if t592 < (t608.length : Int) then (if 0 < (t612.length : Int) then (if (rd t608 t592) = (rd t612 0) then (laws_FnTreesRenamed.j5 kj64 l0 l1) else (some false)) else (none)) else (none)) else (some false)) else (none)) else (none)) else (none)) else (some false))) = some r := by rw [if_pos rfl] at H; exact H
                      clear H
                      have H := H1
                      clear H1
                      replace H := Option.bind_eq_some_iff.mp H
                      obtain ⟨t616, A830, H⟩ := H
                      (try dsimp -simprocs only at H)
                      have A83 := Aside0.mk A830
                      clear A830
                      by_cases c84 : t616 = true
                      ·as_aux_lemma =>
                        subst c84
                        have H1 : (if 0 < (t608.length : Int) then (if 0 ≤ t592 then (if t592 < (t612.length : Int) then (if (rd t608 0) = (rd t612 t592) then (if t592 < (t608.length : Int) then (if 0 < (t612.length : Int) then (if (rd t608 t592) = (rd t612 0) then (laws_FnTreesRenamed.j5 kj64 l0 l1) else (some false)) else (none)) else (none)) else (some false)) else (none)) else (none)) else (none)) = some r := by rw [if_pos rfl] at H; exact H
                        clear H
                        have H := H1
                        clear H1
                        by_cases c85 : 0 < (t608.length : Int)
                        ·as_aux_lemma =>
                          rw [if_pos c85] at H
                          have c85b0 := decide_eq_true c85
                          have c85b1 : decide (0 < t608.length) = true := decide_eq_true (by omega)
                          clear c85
                          (first | rw [c85b0] | (simp only [i64_w, i32_w]; rw [c85b0]) | rw [c85b1] | skip)
                          by_cases c86 : 0 ≤ t592
                          ·as_aux_lemma =>
                            rw [if_pos c86] at H
                            have c86b0 := decide_eq_true c86
                            clear c86
                            by_cases c87 : t592 < (t612.length : Int)
                            ·as_aux_lemma =>
                              rw [if_pos c87] at H
                              have c87b0 := decide_eq_true c87
                              clear c87
                              by_cases c88 : (rd t608 0) = (rd t612 t592)
                              ·as_aux_lemma =>
                                rw [if_pos c88] at H
                                have c88b0 : ((rd t608 0) == (rd t612 t592)) = true := beq_iff_eq.mpr c88
                                have c88b1 : ((rd t608 0) != (rd t612 t592)) = false := bne_eq_false_iff_eq.mpr c88
                                clear c88
                                by_cases c89 : t592 < (t608.length : Int)
                                ·as_aux_lemma =>
                                  rw [if_pos c89] at H
                                  have c89b0 := decide_eq_true c89
                                  clear c89
                                  by_cases c90 : 0 < (t612.length : Int)
                                  ·as_aux_lemma =>
                                    rw [if_pos c90] at H
                                    have c90b0 := decide_eq_true c90
                                    have c90b1 : decide (0 < t612.length) = true := decide_eq_true (by omega)
                                    clear c90
                                    by_cases c91 : (rd t608 t592) = (rd t612 0)
                                    ·as_aux_lemma =>
                                      rw [if_pos c91] at H
                                      have c91b0 : ((rd t608 t592) == (rd t612 0)) = true := beq_iff_eq.mpr c91
                                      have c91b1 : ((rd t608 t592) != (rd t612 0)) = false := bne_eq_false_iff_eq.mpr c91
                                      clear c91
                                      have H' := Aside0.mk H
                                      clear H
                                      obtain ⟨Ao92, co92, eo92⟩ := Kd.R_slice HO_23.out
                                      subst eo92
                                      try go_wp2_with (first | ((with_reducible refine gate_callee (f := 19) rfl ?_); refine gcW 169 Tryz.func19 #[.slice Ao92 t595.length co92, .int .i64 t592] rfl ?_; (with_reducible refine (impl_RerootTree.calls kj64 _ _ t595 t592 t604 true _ ?side1 ?side2 A77.out).mono ?_); (case side1 => exact cbW (Kd.R_reads' HO_23.out).2.2); (case side2 => exact (Kd.R_reads' HO_23.out).2.1); rintro e w93 ⟨v606, rfl, ho0, hb⟩; refine ⟨_, rfl, ?_⟩; have n0_ := Aside0.mk (Kd.R_elder' (rbW HO_21.out) (Kd.R_base ho0) hb); have n1_ := Aside0.mk (Kd.R_elder' (rbW HO_23.out) (Kd.R_base ho0) hb); have n2_ := Aside0.mk (Kd.R_lower (Kd.R_new' (Kd.R_new' ho0 (Kd.R_lt (rbW HO_21.out))) (Kd.R_lt (rbW HO_23.out))) (below_size (nbW HB.out))); have n3_ := Aside0.mk (below_step (nbW HB.out) hb); clear HO_21; clear HO_23; clear HB; have HO_21 := n0_; have HO_23 := n1_; have HO607 := n2_; have HB := n3_; clear n0_ n1_ n2_ n3_; (try clear hb); (try clear hb2); (try clear hk); (try clear hi); (try clear ho0)) | ((with_reducible refine gate_callee (f := 21) rfl ?_); refine gcW 174 Tryz.func21 #[.slice Ao67 t591.length co67] rfl ?_; (with_reducible refine (impl_DegreesOf.calls kj64 _ _ t591 t608 true _ ?side1 ?side2 A78.out).mono ?_); (case side1 => exact cbW (Kd.R_reads' HO_21.out).2.2); (case side2 => exact (Kd.R_reads' HO_21.out).2.1); rintro e w94 ⟨v610, rfl, ho0, hb⟩; refine ⟨_, rfl, ?_⟩; have n0_ := Aside0.mk (Kd.R_elder' (rbW HO_21.out) (Kd.R_base ho0) hb); have n1_ := Aside0.mk (Kd.R_elder' (rbW HO_23.out) (Kd.R_base ho0) hb); have n2_ := Aside0.mk (Kd.R_elder' (rbW HO607.out) (Kd.R_base ho0) hb); have n3_ := Aside0.mk (Kd.R_lower (Kd.R_new' (Kd.R_new' (Kd.R_new' ho0 (Kd.R_lt (rbW HO_21.out))) (Kd.R_lt (rbW HO_23.out))) (Kd.R_lt (rbW HO607.out))) (below_size (nbW HB.out))); have n4_ := Aside0.mk (below_step (nbW HB.out) hb); clear HO_21; clear HO_23; clear HO607; clear HB; have HO_21 := n0_; have HO_23 := n1_; have HO607 := n2_; have HO611 := n3_; have HB := n4_; clear n0_ n1_ n2_ n3_ n4_; (try clear hb); (try clear hb2); (try clear hk); (try clear hi); (try clear ho0)) | ((with_reducible refine gate_callee (f := 21) rfl ?_); refine gcW 179 Tryz.func21 #[.slice Ao92 t595.length co92] rfl ?_; (with_reducible refine (impl_DegreesOf.calls kj64 _ _ t595 t612 true _ ?side1 ?side2 A79.out).mono ?_); (case side1 => exact cbW (Kd.R_reads' HO_23.out).2.2); (case side2 => exact (Kd.R_reads' HO_23.out).2.1); rintro e w95 ⟨v614, rfl, ho0, hb⟩; refine ⟨_, rfl, ?_⟩; have n0_ := Aside0.mk (Kd.R_elder' (rbW HO_21.out) (Kd.R_base ho0) hb); have n1_ := Aside0.mk (Kd.R_elder' (rbW HO_23.out) (Kd.R_base ho0) hb); have n2_ := Aside0.mk (Kd.R_elder' (rbW HO607.out) (Kd.R_base ho0) hb); have n3_ := Aside0.mk (Kd.R_elder' (rbW HO611.out) (Kd.R_base ho0) hb); have n4_ := Aside0.mk (Kd.R_lower (Kd.R_new' (Kd.R_new' (Kd.R_new' (Kd.R_new' ho0 (Kd.R_lt (rbW HO_21.out))) (Kd.R_lt (rbW HO_23.out))) (Kd.R_lt (rbW HO607.out))) (Kd.R_lt (rbW HO611.out))) (below_size (nbW HB.out))); have n5_ := Aside0.mk (below_step (nbW HB.out) hb); clear HO_21; clear HO_23; clear HO607; clear HO611; clear HB; have HO_21 := n0_; have HO_23 := n1_; have HO607 := n2_; have HO611 := n3_; have HO615 := n4_; have HB := n5_; clear n0_ n1_ n2_ n3_ n4_ n5_; (try clear hb); (try clear hb2); (try clear hk); (try clear hi); (try clear ho0)))
                                      have n0_ := Aside0.mk (Kd.R_drew HO_21.out)
                                      have n1_ := Aside0.mk (Kd.R_drew HO_23.out)
                                      have n2_ := Aside0.mk (Kd.R_drew HO607.out)
                                      have n3_ := Aside0.mk (Kd.R_drew HO611.out)
                                      have n4_ := Aside0.mk (Kd.R_drew HO615.out)
                                      have n5_ := Aside0.mk (below_drew1 HB.out)
                                      clear HO_21
                                      clear HO_23
                                      clear HO607
                                      clear HO611
                                      clear HO615
                                      clear HB
                                      have HO_21 := n0_
                                      have HO_23 := n1_
                                      have HO607 := n2_
                                      have HO611 := n3_
                                      have HO615 := n4_
                                      have HB := n5_
                                      clear n0_ n1_ n2_ n3_ n4_ n5_
                                      obtain ⟨Ao97, co97, eo97⟩ := Kd.R_slice HO607.out
                                      (first | subst eo97 | (injection eo97 with f1_ f2_ f3_; have f4_ := f1_.symm; have f5_ := f3_.symm; clear f1_ f2_ f3_; subst f4_; subst f5_))
                                      obtain ⟨Ao98, co98, eo98⟩ := Kd.R_slice HO611.out
                                      (first | subst eo98 | (injection eo98 with f1_ f2_ f3_; have f4_ := f1_.symm; have f5_ := f3_.symm; clear f1_ f2_ f3_; subst f4_; subst f5_))
                                      have p617 : 0 ≤ (0 : Int) := (by omega)
                                      have q617 : 0 < (t608.length : Int) := of_decide_eq_true (by first | (with_reducible assumption) | assumption)
                                      obtain ⟨ad617, e617, hx617_0⟩ := Kd.at_int (Kd.R_reads' HO611.out).2.2 0 p617 q617
                                      cases e617
                                      have qi617 : (0 < t608.length) = True := eq_true (by omega)
                                      (try rw [show ((0 : Int)).toNat = 0 from rfl] at hx617_0)
                                      (try rw [Addr.add_zero'] at hx617_0)
                                      replace p617 := eq_true p617
                                      replace q617 := eq_true q617
                                      obtain ⟨Ao99, co99, eo99⟩ := Kd.R_slice HO615.out
                                      (first | subst eo99 | (injection eo99 with f1_ f2_ f3_; have f4_ := f1_.symm; have f5_ := f3_.symm; clear f1_ f2_ f3_; subst f4_; subst f5_))
                                      have p618 : 0 ≤ (t592 : Int) := of_decide_eq_true (by first | (with_reducible assumption) | assumption)
                                      have q618 : t592 < (t612.length : Int) := of_decide_eq_true (by first | (with_reducible assumption) | assumption)
                                      obtain ⟨ad618, e618, hx618_0⟩ := Kd.at_int (Kd.R_reads' HO615.out).2.2 t592 p618 q618
                                      cases e618
                                      replace p618 := eq_true p618
                                      replace q618 := eq_true q618
                                      have p619 : 0 ≤ (t592 : Int) := of_decide_eq_true (by first | (with_reducible assumption) | assumption)
                                      have q619 : t592 < (t608.length : Int) := of_decide_eq_true (by first | (with_reducible assumption) | assumption)
                                      obtain ⟨ad619, e619, hx619_0⟩ := Kd.at_int (Kd.R_reads' HO611.out).2.2 t592 p619 q619
                                      obtain rfl : ad617 = ad619 := (by injection e619)
                                      replace p619 := eq_true p619
                                      replace q619 := eq_true q619
                                      have p620 : 0 ≤ (0 : Int) := (by omega)
                                      have q620 : 0 < (t612.length : Int) := of_decide_eq_true (by first | (with_reducible assumption) | assumption)
                                      obtain ⟨ad620, e620, hx620_0⟩ := Kd.at_int (Kd.R_reads' HO615.out).2.2 0 p620 q620
                                      obtain rfl : ad618 = ad620 := (by injection e620)
                                      have qi620 : (0 < t612.length) = True := eq_true (by omega)
                                      (try rw [show ((0 : Int)).toNat = 0 from rfl] at hx620_0)
                                      (try rw [Addr.add_zero'] at hx620_0)
                                      replace p620 := eq_true p620
                                      replace q620 := eq_true q620
                                      refine start_ (n := 36) (S := fun w' => w'.cell? ad617 = some (.int .i64 (rd t608 0)) ∧ w'.cell? (ad618.add (t592).toNat) = some (.int .i64 (rd t612 t592)) ∧ w'.cell? (ad617.add (t592).toNat) = some (.int .i64 (rd t608 t592)) ∧ w'.cell? ad618 = some (.int .i64 (rd t612 0))) (ds := []) #[false, false, false, false, false, false, false, false, false, false, false, false, false, false, false, false, false, false, false, false, false, false, false, false, false, false, false, false, false, false, false, false, false, false, false, false] (by kernel_rfl) rfl rfl ⟨hx617_0, hx618_0, hx619_0, hx620_0⟩ (fun hHeld => ?_); refine with_tabW laws_FnTreesRenamed.tab30 laws_FnTreesRenamed.bits30 (fun HT_ HW_ => ?_)
                                      generalize w95.drew = w96 at HO_21 HO_23 HO607 HO611 HO615 HB hx617_0 hx618_0 hx619_0 hx620_0 hHeld ⊢
                                      refine puW 0 182 HT_.out ?_
                                      refine puW 1 183 HT_.out ?_
                                      refine puW 2 184 HT_.out ?_
                                      refine puW 3 185 HT_.out ?_
                                      refine puW 4 186 HT_.out ?_
                                      refine puW 5 187 HT_.out ?_
                                      refine puW 6 188 HT_.out ?_
                                      refine puW 7 189 HT_.out ?_
                                      refine puW 8 190 HT_.out ?_
                                      refine puW 9 191 HT_.out ?_
                                      refine puW 10 192 HT_.out ?_
                                      refine puW 11 193 HT_.out ?_
                                      refine puW 12 194 HT_.out ?_
                                      refine one_ (i := 13) (N := some 195) #[true, true, true, true, true, true, true, true, true, true, true, true, true, true, false, false, false, false, false, false, false, false, false, false, false, false, false, false, false, false, false, false, false, false, false, false] rfl rfl (one_of HT_.out (by kernel_rfl)) (by decide) (fun K hK => ?_)
                                      refine goes_ Tryz.func15 (by kernel_rfl) rfl #[.slice Ao97 t604.length co97, .slice Ao67 t591.length co67] (by rfl) rfl rfl (by (try simp only [List.map_toArray, List.map_cons, List.map_nil]); first | done | rfl | (simp only [List.length_drop, List.length_take]; rfl)) ?_
                                      with_reducible refine (laws_wSame.calls kj64 _ _ t604 _ _ t591 true _ ?side1 ?side2 ?side3 ?side4 A83.out).mono ?_
                                      (case side1 => exact cbW (Kd.R_reads' HO607.out).2.2)
                                      (case side2 => exact (Kd.R_reads' HO607.out).2.1)
                                      (case side3 => exact cbW (Kd.R_reads' HO_21.out).2.2)
                                      (case side4 => exact (Kd.R_reads' HO_21.out).2.1)
                                      rintro e w' ⟨rfl, ⟨nd, rfl⟩⟩
                                      refine ⟨_, rfl, ?_⟩
                                      refine hK.out _ _ ⟨hHeld.1, hHeld.2.1, hHeld.2.2.1, hHeld.2.2.2⟩ (fun hHeld => ?_)
                                      clear hK K
                                      refine noW ?_
                                      refine puW 14 196 HT_.out ?_
                                      refine puW 15 197 HT_.out ?_
                                      refine puW 16 198 HT_.out ?_
                                      refine puW 17 199 HT_.out ?_
                                      refine puW 18 200 HT_.out ?_
                                      refine puW 20 202 HT_.out ?_
                                      refine puW 21 203 HT_.out ?_
                                      refine puW 22 204 HT_.out ?_
                                      refine taW 19 201 HT_.out HW_.out hHeld rfl (by rintro w' ⟨s0, s1, s2, s3⟩; go_simp; with_reducible rfl) ?_
                                      refine taW 23 205 HT_.out HW_.out hHeld rfl (by rintro w' ⟨s0, s1, s2, s3⟩; go_simp; with_reducible rfl) ?_
                                      refine puW 24 206 HT_.out ?_
                                      refine puW 25 207 HT_.out ?_
                                      refine puW 26 208 HT_.out ?_
                                      refine puW 27 209 HT_.out ?_
                                      refine puW 28 210 HT_.out ?_
                                      refine puW 29 211 HT_.out ?_
                                      refine puW 31 213 HT_.out ?_
                                      refine puW 32 214 HT_.out ?_
                                      refine taW 30 212 HT_.out HW_.out hHeld rfl (by rintro w' ⟨s0, s1, s2, s3⟩; go_simp; with_reducible rfl) ?_
                                      refine taW 33 215 HT_.out HW_.out hHeld rfl (by rintro w' ⟨s0, s1, s2, s3⟩; go_simp; with_reducible rfl) ?_
                                      refine puW 34 216 HT_.out ?_
                                      refine puW 35 217 HT_.out ?_
                                      refine done_ (done_of HT_.out (by kernel_rfl)) ?_
                                      try go_wp2
                                      go_meet
                                      case rel => exact ⟨_, H', ⟨by have := HJ7.out; have := HJ18.out; have := HJ64.out; first | omega | exact Nat.le_refl _⟩, ⟨nbW HB.out⟩⟩
                                    ·as_aux_lemma =>
                                      rw [if_neg c91] at H
                                      have c91b0 : ((rd t608 t592) == (rd t612 0)) = false := beq_eq_false_iff_ne.mpr c91
                                      have c91b1 : ((rd t608 t592) != (rd t612 0)) = true := bne_iff_ne.mpr c91
                                      obtain rfl := Option.some.inj H
                                      obtain ⟨Ao100, co100, eo100⟩ := Kd.R_slice HO_23.out
                                      subst eo100
                                      try go_wp2_with (first | ((with_reducible refine gate_callee (f := 19) rfl ?_); refine gcW 169 Tryz.func19 #[.slice Ao100 t595.length co100, .int .i64 t592] rfl ?_; (with_reducible refine (impl_RerootTree.calls kj64 _ _ t595 t592 t604 true _ ?side1 ?side2 A77.out).mono ?_); (case side1 => exact cbW (Kd.R_reads' HO_23.out).2.2); (case side2 => exact (Kd.R_reads' HO_23.out).2.1); rintro e w101 ⟨v606, rfl, ho0, hb⟩; refine ⟨_, rfl, ?_⟩; have n0_ := Aside0.mk (Kd.R_elder' (rbW HO_21.out) (Kd.R_base ho0) hb); have n1_ := Aside0.mk (Kd.R_elder' (rbW HO_23.out) (Kd.R_base ho0) hb); have n2_ := Aside0.mk (Kd.R_lower (Kd.R_new' (Kd.R_new' ho0 (Kd.R_lt (rbW HO_21.out))) (Kd.R_lt (rbW HO_23.out))) (below_size (nbW HB.out))); have n3_ := Aside0.mk (below_step (nbW HB.out) hb); clear HO_21; clear HO_23; clear HB; have HO_21 := n0_; have HO_23 := n1_; have HO607 := n2_; have HB := n3_; clear n0_ n1_ n2_ n3_; (try clear hb); (try clear hb2); (try clear hk); (try clear hi); (try clear ho0)) | ((with_reducible refine gate_callee (f := 21) rfl ?_); refine gcW 174 Tryz.func21 #[.slice Ao67 t591.length co67] rfl ?_; (with_reducible refine (impl_DegreesOf.calls kj64 _ _ t591 t608 true _ ?side1 ?side2 A78.out).mono ?_); (case side1 => exact cbW (Kd.R_reads' HO_21.out).2.2); (case side2 => exact (Kd.R_reads' HO_21.out).2.1); rintro e w102 ⟨v610, rfl, ho0, hb⟩; refine ⟨_, rfl, ?_⟩; have n0_ := Aside0.mk (Kd.R_elder' (rbW HO_21.out) (Kd.R_base ho0) hb); have n1_ := Aside0.mk (Kd.R_elder' (rbW HO_23.out) (Kd.R_base ho0) hb); have n2_ := Aside0.mk (Kd.R_elder' (rbW HO607.out) (Kd.R_base ho0) hb); have n3_ := Aside0.mk (Kd.R_lower (Kd.R_new' (Kd.R_new' (Kd.R_new' ho0 (Kd.R_lt (rbW HO_21.out))) (Kd.R_lt (rbW HO_23.out))) (Kd.R_lt (rbW HO607.out))) (below_size (nbW HB.out))); have n4_ := Aside0.mk (below_step (nbW HB.out) hb); clear HO_21; clear HO_23; clear HO607; clear HB; have HO_21 := n0_; have HO_23 := n1_; have HO607 := n2_; have HO611 := n3_; have HB := n4_; clear n0_ n1_ n2_ n3_ n4_; (try clear hb); (try clear hb2); (try clear hk); (try clear hi); (try clear ho0)) | ((with_reducible refine gate_callee (f := 21) rfl ?_); refine gcW 179 Tryz.func21 #[.slice Ao100 t595.length co100] rfl ?_; (with_reducible refine (impl_DegreesOf.calls kj64 _ _ t595 t612 true _ ?side1 ?side2 A79.out).mono ?_); (case side1 => exact cbW (Kd.R_reads' HO_23.out).2.2); (case side2 => exact (Kd.R_reads' HO_23.out).2.1); rintro e w103 ⟨v614, rfl, ho0, hb⟩; refine ⟨_, rfl, ?_⟩; have n0_ := Aside0.mk (Kd.R_elder' (rbW HO_21.out) (Kd.R_base ho0) hb); have n1_ := Aside0.mk (Kd.R_elder' (rbW HO_23.out) (Kd.R_base ho0) hb); have n2_ := Aside0.mk (Kd.R_elder' (rbW HO607.out) (Kd.R_base ho0) hb); have n3_ := Aside0.mk (Kd.R_elder' (rbW HO611.out) (Kd.R_base ho0) hb); have n4_ := Aside0.mk (Kd.R_lower (Kd.R_new' (Kd.R_new' (Kd.R_new' (Kd.R_new' ho0 (Kd.R_lt (rbW HO_21.out))) (Kd.R_lt (rbW HO_23.out))) (Kd.R_lt (rbW HO607.out))) (Kd.R_lt (rbW HO611.out))) (below_size (nbW HB.out))); have n5_ := Aside0.mk (below_step (nbW HB.out) hb); clear HO_21; clear HO_23; clear HO607; clear HO611; clear HB; have HO_21 := n0_; have HO_23 := n1_; have HO607 := n2_; have HO611 := n3_; have HO615 := n4_; have HB := n5_; clear n0_ n1_ n2_ n3_ n4_ n5_; (try clear hb); (try clear hb2); (try clear hk); (try clear hi); (try clear ho0)))
                                      have n0_ := Aside0.mk (Kd.R_drew HO_21.out)
                                      have n1_ := Aside0.mk (Kd.R_drew HO_23.out)
                                      have n2_ := Aside0.mk (Kd.R_drew HO607.out)
                                      have n3_ := Aside0.mk (Kd.R_drew HO611.out)
                                      have n4_ := Aside0.mk (Kd.R_drew HO615.out)
                                      have n5_ := Aside0.mk (below_drew1 HB.out)
                                      clear HO_21
                                      clear HO_23
                                      clear HO607
                                      clear HO611
                                      clear HO615
                                      clear HB
                                      have HO_21 := n0_
                                      have HO_23 := n1_
                                      have HO607 := n2_
                                      have HO611 := n3_
                                      have HO615 := n4_
                                      have HB := n5_
                                      clear n0_ n1_ n2_ n3_ n4_ n5_
                                      obtain ⟨Ao105, co105, eo105⟩ := Kd.R_slice HO607.out
                                      (first | subst eo105 | (injection eo105 with f1_ f2_ f3_; have f4_ := f1_.symm; have f5_ := f3_.symm; clear f1_ f2_ f3_; subst f4_; subst f5_))
                                      obtain ⟨Ao106, co106, eo106⟩ := Kd.R_slice HO611.out
                                      (first | subst eo106 | (injection eo106 with f1_ f2_ f3_; have f4_ := f1_.symm; have f5_ := f3_.symm; clear f1_ f2_ f3_; subst f4_; subst f5_))
                                      have p617 : 0 ≤ (0 : Int) := (by omega)
                                      have q617 : 0 < (t608.length : Int) := of_decide_eq_true (by first | (with_reducible assumption) | assumption)
                                      obtain ⟨ad617, e617, hx617_0⟩ := Kd.at_int (Kd.R_reads' HO611.out).2.2 0 p617 q617
                                      cases e617
                                      have qi617 : (0 < t608.length) = True := eq_true (by omega)
                                      (try rw [show ((0 : Int)).toNat = 0 from rfl] at hx617_0)
                                      (try rw [Addr.add_zero'] at hx617_0)
                                      replace p617 := eq_true p617
                                      replace q617 := eq_true q617
                                      obtain ⟨Ao107, co107, eo107⟩ := Kd.R_slice HO615.out
                                      (first | subst eo107 | (injection eo107 with f1_ f2_ f3_; have f4_ := f1_.symm; have f5_ := f3_.symm; clear f1_ f2_ f3_; subst f4_; subst f5_))
                                      have p618 : 0 ≤ (t592 : Int) := of_decide_eq_true (by first | (with_reducible assumption) | assumption)
                                      have q618 : t592 < (t612.length : Int) := of_decide_eq_true (by first | (with_reducible assumption) | assumption)
                                      obtain ⟨ad618, e618, hx618_0⟩ := Kd.at_int (Kd.R_reads' HO615.out).2.2 t592 p618 q618
                                      cases e618
                                      replace p618 := eq_true p618
                                      replace q618 := eq_true q618
                                      have p619 : 0 ≤ (t592 : Int) := of_decide_eq_true (by first | (with_reducible assumption) | assumption)
                                      have q619 : t592 < (t608.length : Int) := of_decide_eq_true (by first | (with_reducible assumption) | assumption)
                                      obtain ⟨ad619, e619, hx619_0⟩ := Kd.at_int (Kd.R_reads' HO611.out).2.2 t592 p619 q619
                                      obtain rfl : ad617 = ad619 := (by injection e619)
                                      replace p619 := eq_true p619
                                      replace q619 := eq_true q619
                                      have p620 : 0 ≤ (0 : Int) := (by omega)
                                      have q620 : 0 < (t612.length : Int) := of_decide_eq_true (by first | (with_reducible assumption) | assumption)
                                      obtain ⟨ad620, e620, hx620_0⟩ := Kd.at_int (Kd.R_reads' HO615.out).2.2 0 p620 q620
                                      obtain rfl : ad618 = ad620 := (by injection e620)
                                      have qi620 : (0 < t612.length) = True := eq_true (by omega)
                                      (try rw [show ((0 : Int)).toNat = 0 from rfl] at hx620_0)
                                      (try rw [Addr.add_zero'] at hx620_0)
                                      replace p620 := eq_true p620
                                      replace q620 := eq_true q620
                                      refine start_ (n := 36) (S := fun w' => w'.cell? ad617 = some (.int .i64 (rd t608 0)) ∧ w'.cell? (ad618.add (t592).toNat) = some (.int .i64 (rd t612 t592)) ∧ w'.cell? (ad617.add (t592).toNat) = some (.int .i64 (rd t608 t592)) ∧ w'.cell? ad618 = some (.int .i64 (rd t612 0))) (ds := []) #[false, false, false, false, false, false, false, false, false, false, false, false, false, false, false, false, false, false, false, false, false, false, false, false, false, false, false, false, false, false, false, false, false, false, false, false] (by kernel_rfl) rfl rfl ⟨hx617_0, hx618_0, hx619_0, hx620_0⟩ (fun hHeld => ?_); refine with_tabW laws_FnTreesRenamed.tab30 laws_FnTreesRenamed.bits30 (fun HT_ HW_ => ?_)
                                      generalize w103.drew = w104 at HO_21 HO_23 HO607 HO611 HO615 HB hx617_0 hx618_0 hx619_0 hx620_0 hHeld ⊢
                                      refine puW 0 182 HT_.out ?_
                                      refine puW 1 183 HT_.out ?_
                                      refine puW 2 184 HT_.out ?_
                                      refine puW 3 185 HT_.out ?_
                                      refine puW 4 186 HT_.out ?_
                                      refine puW 5 187 HT_.out ?_
                                      refine puW 6 188 HT_.out ?_
                                      refine puW 7 189 HT_.out ?_
                                      refine puW 8 190 HT_.out ?_
                                      refine puW 9 191 HT_.out ?_
                                      refine puW 10 192 HT_.out ?_
                                      refine puW 11 193 HT_.out ?_
                                      refine puW 12 194 HT_.out ?_
                                      refine one_ (i := 13) (N := some 195) #[true, true, true, true, true, true, true, true, true, true, true, true, true, true, false, false, false, false, false, false, false, false, false, false, false, false, false, false, false, false, false, false, false, false, false, false] rfl rfl (one_of HT_.out (by kernel_rfl)) (by decide) (fun K hK => ?_)
                                      refine goes_ Tryz.func15 (by kernel_rfl) rfl #[.slice Ao105 t604.length co105, .slice Ao67 t591.length co67] (by rfl) rfl rfl (by (try simp only [List.map_toArray, List.map_cons, List.map_nil]); first | done | rfl | (simp only [List.length_drop, List.length_take]; rfl)) ?_
                                      with_reducible refine (laws_wSame.calls kj64 _ _ t604 _ _ t591 true _ ?side1 ?side2 ?side3 ?side4 A83.out).mono ?_
                                      (case side1 => exact cbW (Kd.R_reads' HO607.out).2.2)
                                      (case side2 => exact (Kd.R_reads' HO607.out).2.1)
                                      (case side3 => exact cbW (Kd.R_reads' HO_21.out).2.2)
                                      (case side4 => exact (Kd.R_reads' HO_21.out).2.1)
                                      rintro e w' ⟨rfl, ⟨nd, rfl⟩⟩
                                      refine ⟨_, rfl, ?_⟩
                                      refine hK.out _ _ ⟨hHeld.1, hHeld.2.1, hHeld.2.2.1, hHeld.2.2.2⟩ (fun hHeld => ?_)
                                      clear hK K
                                      refine noW ?_
                                      refine puW 14 196 HT_.out ?_
                                      refine puW 15 197 HT_.out ?_
                                      refine puW 16 198 HT_.out ?_
                                      refine puW 17 199 HT_.out ?_
                                      refine puW 18 200 HT_.out ?_
                                      refine puW 20 202 HT_.out ?_
                                      refine puW 21 203 HT_.out ?_
                                      refine puW 22 204 HT_.out ?_
                                      refine taW 19 201 HT_.out HW_.out hHeld rfl (by rintro w' ⟨s0, s1, s2, s3⟩; go_simp; with_reducible rfl) ?_
                                      refine taW 23 205 HT_.out HW_.out hHeld rfl (by rintro w' ⟨s0, s1, s2, s3⟩; go_simp; with_reducible rfl) ?_
                                      refine puW 24 206 HT_.out ?_
                                      refine puW 25 207 HT_.out ?_
                                      refine puW 26 208 HT_.out ?_
                                      refine puW 27 209 HT_.out ?_
                                      refine puW 28 210 HT_.out ?_
                                      refine puW 29 211 HT_.out ?_
                                      refine puW 31 213 HT_.out ?_
                                      refine puW 32 214 HT_.out ?_
                                      refine taW 30 212 HT_.out HW_.out hHeld rfl (by rintro w' ⟨s0, s1, s2, s3⟩; go_simp; with_reducible rfl) ?_
                                      refine taW 33 215 HT_.out HW_.out hHeld rfl (by rintro w' ⟨s0, s1, s2, s3⟩; go_simp; with_reducible rfl) ?_
                                      refine puW 34 216 HT_.out ?_
                                      refine puW 35 217 HT_.out ?_
                                      refine done_ (done_of HT_.out (by kernel_rfl)) ?_
                                      try go_wp2
                                      go_ret
                                      exact ⟨by first | rfl | (simp [errW_none, errW_some] <;> rfl) | (simp [*, errW_none, errW_some] <;> rfl), nbW HB.out⟩
                                  ·rw [if_neg c90] at H
                                   exact absurd H (by simp)
                                ·rw [if_neg c89] at H
                                 exact absurd H (by simp)
                              ·as_aux_lemma =>
                                rw [if_neg c88] at H
                                have c88b0 : ((rd t608 0) == (rd t612 t592)) = false := beq_eq_false_iff_ne.mpr c88
                                have c88b1 : ((rd t608 0) != (rd t612 t592)) = true := bne_iff_ne.mpr c88
                                obtain rfl := Option.some.inj H
                                obtain ⟨Ao108, co108, eo108⟩ := Kd.R_slice HO_23.out
                                subst eo108
                                try go_wp2_with (first | ((with_reducible refine gate_callee (f := 19) rfl ?_); refine gcW 169 Tryz.func19 #[.slice Ao108 t595.length co108, .int .i64 t592] rfl ?_; (with_reducible refine (impl_RerootTree.calls kj64 _ _ t595 t592 t604 true _ ?side1 ?side2 A77.out).mono ?_); (case side1 => exact cbW (Kd.R_reads' HO_23.out).2.2); (case side2 => exact (Kd.R_reads' HO_23.out).2.1); rintro e w109 ⟨v606, rfl, ho0, hb⟩; refine ⟨_, rfl, ?_⟩; have n0_ := Aside0.mk (Kd.R_elder' (rbW HO_21.out) (Kd.R_base ho0) hb); have n1_ := Aside0.mk (Kd.R_elder' (rbW HO_23.out) (Kd.R_base ho0) hb); have n2_ := Aside0.mk (Kd.R_lower (Kd.R_new' (Kd.R_new' ho0 (Kd.R_lt (rbW HO_21.out))) (Kd.R_lt (rbW HO_23.out))) (below_size (nbW HB.out))); have n3_ := Aside0.mk (below_step (nbW HB.out) hb); clear HO_21; clear HO_23; clear HB; have HO_21 := n0_; have HO_23 := n1_; have HO607 := n2_; have HB := n3_; clear n0_ n1_ n2_ n3_; (try clear hb); (try clear hb2); (try clear hk); (try clear hi); (try clear ho0)) | ((with_reducible refine gate_callee (f := 21) rfl ?_); refine gcW 174 Tryz.func21 #[.slice Ao67 t591.length co67] rfl ?_; (with_reducible refine (impl_DegreesOf.calls kj64 _ _ t591 t608 true _ ?side1 ?side2 A78.out).mono ?_); (case side1 => exact cbW (Kd.R_reads' HO_21.out).2.2); (case side2 => exact (Kd.R_reads' HO_21.out).2.1); rintro e w110 ⟨v610, rfl, ho0, hb⟩; refine ⟨_, rfl, ?_⟩; have n0_ := Aside0.mk (Kd.R_elder' (rbW HO_21.out) (Kd.R_base ho0) hb); have n1_ := Aside0.mk (Kd.R_elder' (rbW HO_23.out) (Kd.R_base ho0) hb); have n2_ := Aside0.mk (Kd.R_elder' (rbW HO607.out) (Kd.R_base ho0) hb); have n3_ := Aside0.mk (Kd.R_lower (Kd.R_new' (Kd.R_new' (Kd.R_new' ho0 (Kd.R_lt (rbW HO_21.out))) (Kd.R_lt (rbW HO_23.out))) (Kd.R_lt (rbW HO607.out))) (below_size (nbW HB.out))); have n4_ := Aside0.mk (below_step (nbW HB.out) hb); clear HO_21; clear HO_23; clear HO607; clear HB; have HO_21 := n0_; have HO_23 := n1_; have HO607 := n2_; have HO611 := n3_; have HB := n4_; clear n0_ n1_ n2_ n3_ n4_; (try clear hb); (try clear hb2); (try clear hk); (try clear hi); (try clear ho0)) | ((with_reducible refine gate_callee (f := 21) rfl ?_); refine gcW 179 Tryz.func21 #[.slice Ao108 t595.length co108] rfl ?_; (with_reducible refine (impl_DegreesOf.calls kj64 _ _ t595 t612 true _ ?side1 ?side2 A79.out).mono ?_); (case side1 => exact cbW (Kd.R_reads' HO_23.out).2.2); (case side2 => exact (Kd.R_reads' HO_23.out).2.1); rintro e w111 ⟨v614, rfl, ho0, hb⟩; refine ⟨_, rfl, ?_⟩; have n0_ := Aside0.mk (Kd.R_elder' (rbW HO_21.out) (Kd.R_base ho0) hb); have n1_ := Aside0.mk (Kd.R_elder' (rbW HO_23.out) (Kd.R_base ho0) hb); have n2_ := Aside0.mk (Kd.R_elder' (rbW HO607.out) (Kd.R_base ho0) hb); have n3_ := Aside0.mk (Kd.R_elder' (rbW HO611.out) (Kd.R_base ho0) hb); have n4_ := Aside0.mk (Kd.R_lower (Kd.R_new' (Kd.R_new' (Kd.R_new' (Kd.R_new' ho0 (Kd.R_lt (rbW HO_21.out))) (Kd.R_lt (rbW HO_23.out))) (Kd.R_lt (rbW HO607.out))) (Kd.R_lt (rbW HO611.out))) (below_size (nbW HB.out))); have n5_ := Aside0.mk (below_step (nbW HB.out) hb); clear HO_21; clear HO_23; clear HO607; clear HO611; clear HB; have HO_21 := n0_; have HO_23 := n1_; have HO607 := n2_; have HO611 := n3_; have HO615 := n4_; have HB := n5_; clear n0_ n1_ n2_ n3_ n4_ n5_; (try clear hb); (try clear hb2); (try clear hk); (try clear hi); (try clear ho0)))
                                have n0_ := Aside0.mk (Kd.R_drew HO_21.out)
                                have n1_ := Aside0.mk (Kd.R_drew HO_23.out)
                                have n2_ := Aside0.mk (Kd.R_drew HO607.out)
                                have n3_ := Aside0.mk (Kd.R_drew HO611.out)
                                have n4_ := Aside0.mk (Kd.R_drew HO615.out)
                                have n5_ := Aside0.mk (below_drew1 HB.out)
                                clear HO_21
                                clear HO_23
                                clear HO607
                                clear HO611
                                clear HO615
                                clear HB
                                have HO_21 := n0_
                                have HO_23 := n1_
                                have HO607 := n2_
                                have HO611 := n3_
                                have HO615 := n4_
                                have HB := n5_
                                clear n0_ n1_ n2_ n3_ n4_ n5_
                                obtain ⟨Ao113, co113, eo113⟩ := Kd.R_slice HO607.out
                                (first | subst eo113 | (injection eo113 with f1_ f2_ f3_; have f4_ := f1_.symm; have f5_ := f3_.symm; clear f1_ f2_ f3_; subst f4_; subst f5_))
                                obtain ⟨Ao114, co114, eo114⟩ := Kd.R_slice HO611.out
                                (first | subst eo114 | (injection eo114 with f1_ f2_ f3_; have f4_ := f1_.symm; have f5_ := f3_.symm; clear f1_ f2_ f3_; subst f4_; subst f5_))
                                have p617 : 0 ≤ (0 : Int) := (by omega)
                                have q617 : 0 < (t608.length : Int) := of_decide_eq_true (by first | (with_reducible assumption) | assumption)
                                obtain ⟨ad617, e617, hx617_0⟩ := Kd.at_int (Kd.R_reads' HO611.out).2.2 0 p617 q617
                                cases e617
                                have qi617 : (0 < t608.length) = True := eq_true (by omega)
                                (try rw [show ((0 : Int)).toNat = 0 from rfl] at hx617_0)
                                (try rw [Addr.add_zero'] at hx617_0)
                                replace p617 := eq_true p617
                                replace q617 := eq_true q617
                                obtain ⟨Ao115, co115, eo115⟩ := Kd.R_slice HO615.out
                                (first | subst eo115 | (injection eo115 with f1_ f2_ f3_; have f4_ := f1_.symm; have f5_ := f3_.symm; clear f1_ f2_ f3_; subst f4_; subst f5_))
                                have p618 : 0 ≤ (t592 : Int) := of_decide_eq_true (by first | (with_reducible assumption) | assumption)
                                have q618 : t592 < (t612.length : Int) := of_decide_eq_true (by first | (with_reducible assumption) | assumption)
                                obtain ⟨ad618, e618, hx618_0⟩ := Kd.at_int (Kd.R_reads' HO615.out).2.2 t592 p618 q618
                                cases e618
                                replace p618 := eq_true p618
                                replace q618 := eq_true q618
                                refine start_ (n := 36) (S := fun w' => w'.cell? ad617 = some (.int .i64 (rd t608 0)) ∧ w'.cell? (ad618.add (t592).toNat) = some (.int .i64 (rd t612 t592))) (ds := []) #[false, false, false, false, false, false, false, false, false, false, false, false, false, false, false, false, false, false, false, false, false, false, false, false, false, false, false, false, false, false, false, false, false, false, false, false] (by kernel_rfl) rfl rfl ⟨hx617_0, hx618_0⟩ (fun hHeld => ?_); refine with_tabW laws_FnTreesRenamed.tab30 laws_FnTreesRenamed.bits30 (fun HT_ HW_ => ?_)
                                generalize w111.drew = w112 at HO_21 HO_23 HO607 HO611 HO615 HB hx617_0 hx618_0 hHeld ⊢
                                refine puW 0 182 HT_.out ?_
                                refine puW 1 183 HT_.out ?_
                                refine puW 2 184 HT_.out ?_
                                refine puW 3 185 HT_.out ?_
                                refine puW 4 186 HT_.out ?_
                                refine puW 5 187 HT_.out ?_
                                refine puW 6 188 HT_.out ?_
                                refine puW 7 189 HT_.out ?_
                                refine puW 8 190 HT_.out ?_
                                refine puW 9 191 HT_.out ?_
                                refine puW 10 192 HT_.out ?_
                                refine puW 11 193 HT_.out ?_
                                refine puW 12 194 HT_.out ?_
                                refine one_ (i := 13) (N := some 195) #[true, true, true, true, true, true, true, true, true, true, true, true, true, true, false, false, false, false, false, false, false, false, false, false, false, false, false, false, false, false, false, false, false, false, false, false] rfl rfl (one_of HT_.out (by kernel_rfl)) (by decide) (fun K hK => ?_)
                                refine goes_ Tryz.func15 (by kernel_rfl) rfl #[.slice Ao113 t604.length co113, .slice Ao67 t591.length co67] (by rfl) rfl rfl (by (try simp only [List.map_toArray, List.map_cons, List.map_nil]); first | done | rfl | (simp only [List.length_drop, List.length_take]; rfl)) ?_
                                with_reducible refine (laws_wSame.calls kj64 _ _ t604 _ _ t591 true _ ?side1 ?side2 ?side3 ?side4 A83.out).mono ?_
                                (case side1 => exact cbW (Kd.R_reads' HO607.out).2.2)
                                (case side2 => exact (Kd.R_reads' HO607.out).2.1)
                                (case side3 => exact cbW (Kd.R_reads' HO_21.out).2.2)
                                (case side4 => exact (Kd.R_reads' HO_21.out).2.1)
                                rintro e w' ⟨rfl, ⟨nd, rfl⟩⟩
                                refine ⟨_, rfl, ?_⟩
                                refine hK.out _ _ ⟨hHeld.1, hHeld.2⟩ (fun hHeld => ?_)
                                clear hK K
                                refine noW ?_
                                refine puW 14 196 HT_.out ?_
                                refine puW 15 197 HT_.out ?_
                                refine puW 16 198 HT_.out ?_
                                refine puW 17 199 HT_.out ?_
                                refine puW 18 200 HT_.out ?_
                                refine puW 20 202 HT_.out ?_
                                refine puW 21 203 HT_.out ?_
                                refine puW 22 204 HT_.out ?_
                                refine taW 19 201 HT_.out HW_.out hHeld rfl (by rintro w' ⟨s0, s1⟩; go_simp; with_reducible rfl) ?_
                                refine taW 23 205 HT_.out HW_.out hHeld rfl (by rintro w' ⟨s0, s1⟩; go_simp; with_reducible rfl) ?_
                                refine puW 24 206 HT_.out ?_
                                refine puW 25 207 HT_.out ?_
                                refine puW 26 208 HT_.out ?_
                                refine ofW 27 209 HT_.out ?_
                                refine ofW 28 210 HT_.out ?_
                                refine ofW 29 211 HT_.out ?_
                                refine ofW 30 212 HT_.out ?_
                                refine ofW 31 213 HT_.out ?_
                                refine ofW 32 214 HT_.out ?_
                                refine ofW 33 215 HT_.out ?_
                                refine ofW 34 216 HT_.out ?_
                                refine puW 35 217 HT_.out ?_
                                refine done_ (done_of HT_.out (by kernel_rfl)) ?_
                                try go_wp2
                                go_ret
                                exact ⟨by first | rfl | (simp [errW_none, errW_some] <;> rfl) | (simp [*, errW_none, errW_some] <;> rfl), nbW HB.out⟩
                            ·rw [if_neg c87] at H
                             exact absurd H (by simp)
                          ·rw [if_neg c86] at H
                           exact absurd H (by simp)
                        ·rw [if_neg c85] at H
                         exact absurd H (by simp)
                      ·as_aux_lemma =>
                        replace c84 := Bool.eq_false_iff.mpr c84
                        subst c84
                        have H1 : (some false) = some r := by rw [if_neg (show ¬ (false = true) by decide)] at H; exact H
                        clear H
                        have H := H1
                        clear H1
                        obtain rfl := Option.some.inj H
                        obtain ⟨Ao116, co116, eo116⟩ := Kd.R_slice HO_23.out
                        subst eo116
                        try go_wp2_with (first | ((with_reducible refine gate_callee (f := 19) rfl ?_); refine gcW 169 Tryz.func19 #[.slice Ao116 t595.length co116, .int .i64 t592] rfl ?_; (with_reducible refine (impl_RerootTree.calls kj64 _ _ t595 t592 t604 true _ ?side1 ?side2 A77.out).mono ?_); (case side1 => exact cbW (Kd.R_reads' HO_23.out).2.2); (case side2 => exact (Kd.R_reads' HO_23.out).2.1); rintro e w117 ⟨v606, rfl, ho0, hb⟩; refine ⟨_, rfl, ?_⟩; have n0_ := Aside0.mk (Kd.R_elder' (rbW HO_21.out) (Kd.R_base ho0) hb); have n1_ := Aside0.mk (Kd.R_elder' (rbW HO_23.out) (Kd.R_base ho0) hb); have n2_ := Aside0.mk (Kd.R_lower (Kd.R_new' (Kd.R_new' ho0 (Kd.R_lt (rbW HO_21.out))) (Kd.R_lt (rbW HO_23.out))) (below_size (nbW HB.out))); have n3_ := Aside0.mk (below_step (nbW HB.out) hb); clear HO_21; clear HO_23; clear HB; have HO_21 := n0_; have HO_23 := n1_; have HO607 := n2_; have HB := n3_; clear n0_ n1_ n2_ n3_; (try clear hb); (try clear hb2); (try clear hk); (try clear hi); (try clear ho0)) | ((with_reducible refine gate_callee (f := 21) rfl ?_); refine gcW 174 Tryz.func21 #[.slice Ao67 t591.length co67] rfl ?_; (with_reducible refine (impl_DegreesOf.calls kj64 _ _ t591 t608 true _ ?side1 ?side2 A78.out).mono ?_); (case side1 => exact cbW (Kd.R_reads' HO_21.out).2.2); (case side2 => exact (Kd.R_reads' HO_21.out).2.1); rintro e w118 ⟨v610, rfl, ho0, hb⟩; refine ⟨_, rfl, ?_⟩; have n0_ := Aside0.mk (Kd.R_elder' (rbW HO_21.out) (Kd.R_base ho0) hb); have n1_ := Aside0.mk (Kd.R_elder' (rbW HO_23.out) (Kd.R_base ho0) hb); have n2_ := Aside0.mk (Kd.R_elder' (rbW HO607.out) (Kd.R_base ho0) hb); have n3_ := Aside0.mk (Kd.R_lower (Kd.R_new' (Kd.R_new' (Kd.R_new' ho0 (Kd.R_lt (rbW HO_21.out))) (Kd.R_lt (rbW HO_23.out))) (Kd.R_lt (rbW HO607.out))) (below_size (nbW HB.out))); have n4_ := Aside0.mk (below_step (nbW HB.out) hb); clear HO_21; clear HO_23; clear HO607; clear HB; have HO_21 := n0_; have HO_23 := n1_; have HO607 := n2_; have HO611 := n3_; have HB := n4_; clear n0_ n1_ n2_ n3_ n4_; (try clear hb); (try clear hb2); (try clear hk); (try clear hi); (try clear ho0)) | ((with_reducible refine gate_callee (f := 21) rfl ?_); refine gcW 179 Tryz.func21 #[.slice Ao116 t595.length co116] rfl ?_; (with_reducible refine (impl_DegreesOf.calls kj64 _ _ t595 t612 true _ ?side1 ?side2 A79.out).mono ?_); (case side1 => exact cbW (Kd.R_reads' HO_23.out).2.2); (case side2 => exact (Kd.R_reads' HO_23.out).2.1); rintro e w119 ⟨v614, rfl, ho0, hb⟩; refine ⟨_, rfl, ?_⟩; have n0_ := Aside0.mk (Kd.R_elder' (rbW HO_21.out) (Kd.R_base ho0) hb); have n1_ := Aside0.mk (Kd.R_elder' (rbW HO_23.out) (Kd.R_base ho0) hb); have n2_ := Aside0.mk (Kd.R_elder' (rbW HO607.out) (Kd.R_base ho0) hb); have n3_ := Aside0.mk (Kd.R_elder' (rbW HO611.out) (Kd.R_base ho0) hb); have n4_ := Aside0.mk (Kd.R_lower (Kd.R_new' (Kd.R_new' (Kd.R_new' (Kd.R_new' ho0 (Kd.R_lt (rbW HO_21.out))) (Kd.R_lt (rbW HO_23.out))) (Kd.R_lt (rbW HO607.out))) (Kd.R_lt (rbW HO611.out))) (below_size (nbW HB.out))); have n5_ := Aside0.mk (below_step (nbW HB.out) hb); clear HO_21; clear HO_23; clear HO607; clear HO611; clear HB; have HO_21 := n0_; have HO_23 := n1_; have HO607 := n2_; have HO611 := n3_; have HO615 := n4_; have HB := n5_; clear n0_ n1_ n2_ n3_ n4_ n5_; (try clear hb); (try clear hb2); (try clear hk); (try clear hi); (try clear ho0)))
                        have n0_ := Aside0.mk (Kd.R_drew HO_21.out)
                        have n1_ := Aside0.mk (Kd.R_drew HO_23.out)
                        have n2_ := Aside0.mk (Kd.R_drew HO607.out)
                        have n3_ := Aside0.mk (Kd.R_drew HO611.out)
                        have n4_ := Aside0.mk (Kd.R_drew HO615.out)
                        have n5_ := Aside0.mk (below_drew1 HB.out)
                        clear HO_21
                        clear HO_23
                        clear HO607
                        clear HO611
                        clear HO615
                        clear HB
                        have HO_21 := n0_
                        have HO_23 := n1_
                        have HO607 := n2_
                        have HO611 := n3_
                        have HO615 := n4_
                        have HB := n5_
                        clear n0_ n1_ n2_ n3_ n4_ n5_
                        obtain ⟨Ao121, co121, eo121⟩ := Kd.R_slice HO607.out
                        (first | subst eo121 | (injection eo121 with f1_ f2_ f3_; have f4_ := f1_.symm; have f5_ := f3_.symm; clear f1_ f2_ f3_; subst f4_; subst f5_))
                        refine start_ (n := 36) (S := fun w' => True) (ds := []) #[false, false, false, false, false, false, false, false, false, false, false, false, false, false, false, false, false, false, false, false, false, false, false, false, false, false, false, false, false, false, false, false, false, false, false, false] (by kernel_rfl) rfl rfl trivial (fun hHeld => ?_); refine with_tabW laws_FnTreesRenamed.tab30 laws_FnTreesRenamed.bits30 (fun HT_ HW_ => ?_)
                        generalize w119.drew = w120 at HO_21 HO_23 HO607 HO611 HO615 HB hHeld ⊢
                        refine puW 0 182 HT_.out ?_
                        refine puW 1 183 HT_.out ?_
                        refine puW 2 184 HT_.out ?_
                        refine puW 3 185 HT_.out ?_
                        refine puW 4 186 HT_.out ?_
                        refine puW 5 187 HT_.out ?_
                        refine puW 6 188 HT_.out ?_
                        refine puW 7 189 HT_.out ?_
                        refine puW 8 190 HT_.out ?_
                        refine puW 9 191 HT_.out ?_
                        refine puW 10 192 HT_.out ?_
                        refine puW 11 193 HT_.out ?_
                        refine puW 12 194 HT_.out ?_
                        refine one_ (i := 13) (N := some 195) #[true, true, true, true, true, true, true, true, true, true, true, true, true, true, false, false, false, false, false, false, false, false, false, false, false, false, false, false, false, false, false, false, false, false, false, false] rfl rfl (one_of HT_.out (by kernel_rfl)) (by decide) (fun K hK => ?_)
                        refine goes_ Tryz.func15 (by kernel_rfl) rfl #[.slice Ao121 t604.length co121, .slice Ao67 t591.length co67] (by rfl) rfl rfl (by (try simp only [List.map_toArray, List.map_cons, List.map_nil]); first | done | rfl | (simp only [List.length_drop, List.length_take]; rfl)) ?_
                        with_reducible refine (laws_wSame.calls kj64 _ _ t604 _ _ t591 false _ ?side1 ?side2 ?side3 ?side4 A83.out).mono ?_
                        (case side1 => exact cbW (Kd.R_reads' HO607.out).2.2)
                        (case side2 => exact (Kd.R_reads' HO607.out).2.1)
                        (case side3 => exact cbW (Kd.R_reads' HO_21.out).2.2)
                        (case side4 => exact (Kd.R_reads' HO_21.out).2.1)
                        rintro e w' ⟨rfl, ⟨nd, rfl⟩⟩
                        refine ⟨_, rfl, ?_⟩
                        refine hK.out _ _ trivial (fun hHeld => ?_)
                        clear hK K
                        refine noW ?_
                        refine puW 14 196 HT_.out ?_
                        refine puW 15 197 HT_.out ?_
                        refine puW 16 198 HT_.out ?_
                        refine ofW 17 199 HT_.out ?_
                        refine ofW 18 200 HT_.out ?_
                        refine ofW 19 201 HT_.out ?_
                        refine ofW 20 202 HT_.out ?_
                        refine ofW 21 203 HT_.out ?_
                        refine ofW 22 204 HT_.out ?_
                        refine ofW 23 205 HT_.out ?_
                        refine ofW 24 206 HT_.out ?_
                        refine puW 25 207 HT_.out ?_
                        refine puW 26 208 HT_.out ?_
                        refine ofW 27 209 HT_.out ?_
                        refine ofW 28 210 HT_.out ?_
                        refine ofW 29 211 HT_.out ?_
                        refine ofW 30 212 HT_.out ?_
                        refine ofW 31 213 HT_.out ?_
                        refine ofW 32 214 HT_.out ?_
                        refine ofW 33 215 HT_.out ?_
                        refine ofW 34 216 HT_.out ?_
                        refine puW 35 217 HT_.out ?_
                        refine done_ (done_of HT_.out (by kernel_rfl)) ?_
                        try go_wp2
                        go_ret
                        exact ⟨by first | rfl | (simp [errW_none, errW_some] <;> rfl) | (simp [*, errW_none, errW_some] <;> rfl), nbW HB.out⟩
                    ·as_aux_lemma =>
                      replace c82 := Bool.eq_false_iff.mpr c82
                      subst c82
                      have H1 : (some false) = some r := by rw [if_neg (show ¬ (false = true) by decide)] at H; exact H
                      clear H
                      have H := H1
                      clear H1
                      obtain rfl := Option.some.inj H
                      obtain ⟨Ao122, co122, eo122⟩ := Kd.R_slice HO_23.out
                      subst eo122
                      try go_wp2_with (first | ((with_reducible refine gate_callee (f := 19) rfl ?_); refine gcW 169 Tryz.func19 #[.slice Ao122 t595.length co122, .int .i64 t592] rfl ?_; (with_reducible refine (impl_RerootTree.calls kj64 _ _ t595 t592 t604 true _ ?side1 ?side2 A77.out).mono ?_); (case side1 => exact cbW (Kd.R_reads' HO_23.out).2.2); (case side2 => exact (Kd.R_reads' HO_23.out).2.1); rintro e w123 ⟨v606, rfl, ho0, hb⟩; refine ⟨_, rfl, ?_⟩; have n0_ := Aside0.mk (Kd.R_elder' (rbW HO_21.out) (Kd.R_base ho0) hb); have n1_ := Aside0.mk (Kd.R_elder' (rbW HO_23.out) (Kd.R_base ho0) hb); have n2_ := Aside0.mk (Kd.R_lower (Kd.R_new' (Kd.R_new' ho0 (Kd.R_lt (rbW HO_21.out))) (Kd.R_lt (rbW HO_23.out))) (below_size (nbW HB.out))); have n3_ := Aside0.mk (below_step (nbW HB.out) hb); clear HO_21; clear HO_23; clear HB; have HO_21 := n0_; have HO_23 := n1_; have HO607 := n2_; have HB := n3_; clear n0_ n1_ n2_ n3_; (try clear hb); (try clear hb2); (try clear hk); (try clear hi); (try clear ho0)) | ((with_reducible refine gate_callee (f := 21) rfl ?_); refine gcW 174 Tryz.func21 #[.slice Ao67 t591.length co67] rfl ?_; (with_reducible refine (impl_DegreesOf.calls kj64 _ _ t591 t608 true _ ?side1 ?side2 A78.out).mono ?_); (case side1 => exact cbW (Kd.R_reads' HO_21.out).2.2); (case side2 => exact (Kd.R_reads' HO_21.out).2.1); rintro e w124 ⟨v610, rfl, ho0, hb⟩; refine ⟨_, rfl, ?_⟩; have n0_ := Aside0.mk (Kd.R_elder' (rbW HO_21.out) (Kd.R_base ho0) hb); have n1_ := Aside0.mk (Kd.R_elder' (rbW HO_23.out) (Kd.R_base ho0) hb); have n2_ := Aside0.mk (Kd.R_elder' (rbW HO607.out) (Kd.R_base ho0) hb); have n3_ := Aside0.mk (Kd.R_lower (Kd.R_new' (Kd.R_new' (Kd.R_new' ho0 (Kd.R_lt (rbW HO_21.out))) (Kd.R_lt (rbW HO_23.out))) (Kd.R_lt (rbW HO607.out))) (below_size (nbW HB.out))); have n4_ := Aside0.mk (below_step (nbW HB.out) hb); clear HO_21; clear HO_23; clear HO607; clear HB; have HO_21 := n0_; have HO_23 := n1_; have HO607 := n2_; have HO611 := n3_; have HB := n4_; clear n0_ n1_ n2_ n3_ n4_; (try clear hb); (try clear hb2); (try clear hk); (try clear hi); (try clear ho0)) | ((with_reducible refine gate_callee (f := 21) rfl ?_); refine gcW 179 Tryz.func21 #[.slice Ao122 t595.length co122] rfl ?_; (with_reducible refine (impl_DegreesOf.calls kj64 _ _ t595 t612 false _ ?side1 ?side2 A79.out).mono ?_); (case side1 => exact cbW (Kd.R_reads' HO_23.out).2.2); (case side2 => exact (Kd.R_reads' HO_23.out).2.1); rintro e w125 ⟨v614, rfl, ho0, hb⟩; refine ⟨_, rfl, ?_⟩; have n0_ := Aside0.mk (Kd.R_elder' (rbW HO_21.out) (Kd.R_base ho0) hb); have n1_ := Aside0.mk (Kd.R_elder' (rbW HO_23.out) (Kd.R_base ho0) hb); have n2_ := Aside0.mk (Kd.R_elder' (rbW HO607.out) (Kd.R_base ho0) hb); have n3_ := Aside0.mk (Kd.R_elder' (rbW HO611.out) (Kd.R_base ho0) hb); have n4_ := Aside0.mk (Kd.R_lower (Kd.R_new' (Kd.R_new' (Kd.R_new' (Kd.R_new' ho0 (Kd.R_lt (rbW HO_21.out))) (Kd.R_lt (rbW HO_23.out))) (Kd.R_lt (rbW HO607.out))) (Kd.R_lt (rbW HO611.out))) (below_size (nbW HB.out))); have n5_ := Aside0.mk (below_step (nbW HB.out) hb); clear HO_21; clear HO_23; clear HO607; clear HO611; clear HB; have HO_21 := n0_; have HO_23 := n1_; have HO607 := n2_; have HO611 := n3_; have HO615 := n4_; have HB := n5_; clear n0_ n1_ n2_ n3_ n4_ n5_; (try clear hb); (try clear hb2); (try clear hk); (try clear hi); (try clear ho0)))
                      have n0_ := Aside0.mk (Kd.R_drew HO_21.out)
                      have n1_ := Aside0.mk (Kd.R_drew HO_23.out)
                      have n2_ := Aside0.mk (Kd.R_drew HO607.out)
                      have n3_ := Aside0.mk (Kd.R_drew HO611.out)
                      have n4_ := Aside0.mk (Kd.R_drew HO615.out)
                      have n5_ := Aside0.mk (below_drew1 HB.out)
                      clear HO_21
                      clear HO_23
                      clear HO607
                      clear HO611
                      clear HO615
                      clear HB
                      have HO_21 := n0_
                      have HO_23 := n1_
                      have HO607 := n2_
                      have HO611 := n3_
                      have HO615 := n4_
                      have HB := n5_
                      clear n0_ n1_ n2_ n3_ n4_ n5_
                      refine start_ (n := 36) (S := fun w' => True) (ds := []) #[false, false, false, false, false, false, false, false, false, false, false, false, false, false, false, false, false, false, false, false, false, false, false, false, false, false, false, false, false, false, false, false, false, false, false, false] (by kernel_rfl) rfl rfl trivial (fun hHeld => ?_); refine with_tabW laws_FnTreesRenamed.tab30 laws_FnTreesRenamed.bits30 (fun HT_ HW_ => ?_)
                      generalize w125.drew = w126 at HO_21 HO_23 HO607 HO611 HO615 HB hHeld ⊢
                      refine puW 0 182 HT_.out ?_
                      refine puW 1 183 HT_.out ?_
                      refine puW 2 184 HT_.out ?_
                      refine puW 3 185 HT_.out ?_
                      refine puW 4 186 HT_.out ?_
                      refine puW 5 187 HT_.out ?_
                      refine puW 6 188 HT_.out ?_
                      refine puW 7 189 HT_.out ?_
                      refine puW 8 190 HT_.out ?_
                      refine puW 9 191 HT_.out ?_
                      refine puW 10 192 HT_.out ?_
                      refine ofW 11 193 HT_.out ?_
                      refine ofW 12 194 HT_.out ?_
                      refine ofW 13 195 HT_.out ?_
                      refine ofW 14 196 HT_.out ?_
                      refine puW 15 197 HT_.out ?_
                      refine puW 16 198 HT_.out ?_
                      refine ofW 17 199 HT_.out ?_
                      refine ofW 18 200 HT_.out ?_
                      refine ofW 19 201 HT_.out ?_
                      refine ofW 20 202 HT_.out ?_
                      refine ofW 21 203 HT_.out ?_
                      refine ofW 22 204 HT_.out ?_
                      refine ofW 23 205 HT_.out ?_
                      refine ofW 24 206 HT_.out ?_
                      refine puW 25 207 HT_.out ?_
                      refine puW 26 208 HT_.out ?_
                      refine ofW 27 209 HT_.out ?_
                      refine ofW 28 210 HT_.out ?_
                      refine ofW 29 211 HT_.out ?_
                      refine ofW 30 212 HT_.out ?_
                      refine ofW 31 213 HT_.out ?_
                      refine ofW 32 214 HT_.out ?_
                      refine ofW 33 215 HT_.out ?_
                      refine ofW 34 216 HT_.out ?_
                      refine puW 35 217 HT_.out ?_
                      refine done_ (done_of HT_.out (by kernel_rfl)) ?_
                      try go_wp2
                      go_ret
                      exact ⟨by first | rfl | (simp [errW_none, errW_some] <;> rfl) | (simp [*, errW_none, errW_some] <;> rfl), nbW HB.out⟩
                  ·as_aux_lemma =>
                    replace c81 := Bool.eq_false_iff.mpr c81
                    subst c81
                    have H1 : (some false) = some r := by rw [if_neg (show ¬ (false = true) by decide)] at H; exact H
                    clear H
                    have H := H1
                    clear H1
                    obtain rfl := Option.some.inj H
                    obtain ⟨Ao127, co127, eo127⟩ := Kd.R_slice HO_23.out
                    subst eo127
                    try go_wp2_with (first | ((with_reducible refine gate_callee (f := 19) rfl ?_); refine gcW 169 Tryz.func19 #[.slice Ao127 t595.length co127, .int .i64 t592] rfl ?_; (with_reducible refine (impl_RerootTree.calls kj64 _ _ t595 t592 t604 true _ ?side1 ?side2 A77.out).mono ?_); (case side1 => exact cbW (Kd.R_reads' HO_23.out).2.2); (case side2 => exact (Kd.R_reads' HO_23.out).2.1); rintro e w128 ⟨v606, rfl, ho0, hb⟩; refine ⟨_, rfl, ?_⟩; have n0_ := Aside0.mk (Kd.R_elder' (rbW HO_21.out) (Kd.R_base ho0) hb); have n1_ := Aside0.mk (Kd.R_elder' (rbW HO_23.out) (Kd.R_base ho0) hb); have n2_ := Aside0.mk (Kd.R_lower (Kd.R_new' (Kd.R_new' ho0 (Kd.R_lt (rbW HO_21.out))) (Kd.R_lt (rbW HO_23.out))) (below_size (nbW HB.out))); have n3_ := Aside0.mk (below_step (nbW HB.out) hb); clear HO_21; clear HO_23; clear HB; have HO_21 := n0_; have HO_23 := n1_; have HO607 := n2_; have HB := n3_; clear n0_ n1_ n2_ n3_; (try clear hb); (try clear hb2); (try clear hk); (try clear hi); (try clear ho0)) | ((with_reducible refine gate_callee (f := 21) rfl ?_); refine gcW 174 Tryz.func21 #[.slice Ao67 t591.length co67] rfl ?_; (with_reducible refine (impl_DegreesOf.calls kj64 _ _ t591 t608 false _ ?side1 ?side2 A78.out).mono ?_); (case side1 => exact cbW (Kd.R_reads' HO_21.out).2.2); (case side2 => exact (Kd.R_reads' HO_21.out).2.1); rintro e w129 ⟨v610, rfl, ho0, hb⟩; refine ⟨_, rfl, ?_⟩; have n0_ := Aside0.mk (Kd.R_elder' (rbW HO_21.out) (Kd.R_base ho0) hb); have n1_ := Aside0.mk (Kd.R_elder' (rbW HO_23.out) (Kd.R_base ho0) hb); have n2_ := Aside0.mk (Kd.R_elder' (rbW HO607.out) (Kd.R_base ho0) hb); have n3_ := Aside0.mk (Kd.R_lower (Kd.R_new' (Kd.R_new' (Kd.R_new' ho0 (Kd.R_lt (rbW HO_21.out))) (Kd.R_lt (rbW HO_23.out))) (Kd.R_lt (rbW HO607.out))) (below_size (nbW HB.out))); have n4_ := Aside0.mk (below_step (nbW HB.out) hb); clear HO_21; clear HO_23; clear HO607; clear HB; have HO_21 := n0_; have HO_23 := n1_; have HO607 := n2_; have HO611 := n3_; have HB := n4_; clear n0_ n1_ n2_ n3_ n4_; (try clear hb); (try clear hb2); (try clear hk); (try clear hi); (try clear ho0)) | ((with_reducible refine gate_callee (f := 21) rfl ?_); refine gcW 179 Tryz.func21 #[.slice Ao127 t595.length co127] rfl ?_; (with_reducible refine (impl_DegreesOf.calls kj64 _ _ t595 t612 t613 _ ?side1 ?side2 A79.out).mono ?_); (case side1 => exact cbW (Kd.R_reads' HO_23.out).2.2); (case side2 => exact (Kd.R_reads' HO_23.out).2.1); rintro e w130 ⟨v614, rfl, ho0, hb⟩; refine ⟨_, rfl, ?_⟩; have n0_ := Aside0.mk (Kd.R_elder' (rbW HO_21.out) (Kd.R_base ho0) hb); have n1_ := Aside0.mk (Kd.R_elder' (rbW HO_23.out) (Kd.R_base ho0) hb); have n2_ := Aside0.mk (Kd.R_elder' (rbW HO607.out) (Kd.R_base ho0) hb); have n3_ := Aside0.mk (Kd.R_elder' (rbW HO611.out) (Kd.R_base ho0) hb); have n4_ := Aside0.mk (Kd.R_lower (Kd.R_new' (Kd.R_new' (Kd.R_new' (Kd.R_new' ho0 (Kd.R_lt (rbW HO_21.out))) (Kd.R_lt (rbW HO_23.out))) (Kd.R_lt (rbW HO607.out))) (Kd.R_lt (rbW HO611.out))) (below_size (nbW HB.out))); have n5_ := Aside0.mk (below_step (nbW HB.out) hb); clear HO_21; clear HO_23; clear HO607; clear HO611; clear HB; have HO_21 := n0_; have HO_23 := n1_; have HO607 := n2_; have HO611 := n3_; have HO615 := n4_; have HB := n5_; clear n0_ n1_ n2_ n3_ n4_ n5_; (try clear hb); (try clear hb2); (try clear hk); (try clear hi); (try clear ho0)))
                    have n0_ := Aside0.mk (Kd.R_drew HO_21.out)
                    have n1_ := Aside0.mk (Kd.R_drew HO_23.out)
                    have n2_ := Aside0.mk (Kd.R_drew HO607.out)
                    have n3_ := Aside0.mk (Kd.R_drew HO611.out)
                    have n4_ := Aside0.mk (Kd.R_drew HO615.out)
                    have n5_ := Aside0.mk (below_drew1 HB.out)
                    clear HO_21
                    clear HO_23
                    clear HO607
                    clear HO611
                    clear HO615
                    clear HB
                    have HO_21 := n0_
                    have HO_23 := n1_
                    have HO607 := n2_
                    have HO611 := n3_
                    have HO615 := n4_
                    have HB := n5_
                    clear n0_ n1_ n2_ n3_ n4_ n5_
                    refine start_ (n := 36) (S := fun w' => True) (ds := []) #[false, false, false, false, false, false, false, false, false, false, false, false, false, false, false, false, false, false, false, false, false, false, false, false, false, false, false, false, false, false, false, false, false, false, false, false] (by kernel_rfl) rfl rfl trivial (fun hHeld => ?_); refine with_tabW laws_FnTreesRenamed.tab30 laws_FnTreesRenamed.bits30 (fun HT_ HW_ => ?_)
                    generalize w130.drew = w131 at HO_21 HO_23 HO607 HO611 HO615 HB hHeld ⊢
                    refine puW 0 182 HT_.out ?_
                    refine puW 1 183 HT_.out ?_
                    refine puW 2 184 HT_.out ?_
                    refine puW 3 185 HT_.out ?_
                    refine puW 4 186 HT_.out ?_
                    refine puW 5 187 HT_.out ?_
                    refine puW 6 188 HT_.out ?_
                    refine ofW 7 189 HT_.out ?_
                    refine ofW 8 190 HT_.out ?_
                    refine puW 9 191 HT_.out ?_
                    refine puW 10 192 HT_.out ?_
                    refine ofW 11 193 HT_.out ?_
                    refine ofW 12 194 HT_.out ?_
                    refine ofW 13 195 HT_.out ?_
                    refine ofW 14 196 HT_.out ?_
                    refine puW 15 197 HT_.out ?_
                    refine puW 16 198 HT_.out ?_
                    refine ofW 17 199 HT_.out ?_
                    refine ofW 18 200 HT_.out ?_
                    refine ofW 19 201 HT_.out ?_
                    refine ofW 20 202 HT_.out ?_
                    refine ofW 21 203 HT_.out ?_
                    refine ofW 22 204 HT_.out ?_
                    refine ofW 23 205 HT_.out ?_
                    refine ofW 24 206 HT_.out ?_
                    refine puW 25 207 HT_.out ?_
                    refine puW 26 208 HT_.out ?_
                    refine ofW 27 209 HT_.out ?_
                    refine ofW 28 210 HT_.out ?_
                    refine ofW 29 211 HT_.out ?_
                    refine ofW 30 212 HT_.out ?_
                    refine ofW 31 213 HT_.out ?_
                    refine ofW 32 214 HT_.out ?_
                    refine ofW 33 215 HT_.out ?_
                    refine ofW 34 216 HT_.out ?_
                    refine puW 35 217 HT_.out ?_
                    refine done_ (done_of HT_.out (by kernel_rfl)) ?_
                    try go_wp2
                    go_ret
                    exact ⟨by first | rfl | (simp [errW_none, errW_some] <;> rfl) | (simp [*, errW_none, errW_some] <;> rfl), nbW HB.out⟩
                ·as_aux_lemma =>
                  replace c80 := Bool.eq_false_iff.mpr c80
                  subst c80
                  have H1 : (some false) = some r := by rw [if_neg (show ¬ (false = true) by decide)] at H; exact H
                  clear H
                  have H := H1
                  clear H1
                  obtain rfl := Option.some.inj H
                  obtain ⟨Ao132, co132, eo132⟩ := Kd.R_slice HO_23.out
                  subst eo132
                  try go_wp2_with (first | ((with_reducible refine gate_callee (f := 19) rfl ?_); refine gcW 169 Tryz.func19 #[.slice Ao132 t595.length co132, .int .i64 t592] rfl ?_; (with_reducible refine (impl_RerootTree.calls kj64 _ _ t595 t592 t604 false _ ?side1 ?side2 A77.out).mono ?_); (case side1 => exact cbW (Kd.R_reads' HO_23.out).2.2); (case side2 => exact (Kd.R_reads' HO_23.out).2.1); rintro e w133 ⟨v606, rfl, ho0, hb⟩; refine ⟨_, rfl, ?_⟩; have n0_ := Aside0.mk (Kd.R_elder' (rbW HO_21.out) (Kd.R_base ho0) hb); have n1_ := Aside0.mk (Kd.R_elder' (rbW HO_23.out) (Kd.R_base ho0) hb); have n2_ := Aside0.mk (Kd.R_lower (Kd.R_new' (Kd.R_new' ho0 (Kd.R_lt (rbW HO_21.out))) (Kd.R_lt (rbW HO_23.out))) (below_size (nbW HB.out))); have n3_ := Aside0.mk (below_step (nbW HB.out) hb); clear HO_21; clear HO_23; clear HB; have HO_21 := n0_; have HO_23 := n1_; have HO607 := n2_; have HB := n3_; clear n0_ n1_ n2_ n3_; (try clear hb); (try clear hb2); (try clear hk); (try clear hi); (try clear ho0)) | ((with_reducible refine gate_callee (f := 21) rfl ?_); refine gcW 174 Tryz.func21 #[.slice Ao67 t591.length co67] rfl ?_; (with_reducible refine (impl_DegreesOf.calls kj64 _ _ t591 t608 t609 _ ?side1 ?side2 A78.out).mono ?_); (case side1 => exact cbW (Kd.R_reads' HO_21.out).2.2); (case side2 => exact (Kd.R_reads' HO_21.out).2.1); rintro e w134 ⟨v610, rfl, ho0, hb⟩; refine ⟨_, rfl, ?_⟩; have n0_ := Aside0.mk (Kd.R_elder' (rbW HO_21.out) (Kd.R_base ho0) hb); have n1_ := Aside0.mk (Kd.R_elder' (rbW HO_23.out) (Kd.R_base ho0) hb); have n2_ := Aside0.mk (Kd.R_elder' (rbW HO607.out) (Kd.R_base ho0) hb); have n3_ := Aside0.mk (Kd.R_lower (Kd.R_new' (Kd.R_new' (Kd.R_new' ho0 (Kd.R_lt (rbW HO_21.out))) (Kd.R_lt (rbW HO_23.out))) (Kd.R_lt (rbW HO607.out))) (below_size (nbW HB.out))); have n4_ := Aside0.mk (below_step (nbW HB.out) hb); clear HO_21; clear HO_23; clear HO607; clear HB; have HO_21 := n0_; have HO_23 := n1_; have HO607 := n2_; have HO611 := n3_; have HB := n4_; clear n0_ n1_ n2_ n3_ n4_; (try clear hb); (try clear hb2); (try clear hk); (try clear hi); (try clear ho0)) | ((with_reducible refine gate_callee (f := 21) rfl ?_); refine gcW 179 Tryz.func21 #[.slice Ao132 t595.length co132] rfl ?_; (with_reducible refine (impl_DegreesOf.calls kj64 _ _ t595 t612 t613 _ ?side1 ?side2 A79.out).mono ?_); (case side1 => exact cbW (Kd.R_reads' HO_23.out).2.2); (case side2 => exact (Kd.R_reads' HO_23.out).2.1); rintro e w135 ⟨v614, rfl, ho0, hb⟩; refine ⟨_, rfl, ?_⟩; have n0_ := Aside0.mk (Kd.R_elder' (rbW HO_21.out) (Kd.R_base ho0) hb); have n1_ := Aside0.mk (Kd.R_elder' (rbW HO_23.out) (Kd.R_base ho0) hb); have n2_ := Aside0.mk (Kd.R_elder' (rbW HO607.out) (Kd.R_base ho0) hb); have n3_ := Aside0.mk (Kd.R_elder' (rbW HO611.out) (Kd.R_base ho0) hb); have n4_ := Aside0.mk (Kd.R_lower (Kd.R_new' (Kd.R_new' (Kd.R_new' (Kd.R_new' ho0 (Kd.R_lt (rbW HO_21.out))) (Kd.R_lt (rbW HO_23.out))) (Kd.R_lt (rbW HO607.out))) (Kd.R_lt (rbW HO611.out))) (below_size (nbW HB.out))); have n5_ := Aside0.mk (below_step (nbW HB.out) hb); clear HO_21; clear HO_23; clear HO607; clear HO611; clear HB; have HO_21 := n0_; have HO_23 := n1_; have HO607 := n2_; have HO611 := n3_; have HO615 := n4_; have HB := n5_; clear n0_ n1_ n2_ n3_ n4_ n5_; (try clear hb); (try clear hb2); (try clear hk); (try clear hi); (try clear ho0)))
                  have n0_ := Aside0.mk (Kd.R_drew HO_21.out)
                  have n1_ := Aside0.mk (Kd.R_drew HO_23.out)
                  have n2_ := Aside0.mk (Kd.R_drew HO607.out)
                  have n3_ := Aside0.mk (Kd.R_drew HO611.out)
                  have n4_ := Aside0.mk (Kd.R_drew HO615.out)
                  have n5_ := Aside0.mk (below_drew1 HB.out)
                  clear HO_21
                  clear HO_23
                  clear HO607
                  clear HO611
                  clear HO615
                  clear HB
                  have HO_21 := n0_
                  have HO_23 := n1_
                  have HO607 := n2_
                  have HO611 := n3_
                  have HO615 := n4_
                  have HB := n5_
                  clear n0_ n1_ n2_ n3_ n4_ n5_
                  refine start_ (n := 36) (S := fun w' => True) (ds := []) #[false, false, false, false, false, false, false, false, false, false, false, false, false, false, false, false, false, false, false, false, false, false, false, false, false, false, false, false, false, false, false, false, false, false, false, false] (by kernel_rfl) rfl rfl trivial (fun hHeld => ?_); refine with_tabW laws_FnTreesRenamed.tab30 laws_FnTreesRenamed.bits30 (fun HT_ HW_ => ?_)
                  generalize w135.drew = w136 at HO_21 HO_23 HO607 HO611 HO615 HB hHeld ⊢
                  refine puW 0 182 HT_.out ?_
                  refine puW 1 183 HT_.out ?_
                  refine puW 2 184 HT_.out ?_
                  refine ofW 3 185 HT_.out ?_
                  refine ofW 4 186 HT_.out ?_
                  refine puW 5 187 HT_.out ?_
                  refine puW 6 188 HT_.out ?_
                  refine ofW 7 189 HT_.out ?_
                  refine ofW 8 190 HT_.out ?_
                  refine puW 9 191 HT_.out ?_
                  refine puW 10 192 HT_.out ?_
                  refine ofW 11 193 HT_.out ?_
                  refine ofW 12 194 HT_.out ?_
                  refine ofW 13 195 HT_.out ?_
                  refine ofW 14 196 HT_.out ?_
                  refine puW 15 197 HT_.out ?_
                  refine puW 16 198 HT_.out ?_
                  refine ofW 17 199 HT_.out ?_
                  refine ofW 18 200 HT_.out ?_
                  refine ofW 19 201 HT_.out ?_
                  refine ofW 20 202 HT_.out ?_
                  refine ofW 21 203 HT_.out ?_
                  refine ofW 22 204 HT_.out ?_
                  refine ofW 23 205 HT_.out ?_
                  refine ofW 24 206 HT_.out ?_
                  refine puW 25 207 HT_.out ?_
                  refine puW 26 208 HT_.out ?_
                  refine ofW 27 209 HT_.out ?_
                  refine ofW 28 210 HT_.out ?_
                  refine ofW 29 211 HT_.out ?_
                  refine ofW 30 212 HT_.out ?_
                  refine ofW 31 213 HT_.out ?_
                  refine ofW 32 214 HT_.out ?_
                  refine ofW 33 215 HT_.out ?_
                  refine ofW 34 216 HT_.out ?_
                  refine puW 35 217 HT_.out ?_
                  refine done_ (done_of HT_.out (by kernel_rfl)) ?_
                  try go_wp2
                  go_ret
                  exact ⟨by first | rfl | (simp [errW_none, errW_some] <;> rfl) | (simp [*, errW_none, errW_some] <;> rfl), nbW HB.out⟩
              ·replace c76 := Bool.eq_false_iff.mpr c76
               subst c76
               have H1 : (laws_FnTreesRenamed.j5 kj64 l0 l1) = some r := by rw [if_neg (show ¬ (false = true) by decide)] at H; exact H
               clear H
               have H := H1
               clear H1
               have H' := Aside0.mk H
               clear H
               go_wp2
               go_meet
               case rel => exact ⟨_, H', ⟨by have := HJ7.out; have := HJ18.out; have := HJ64.out; first | omega | exact Nat.le_refl _⟩, ⟨nbW HB.out⟩⟩
             case rest =>
              clear HC75
              try clear c1
              try clear c2
              try clear p2
              try clear c7
              try clear c8
              try clear c19
              try clear c21
              try clear c76
              try clear c80
              try clear c81
              obtain ⟨kq, HA, HJ74, HB⟩ := hcut
              cases kq with
              | zero => exact absurd HA.out (by simp [laws_FnTreesRenamed.j5])
              | succ kj74 =>
               have H := HA.out
               clear HA
               simp only [laws_FnTreesRenamed.j5] at H
               replace H := Option.bind_eq_some_iff.mp H
               obtain ⟨t621, A1370, H⟩ := H
               (try dsimp -simprocs only at H)
               have A137 := Aside0.mk A1370
               clear A1370
               replace H := Option.bind_eq_some_iff.mp H
               obtain ⟨⟨t622, t623⟩, A1380, H⟩ := H
               (try dsimp -simprocs only at H)
               have A138 := Aside0.mk A1380
               clear A1380
               replace H := Option.bind_eq_some_iff.mp H
               obtain ⟨⟨t626, t627⟩, A1390, H⟩ := H
               (try dsimp -simprocs only at H)
               have A139 := Aside0.mk A1390
               clear A1390
               have HC140 := Aside0.mk H
               clear H
               go_upto_region 35 with (first | ((with_reducible refine gate_callee (f := 22) rfl ?_); refine gcW 219 Tryz.func22 #[.slice A1 l1.length c1] rfl ?_; (with_reducible refine (spec_DrawParseTree.calls kj74 _ _ l1 t621 _ ?side1 ?side2 A137.out).mono ?_); (case side1 => exact cbW (Kd.C_below HR1.out HB.out)); (case side2 => exact HC1.out); rintro e w141 ⟨rfl, hb⟩; refine ⟨_, rfl, ?_⟩; have n0_ := Aside0.mk (below_step (nbW HB.out) hb); clear HB; have HB := n0_; clear n0_; (try clear hb); (try clear hb2); (try clear hk); (try clear hi)) | ((with_reducible refine gate_callee (f := 23) rfl ?_); refine gcW 222 Tryz.func23 #[.string t621] rfl ?_; (with_reducible refine (impl_ParseTree.calls kj74 t621 t622 t623 _ ?gl A138.out).mono ?_); (case gl => exact Gl.below HGL.out (nbW HB.out)); rintro e w142 ⟨v624, rfl, ho0, hb⟩; refine ⟨_, rfl, ?_⟩; have n0_ := Aside0.mk (Kd.R_lower ho0 (below_size (nbW HB.out))); have n1_ := Aside0.mk (below_step (nbW HB.out) hb); clear HB; have HO625 := n0_; have HB := n1_; clear n0_ n1_; (try clear hb); (try clear hb2); (try clear hk); (try clear hi); (try clear ho0)) | ((with_reducible refine gate_callee (f := 24) rfl ?_); refine gcW 227 Tryz.func24 #[.string t621] rfl ?_; (with_reducible refine (spec_ParseTree.calls kj74 t621 t626 t627 _ A139.out).mono ?_); rintro e w143 ⟨v628, rfl, ho0, hb⟩; refine ⟨_, rfl, ?_⟩; have n0_ := Aside0.mk (Kd.R_elder' (rbW HO625.out) (Kd.R_base ho0) hb); have n1_ := Aside0.mk (Kd.R_lower (Kd.R_new' ho0 (Kd.R_lt (rbW HO625.out))) (below_size (nbW HB.out))); have n2_ := Aside0.mk (below_step (nbW HB.out) hb); clear HO625; clear HB; have HO625 := n0_; have HO629 := n1_; have HB := n2_; clear n0_ n1_ n2_; (try clear hb); (try clear hb2); (try clear hk); (try clear hi); (try clear ho0)))
               (try simp only [Act.put, List.setIfInBounds_toArray, List.set_cons_zero, List.set_cons_succ])
               go_cut [238] (fun v238 wc => ∃ (kq : Nat) (x238_139 : Bool), v238 = .bool x238_139 ∧ Aside0 (laws_FnTreesRenamed.j6 kq l0 t621 t622 t623 x238_139 = some r) ∧ Aside0 (kq ≤ kj74) ∧ Aside0 (Kd.R (Kd.int .i64) 3 wc w.heap.size (fun _ => True) v624 t622) ∧ Aside0 (Below w.heap.size w wc))
               case first =>
                have H := HC140.out
                clear HC140
                by_cases c144 : (t623 != t627) = true
                ·rw [if_pos c144] at H
                 have c144b0 : (t623 != t627) = true := c144
                 (try (have c144b1 : decide (t623 = t627) = false := by simpa using c144))
                 (try (have c144b2 : (t623 == t627) = false := by simpa using c144))
                 (try (have c144b3 : ¬ (t623 = t627) := by simpa using c144))
                 clear c144
                 (first | rw [c144b0] | (simp only [i64_w, i32_w]; rw [c144b0]) | rw [c144b1] | skip)
                 have H' := Aside0.mk H
                 clear H
                 go_wp2
                 go_meet
                 case rel => exact ⟨_, (true), (by first | rfl | (simp; done) | (simp [*]; done)), H', ⟨by have := HJ7.out; have := HJ18.out; have := HJ64.out; have := HJ74.out; first | omega | exact Nat.le_refl _⟩, ⟨by apply rbW; exact Kd.R_mono HO625.out (fun _ hk => trivial)⟩, ⟨nbW HB.out⟩⟩
                ·rw [if_neg c144] at H
                 have c144b0 : (t623 != t627) = false := by simpa using c144
                 (try (have c144b1 : decide (t623 = t627) = true := by simpa using c144))
                 (try (have c144b2 : (t623 == t627) = true := by simpa using c144))
                 clear c144
                 (first | rw [c144b0] | (simp only [i64_w, i32_w]; rw [c144b0]) | rw [c144b1] | skip)
                 replace H := Option.bind_eq_some_iff.mp H
                 obtain ⟨t630, A1450, H⟩ := H
                 (try dsimp -simprocs only at H)
                 have A145 := Aside0.mk A1450
                 clear A1450
                 have H' := Aside0.mk H
                 clear H
                 obtain ⟨Ao146, co146, eo146⟩ := Kd.R_slice HO625.out
                 subst eo146
                 obtain ⟨Ao147, co147, eo147⟩ := Kd.R_slice HO629.out
                 subst eo147
                 go_wp2_with (first | (go_at_call 15; (with_reducible refine (laws_wSame.calls kj74 _ _ t622 _ _ t626 t630 _ ?side1 ?side2 ?side3 ?side4 A145.out).mono ?_); (case side1 => exact cbW (Kd.R_reads' HO625.out).2.2); (case side2 => exact (Kd.R_reads' HO625.out).2.1); (case side3 => exact cbW (Kd.R_reads' HO629.out).2.2); (case side4 => exact (Kd.R_reads' HO629.out).2.1); rintro e w' ⟨rfl, ⟨nd, rfl⟩⟩))
                 go_meet
                 case rel => exact ⟨_, (!t630), (by first | rfl | (simp; done) | (simp [*]; done)), H', ⟨by have := HJ7.out; have := HJ18.out; have := HJ64.out; have := HJ74.out; first | omega | exact Nat.le_refl _⟩, ⟨by apply rbW; exact Kd.R_mono HO625.out (fun _ hk => trivial)⟩, ⟨nbW HB.out⟩⟩
               case rest =>
                clear HC140
                try clear c1
                try clear c2
                try clear p2
                try clear c7
                try clear c8
                try clear c14
                try clear c19
                try clear c21
                try clear c22
                try clear c23
                try clear c24
                try clear c76
                try clear c80
                try clear c81
                try clear c144
                try clear c144b0
                try clear c144b1
                try clear c144b2
                try clear p2
                obtain ⟨kq, x238_139, rfl, HA, HJ139, HO_34, HB⟩ := hcut
                cases kq with
                | zero => exact absurd HA.out (by simp [laws_FnTreesRenamed.j6])
                | succ kj139 =>
                 have H := HA.out
                 clear HA
                 simp only [laws_FnTreesRenamed.j6] at H
                 by_cases c148 : x238_139 = true
                 ·subst c148
                  have H1 : (some false) = some r := by rw [if_pos rfl] at H; exact H
                  clear H
                  have H := H1
                  clear H1
                  obtain rfl := Option.some.inj H
                  go_wp2
                  go_ret
                  exact ⟨by first | rfl | (simp [errW_none, errW_some] <;> rfl) | (simp [*, errW_none, errW_some] <;> rfl), nbW HB.out⟩
                 ·as_aux_lemma =>
                   replace c148 := Bool.eq_false_iff.mpr c148
                   subst c148
                   have H1 : (if t623 = true then ((impl_TreeText.f kj139 t622).bind fun bt631 => (if bt631.2 = true then (if bt631.1.toList = t621.toList then (laws_FnTreesRenamed.j7 kj139 l0) else (some false)) else (some false))) else (laws_FnTreesRenamed.j7 kj139 l0)) = some r := by rw [if_neg (show ¬ (false = true) by decide)] at H; exact H
                   clear H
                   have H := H1
                   clear H1
                   have HC149 := Aside0.mk H
                   clear H
                   go_upto_if 239 with (fail)
                   go_cut [] (fun wc => ∃ (kq : Nat), Aside0 (laws_FnTreesRenamed.j7 kq l0 = some r) ∧ Aside0 (kq ≤ kj139) ∧ Aside0 (Below w.heap.size w wc))
                   case first =>
                    have H := HC149.out
                    clear HC149
                    by_cases c150 : t623 = true
                    ·subst c150
                     have H1 : ((impl_TreeText.f kj139 t622).bind fun bt631 => (if bt631.2 = true then (if bt631.1.toList = t621.toList then (laws_FnTreesRenamed.j7 kj139 l0) else (some false)) else (some false))) = some r := by rw [if_pos rfl] at H; exact H
                     clear H
                     have H := H1
                     clear H1
                     replace H := Option.bind_eq_some_iff.mp H
                     obtain ⟨⟨t631, t632⟩, A1510, H⟩ := H
                     (try dsimp -simprocs only at H)
                     have A151 := Aside0.mk A1510
                     clear A1510
                     by_cases c152 : t632 = true
                     ·subst c152
                      have H1 : (if t631.toList = t621.toList then (laws_FnTreesRenamed.j7 kj139 l0) else (some false)) = some r := by rw [if_pos rfl] at H; exact H
                      clear H
                      have H := H1
                      clear H1
                      by_cases c153 : t631.toList = t621.toList
                      ·rw [if_pos c153] at H
                       have c153b0 : (t631.toList == t621.toList) = true := beq_iff_eq.mpr c153
                       have c153b1 : (t631.toList != t621.toList) = false := bne_eq_false_iff_eq.mpr c153
                       clear c153
                       (first | rw [c153b0] | (simp only [i64_w, i32_w]; rw [c153b0]) | rw [c153b1] | skip)
                       have H' := Aside0.mk H
                       clear H
                       obtain ⟨Ao154, co154, eo154⟩ := Kd.R_slice HO_34.out
                       subst eo154
                       go_wp2_with (first | ((with_reducible refine gate_callee (f := 25) rfl ?_); refine gcW 242 Tryz.func25 #[.slice Ao154 t622.length co154] rfl ?_; (with_reducible refine (impl_TreeText.calls kj139 _ _ t622 t631 true _ ?side1 ?side2 A151.out).mono ?_); (case side1 => exact cbW (Kd.R_reads' HO_34.out).2.2); (case side2 => exact (Kd.R_reads' HO_34.out).2.1); rintro e w155 ⟨rfl, hb⟩; refine ⟨_, rfl, ?_⟩; have n0_ := Aside0.mk (Kd.R_below (rbW HO_34.out) hb); have n1_ := Aside0.mk (below_step (nbW HB.out) hb); clear HO_34; clear HB; have HO_34 := n0_; have HB := n1_; clear n0_ n1_; (try clear hb); (try clear hb2); (try clear hk); (try clear hi)))
                       go_meet
                       case rel => exact ⟨_, H', ⟨by have := HJ7.out; have := HJ18.out; have := HJ64.out; have := HJ74.out; have := HJ139.out; first | omega | exact Nat.le_refl _⟩, ⟨nbW HB.out⟩⟩
                      ·rw [if_neg c153] at H
                       have c153b0 : (t631.toList == t621.toList) = false := beq_eq_false_iff_ne.mpr c153
                       have c153b1 : (t631.toList != t621.toList) = true := bne_iff_ne.mpr c153
                       (first | rw [c153b0] | (simp only [i64_w, i32_w]; rw [c153b0]) | rw [c153b1] | skip)
                       obtain rfl := Option.some.inj H
                       obtain ⟨Ao156, co156, eo156⟩ := Kd.R_slice HO_34.out
                       subst eo156
                       go_wp2_with (first | ((with_reducible refine gate_callee (f := 25) rfl ?_); refine gcW 242 Tryz.func25 #[.slice Ao156 t622.length co156] rfl ?_; (with_reducible refine (impl_TreeText.calls kj139 _ _ t622 t631 true _ ?side1 ?side2 A151.out).mono ?_); (case side1 => exact cbW (Kd.R_reads' HO_34.out).2.2); (case side2 => exact (Kd.R_reads' HO_34.out).2.1); rintro e w157 ⟨rfl, hb⟩; refine ⟨_, rfl, ?_⟩; have n0_ := Aside0.mk (Kd.R_below (rbW HO_34.out) hb); have n1_ := Aside0.mk (below_step (nbW HB.out) hb); clear HO_34; clear HB; have HO_34 := n0_; have HB := n1_; clear n0_ n1_; (try clear hb); (try clear hb2); (try clear hk); (try clear hi)))
                       go_ret
                       exact ⟨by first | rfl | (simp [errW_none, errW_some] <;> rfl) | (simp [*, errW_none, errW_some] <;> rfl), nbW HB.out⟩
                     ·replace c152 := Bool.eq_false_iff.mpr c152
                      subst c152
                      have H1 : (some false) = some r := by rw [if_neg (show ¬ (false = true) by decide)] at H; exact H
                      clear H
                      have H := H1
                      clear H1
                      obtain rfl := Option.some.inj H
                      obtain ⟨Ao158, co158, eo158⟩ := Kd.R_slice HO_34.out
                      subst eo158
                      go_wp2_with (first | ((with_reducible refine gate_callee (f := 25) rfl ?_); refine gcW 242 Tryz.func25 #[.slice Ao158 t622.length co158] rfl ?_; (with_reducible refine (impl_TreeText.calls kj139 _ _ t622 t631 false _ ?side1 ?side2 A151.out).mono ?_); (case side1 => exact cbW (Kd.R_reads' HO_34.out).2.2); (case side2 => exact (Kd.R_reads' HO_34.out).2.1); rintro e w159 ⟨rfl, hb⟩; refine ⟨_, rfl, ?_⟩; have n0_ := Aside0.mk (Kd.R_below (rbW HO_34.out) hb); have n1_ := Aside0.mk (below_step (nbW HB.out) hb); clear HO_34; clear HB; have HO_34 := n0_; have HB := n1_; clear n0_ n1_; (try clear hb); (try clear hb2); (try clear hk); (try clear hi)))
                      go_ret
                      exact ⟨by first | rfl | (simp [errW_none, errW_some] <;> rfl) | (simp [*, errW_none, errW_some] <;> rfl), nbW HB.out⟩
                    ·replace c150 := Bool.eq_false_iff.mpr c150
                     subst c150
                     have H1 : (laws_FnTreesRenamed.j7 kj139 l0) = some r := by rw [if_neg (show ¬ (false = true) by decide)] at H; exact H
                     clear H
                     have H := H1
                     clear H1
                     have H' := Aside0.mk H
                     clear H
                     go_wp2
                     go_meet
                     case rel => exact ⟨_, H', ⟨by have := HJ7.out; have := HJ18.out; have := HJ64.out; have := HJ74.out; have := HJ139.out; first | omega | exact Nat.le_refl _⟩, ⟨nbW HB.out⟩⟩
                   case rest =>
                    clear HC149
                    try clear c1
                    try clear c2
                    try clear p2
                    try clear c7
                    try clear c8
                    try clear c14
                    try clear c15
                    try clear c19
                    try clear c21
                    try clear c22
                    try clear c23
                    try clear c24
                    try clear c25
                    try clear c76
                    try clear c80
                    try clear c81
                    try clear c144
                    try clear c144b0
                    try clear c144b1
                    try clear c144b2
                    try clear c148
                    try clear c150
                    try clear c152
                    try clear c153
                    try clear c153b0
                    try clear c153b1
                    try clear p2
                    obtain ⟨kq, HA, HJ148, HB⟩ := hcut
                    cases kq with
                    | zero => exact absurd HA.out (by simp [laws_FnTreesRenamed.j7])
                    | succ kj148 =>
                     have H := HA.out
                     clear HA
                     simp only [laws_FnTreesRenamed.j7] at H
                     replace H := Option.bind_eq_some_iff.mp H
                     obtain ⟨t633, A1600, H⟩ := H
                     (try dsimp -simprocs only at H)
                     have A160 := Aside0.mk A1600
                     clear A1600
                     replace H := Option.bind_eq_some_iff.mp H
                     obtain ⟨⟨t636, t637⟩, A1610, H⟩ := H
                     (try dsimp -simprocs only at H)
                     have A161 := Aside0.mk A1610
                     clear A1610
                     replace H := Option.bind_eq_some_iff.mp H
                     obtain ⟨t638, A1620, H⟩ := H
                     (try dsimp -simprocs only at H)
                     have A162 := Aside0.mk A1620
                     clear A1620
                     by_cases c163 : (t637 != t638) = true
                     ·rw [if_pos c163] at H
                      have c163b0 : (t637 != t638) = true := c163
                      (try (have c163b1 : decide (t637 = t638) = false := by simpa using c163))
                      (try (have c163b2 : (t637 == t638) = false := by simpa using c163))
                      (try (have c163b3 : ¬ (t637 = t638) := by simpa using c163))
                      clear c163
                      obtain rfl := Option.some.inj H
                      go_wp2_with (first | ((with_reducible refine gate_callee (f := 26) rfl ?_); refine gcW 253 Tryz.func26 #[.slice A0 l0.length c0] rfl ?_; (with_reducible refine (spec_DrawTreeText.calls kj148 _ _ l0 t633 _ ?side1 ?side2 A160.out).mono ?_); (case side1 => exact cbW (Kd.C_below HR0.out HB.out)); (case side2 => exact HC0.out); rintro e w164 ⟨v634, rfl, ho0, hb⟩; refine ⟨_, rfl, ?_⟩; have n0_ := Aside0.mk (Kd.R_lower ho0 (below_size (nbW HB.out))); have n1_ := Aside0.mk (below_step (nbW HB.out) hb); clear HB; have HO635 := n0_; have HB := n1_; clear n0_ n1_; (try clear hb); (try clear hb2); (try clear hk); (try clear hi); (try clear ho0); obtain ⟨Ao165, co165, eo165⟩ := Kd.R_slice HO635.out; subst eo165) | ((with_reducible refine gate_callee (f := 25) rfl ?_); refine gcW 256 Tryz.func25 #[.slice Ao165 t633.length co165] rfl ?_; (with_reducible refine (impl_TreeText.calls kj148 _ _ t633 t636 t637 _ ?side1 ?side2 A161.out).mono ?_); (case side1 => exact cbW (Kd.R_reads' HO635.out).2.2); (case side2 => exact (Kd.R_reads' HO635.out).2.1); rintro e w166 ⟨rfl, hb⟩; refine ⟨_, rfl, ?_⟩; have n0_ := Aside0.mk (Kd.R_below (rbW HO635.out) hb); have n1_ := Aside0.mk (below_step (nbW HB.out) hb); clear HO635; clear HB; have HO635 := n0_; have HB := n1_; clear n0_ n1_; (try clear hb); (try clear hb2); (try clear hk); (try clear hi)) | ((with_reducible refine gate_callee (f := 27) rfl ?_); refine gcW 261 Tryz.func27 #[.slice Ao165 t633.length co165] rfl ?_; (with_reducible refine (impl_IsTree.calls kj148 _ _ t633 t638 _ ?side1 ?side2 A162.out).mono ?_); (case side1 => exact cbW (Kd.R_reads' HO635.out).2.2); (case side2 => exact (Kd.R_reads' HO635.out).2.1); rintro e w167 ⟨rfl, hb⟩; refine ⟨_, rfl, ?_⟩; have n0_ := Aside0.mk (Kd.R_below (rbW HO635.out) hb); have n1_ := Aside0.mk (below_step (nbW HB.out) hb); clear HO635; clear HB; have HO635 := n0_; have HB := n1_; clear n0_ n1_; (try clear hb); (try clear hb2); (try clear hk); (try clear hi)))
                      go_ret
                      exact ⟨by first | rfl | (simp [errW_none, errW_some] <;> rfl) | (simp [*, errW_none, errW_some] <;> rfl), nbW HB.out⟩
                     ·rw [if_neg c163] at H
                      have c163b0 : (t637 != t638) = false := by simpa using c163
                      (try (have c163b1 : decide (t637 = t638) = true := by simpa using c163))
                      (try (have c163b2 : (t637 == t638) = true := by simpa using c163))
                      clear c163
                      replace H := Option.bind_eq_some_iff.mp H
                      obtain ⟨⟨t639, t640⟩, A1680, H⟩ := H
                      (try dsimp -simprocs only at H)
                      have A168 := Aside0.mk A1680
                      clear A1680
                      by_cases c169 : t637 = true
                      ·subst c169
                       have H1 : (if t640 = true then ((laws_wSame.f kj148 t639 t633).bind fun t643 => (some t643)) else (some false)) = some r := by rw [if_pos rfl] at H; exact H
                       clear H
                       have H := H1
                       clear H1
                       by_cases c170 : t640 = true
                       ·subst c170
                        have H1 : ((laws_wSame.f kj148 t639 t633).bind fun t643 => (some t643)) = some r := by rw [if_pos rfl] at H; exact H
                        clear H
                        have H := H1
                        clear H1
                        replace H := Option.bind_eq_some_iff.mp H
                        obtain ⟨t643, A1710, H⟩ := H
                        (try dsimp -simprocs only at H)
                        have A171 := Aside0.mk A1710
                        clear A1710
                        obtain rfl := Option.some.inj H
                        go_wp2_with (first | ((with_reducible refine gate_callee (f := 26) rfl ?_); refine gcW 253 Tryz.func26 #[.slice A0 l0.length c0] rfl ?_; (with_reducible refine (spec_DrawTreeText.calls kj148 _ _ l0 t633 _ ?side1 ?side2 A160.out).mono ?_); (case side1 => exact cbW (Kd.C_below HR0.out HB.out)); (case side2 => exact HC0.out); rintro e w172 ⟨v634, rfl, ho0, hb⟩; refine ⟨_, rfl, ?_⟩; have n0_ := Aside0.mk (Kd.R_lower ho0 (below_size (nbW HB.out))); have n1_ := Aside0.mk (below_step (nbW HB.out) hb); clear HB; have HO635 := n0_; have HB := n1_; clear n0_ n1_; (try clear hb); (try clear hb2); (try clear hk); (try clear hi); (try clear ho0); obtain ⟨Ao173, co173, eo173⟩ := Kd.R_slice HO635.out; subst eo173) | ((with_reducible refine gate_callee (f := 25) rfl ?_); refine gcW 256 Tryz.func25 #[.slice Ao173 t633.length co173] rfl ?_; (with_reducible refine (impl_TreeText.calls kj148 _ _ t633 t636 true _ ?side1 ?side2 A161.out).mono ?_); (case side1 => exact cbW (Kd.R_reads' HO635.out).2.2); (case side2 => exact (Kd.R_reads' HO635.out).2.1); rintro e w174 ⟨rfl, hb⟩; refine ⟨_, rfl, ?_⟩; have n0_ := Aside0.mk (Kd.R_below (rbW HO635.out) hb); have n1_ := Aside0.mk (below_step (nbW HB.out) hb); clear HO635; clear HB; have HO635 := n0_; have HB := n1_; clear n0_ n1_; (try clear hb); (try clear hb2); (try clear hk); (try clear hi)) | ((with_reducible refine gate_callee (f := 27) rfl ?_); refine gcW 261 Tryz.func27 #[.slice Ao173 t633.length co173] rfl ?_; (with_reducible refine (impl_IsTree.calls kj148 _ _ t633 t638 _ ?side1 ?side2 A162.out).mono ?_); (case side1 => exact cbW (Kd.R_reads' HO635.out).2.2); (case side2 => exact (Kd.R_reads' HO635.out).2.1); rintro e w175 ⟨rfl, hb⟩; refine ⟨_, rfl, ?_⟩; have n0_ := Aside0.mk (Kd.R_below (rbW HO635.out) hb); have n1_ := Aside0.mk (below_step (nbW HB.out) hb); clear HO635; clear HB; have HO635 := n0_; have HB := n1_; clear n0_ n1_; (try clear hb); (try clear hb2); (try clear hk); (try clear hi)) | ((with_reducible refine gate_callee (f := 23) rfl ?_); refine gcW 265 Tryz.func23 #[.string t636] rfl ?_; (with_reducible refine (impl_ParseTree.calls kj148 t636 t639 true _ ?gl A168.out).mono ?_); (case gl => exact Gl.below HGL.out (nbW HB.out)); rintro e w176 ⟨v641, rfl, ho0, hb⟩; refine ⟨_, rfl, ?_⟩; have n0_ := Aside0.mk (Kd.R_elder' (rbW HO635.out) (Kd.R_base ho0) hb); have n1_ := Aside0.mk (Kd.R_lower (Kd.R_new' ho0 (Kd.R_lt (rbW HO635.out))) (below_size (nbW HB.out))); have n2_ := Aside0.mk (below_step (nbW HB.out) hb); clear HO635; clear HB; have HO635 := n0_; have HO642 := n1_; have HB := n2_; clear n0_ n1_ n2_; (try clear hb); (try clear hb2); (try clear hk); (try clear hi); (try clear ho0); obtain ⟨Ao177, co177, eo177⟩ := Kd.R_slice HO642.out; subst eo177) | (go_at_call 15; (with_reducible refine (laws_wSame.calls kj148 _ _ t639 _ _ t633 t643 _ ?side1 ?side2 ?side3 ?side4 A171.out).mono ?_); (case side1 => exact cbW (Kd.R_reads' HO642.out).2.2); (case side2 => exact (Kd.R_reads' HO642.out).2.1); (case side3 => exact cbW (Kd.R_reads' HO635.out).2.2); (case side4 => exact (Kd.R_reads' HO635.out).2.1); rintro e w' ⟨rfl, ⟨nd, rfl⟩⟩))
                        go_ret
                        exact ⟨by first | rfl | (simp [errW_none, errW_some] <;> rfl) | (simp [*, errW_none, errW_some] <;> rfl), nbW HB.out⟩
                       ·replace c170 := Bool.eq_false_iff.mpr c170
                        subst c170
                        have H1 : (some false) = some r := by rw [if_neg (show ¬ (false = true) by decide)] at H; exact H
                        clear H
                        have H := H1
                        clear H1
                        obtain rfl := Option.some.inj H
                        go_wp2_with (first | ((with_reducible refine gate_callee (f := 26) rfl ?_); refine gcW 253 Tryz.func26 #[.slice A0 l0.length c0] rfl ?_; (with_reducible refine (spec_DrawTreeText.calls kj148 _ _ l0 t633 _ ?side1 ?side2 A160.out).mono ?_); (case side1 => exact cbW (Kd.C_below HR0.out HB.out)); (case side2 => exact HC0.out); rintro e w178 ⟨v634, rfl, ho0, hb⟩; refine ⟨_, rfl, ?_⟩; have n0_ := Aside0.mk (Kd.R_lower ho0 (below_size (nbW HB.out))); have n1_ := Aside0.mk (below_step (nbW HB.out) hb); clear HB; have HO635 := n0_; have HB := n1_; clear n0_ n1_; (try clear hb); (try clear hb2); (try clear hk); (try clear hi); (try clear ho0); obtain ⟨Ao179, co179, eo179⟩ := Kd.R_slice HO635.out; subst eo179) | ((with_reducible refine gate_callee (f := 25) rfl ?_); refine gcW 256 Tryz.func25 #[.slice Ao179 t633.length co179] rfl ?_; (with_reducible refine (impl_TreeText.calls kj148 _ _ t633 t636 true _ ?side1 ?side2 A161.out).mono ?_); (case side1 => exact cbW (Kd.R_reads' HO635.out).2.2); (case side2 => exact (Kd.R_reads' HO635.out).2.1); rintro e w180 ⟨rfl, hb⟩; refine ⟨_, rfl, ?_⟩; have n0_ := Aside0.mk (Kd.R_below (rbW HO635.out) hb); have n1_ := Aside0.mk (below_step (nbW HB.out) hb); clear HO635; clear HB; have HO635 := n0_; have HB := n1_; clear n0_ n1_; (try clear hb); (try clear hb2); (try clear hk); (try clear hi)) | ((with_reducible refine gate_callee (f := 27) rfl ?_); refine gcW 261 Tryz.func27 #[.slice Ao179 t633.length co179] rfl ?_; (with_reducible refine (impl_IsTree.calls kj148 _ _ t633 t638 _ ?side1 ?side2 A162.out).mono ?_); (case side1 => exact cbW (Kd.R_reads' HO635.out).2.2); (case side2 => exact (Kd.R_reads' HO635.out).2.1); rintro e w181 ⟨rfl, hb⟩; refine ⟨_, rfl, ?_⟩; have n0_ := Aside0.mk (Kd.R_below (rbW HO635.out) hb); have n1_ := Aside0.mk (below_step (nbW HB.out) hb); clear HO635; clear HB; have HO635 := n0_; have HB := n1_; clear n0_ n1_; (try clear hb); (try clear hb2); (try clear hk); (try clear hi)) | ((with_reducible refine gate_callee (f := 23) rfl ?_); refine gcW 265 Tryz.func23 #[.string t636] rfl ?_; (with_reducible refine (impl_ParseTree.calls kj148 t636 t639 false _ ?gl A168.out).mono ?_); (case gl => exact Gl.below HGL.out (nbW HB.out)); rintro e w182 ⟨v641, rfl, ho0, hb⟩; refine ⟨_, rfl, ?_⟩; have n0_ := Aside0.mk (Kd.R_elder' (rbW HO635.out) (Kd.R_base ho0) hb); have n1_ := Aside0.mk (Kd.R_lower (Kd.R_new' ho0 (Kd.R_lt (rbW HO635.out))) (below_size (nbW HB.out))); have n2_ := Aside0.mk (below_step (nbW HB.out) hb); clear HO635; clear HB; have HO635 := n0_; have HO642 := n1_; have HB := n2_; clear n0_ n1_ n2_; (try clear hb); (try clear hb2); (try clear hk); (try clear hi); (try clear ho0)))
                        go_ret
                        exact ⟨by first | rfl | (simp [errW_none, errW_some] <;> rfl) | (simp [*, errW_none, errW_some] <;> rfl), nbW HB.out⟩
                      ·replace c169 := Bool.eq_false_iff.mpr c169
                       subst c169
                       have H1 : (some true) = some r := by rw [if_neg (show ¬ (false = true) by decide)] at H; exact H
                       clear H
                       have H := H1
                       clear H1
                       obtain rfl := Option.some.inj H
                       go_wp2_with (first | ((with_reducible refine gate_callee (f := 26) rfl ?_); refine gcW 253 Tryz.func26 #[.slice A0 l0.length c0] rfl ?_; (with_reducible refine (spec_DrawTreeText.calls kj148 _ _ l0 t633 _ ?side1 ?side2 A160.out).mono ?_); (case side1 => exact cbW (Kd.C_below HR0.out HB.out)); (case side2 => exact HC0.out); rintro e w183 ⟨v634, rfl, ho0, hb⟩; refine ⟨_, rfl, ?_⟩; have n0_ := Aside0.mk (Kd.R_lower ho0 (below_size (nbW HB.out))); have n1_ := Aside0.mk (below_step (nbW HB.out) hb); clear HB; have HO635 := n0_; have HB := n1_; clear n0_ n1_; (try clear hb); (try clear hb2); (try clear hk); (try clear hi); (try clear ho0); obtain ⟨Ao184, co184, eo184⟩ := Kd.R_slice HO635.out; subst eo184) | ((with_reducible refine gate_callee (f := 25) rfl ?_); refine gcW 256 Tryz.func25 #[.slice Ao184 t633.length co184] rfl ?_; (with_reducible refine (impl_TreeText.calls kj148 _ _ t633 t636 false _ ?side1 ?side2 A161.out).mono ?_); (case side1 => exact cbW (Kd.R_reads' HO635.out).2.2); (case side2 => exact (Kd.R_reads' HO635.out).2.1); rintro e w185 ⟨rfl, hb⟩; refine ⟨_, rfl, ?_⟩; have n0_ := Aside0.mk (Kd.R_below (rbW HO635.out) hb); have n1_ := Aside0.mk (below_step (nbW HB.out) hb); clear HO635; clear HB; have HO635 := n0_; have HB := n1_; clear n0_ n1_; (try clear hb); (try clear hb2); (try clear hk); (try clear hi)) | ((with_reducible refine gate_callee (f := 27) rfl ?_); refine gcW 261 Tryz.func27 #[.slice Ao184 t633.length co184] rfl ?_; (with_reducible refine (impl_IsTree.calls kj148 _ _ t633 t638 _ ?side1 ?side2 A162.out).mono ?_); (case side1 => exact cbW (Kd.R_reads' HO635.out).2.2); (case side2 => exact (Kd.R_reads' HO635.out).2.1); rintro e w186 ⟨rfl, hb⟩; refine ⟨_, rfl, ?_⟩; have n0_ := Aside0.mk (Kd.R_below (rbW HO635.out) hb); have n1_ := Aside0.mk (below_step (nbW HB.out) hb); clear HO635; clear HB; have HO635 := n0_; have HB := n1_; clear n0_ n1_; (try clear hb); (try clear hb2); (try clear hk); (try clear hi)) | ((with_reducible refine gate_callee (f := 23) rfl ?_); refine gcW 265 Tryz.func23 #[.string t636] rfl ?_; (with_reducible refine (impl_ParseTree.calls kj148 t636 t639 t640 _ ?gl A168.out).mono ?_); (case gl => exact Gl.below HGL.out (nbW HB.out)); rintro e w187 ⟨v641, rfl, ho0, hb⟩; refine ⟨_, rfl, ?_⟩; have n0_ := Aside0.mk (Kd.R_elder' (rbW HO635.out) (Kd.R_base ho0) hb); have n1_ := Aside0.mk (Kd.R_lower (Kd.R_new' ho0 (Kd.R_lt (rbW HO635.out))) (below_size (nbW HB.out))); have n2_ := Aside0.mk (below_step (nbW HB.out) hb); clear HO635; clear HB; have HO635 := n0_; have HO642 := n1_; have HB := n2_; clear n0_ n1_ n2_; (try clear hb); (try clear hb2); (try clear hk); (try clear hi); (try clear ho0)))
                       go_ret
                       exact ⟨by first | rfl | (simp [errW_none, errW_some] <;> rfl) | (simp [*, errW_none, errW_some] <;> rfl), nbW HB.out⟩

/-- THE ONE PURE STATEMENT of laws_FnTreesRenamed: yours. -/
def laws_FnTreesRenamed.Pure : Prop := ∀ (l0 : List Int) (l1 : List Int), l0.length ≤ maxLen → l0.length * 1 ≤ 140737488351232 → (∀ x ∈ l0, (Lit.int .u8 x).wf = true) → l1.length ≤ maxLen → l1.length * 1 ≤ 140737488351232 → (∀ x ∈ l1, (Lit.int .u8 x).wf = true) → ∃ k, laws_FnTreesRenamed.f k l0 l1 = some true
theorem laws_FnTreesRenamed.walk (P : laws_FnTreesRenamed.Pure) (a0 : Option Addr) (len0 cap0 : Nat) (z0 : List Int) (a1 : Option Addr) (len1 cap1 : Nat) (z1 : List Int) (w : World) (hg : Gl w) (w0 : (a0 = none ∧ len0 = 0 ∧ cap0 = 0 ∧ z0 = []) ∨ ∃ x, a0 = some x ∧ len0 ≤ cap0 ∧ cap0 ≤ maxLen ∧ z0.length = cap0 ∧ (∀ i, i < z0.length → w.cell? (x.add i) = some (.int .u8 (z0.getD i 0))) ∧ ∀ n ∈ z0, (Lit.int .u8 n).wf = true) (y0 : len0 * 1 ≤ 140737488351232) (w1 : (a1 = none ∧ len1 = 0 ∧ cap1 = 0 ∧ z1 = []) ∨ ∃ x, a1 = some x ∧ len1 ≤ cap1 ∧ cap1 ≤ maxLen ∧ z1.length = cap1 ∧ (∀ i, i < z1.length → w.cell? (x.add i) = some (.int .u8 (z1.getD i 0))) ∧ ∀ n ∈ z1, (Lit.int .u8 n).wf = true) (y1 : len1 * 1 ≤ 140737488351232) :
  Calls Tryz.prog 4 #[.slice a0 len0 cap0, .slice a1 len1 cap1] w fun e w' => e = .returned (.bool true) ∧ Below w.heap.size w w' := by
 obtain ⟨l0, rfl, hr0, hm0, hw0, hc0⟩ := ReadsInt.ofRowC w0
 obtain ⟨l1, rfl, hr1, hm1, hw1, hc1⟩ := ReadsInt.ofRowC w1
 obtain ⟨k, h⟩ := P l0 l1 hm0 y0 hw0 hm1 y1 hw1
 refine (laws_FnTreesRenamed.calls k _ _ l0 _ _ l1 true w hg (Kd.C_of_reads (d := (0 : Int)) (h1 := fun _ => rfl) hr0) hc0 (Kd.C_of_reads (d := (0 : Int)) (h1 := fun _ => rfl) hr1) hc1 h).mono ?_
 rintro e w' ⟨rfl, hd⟩
 exact ⟨rfl, hd⟩

end Go.Proofs.YtlknoidcopkmfaaGreatDoor.PFnTreesRenamed
