-- Written by a program of this session for this claim (its own turn of the print).
import Derived.Test.YtlknoidcopkmfaaGreatDoorPFnWalkTextsx0
import Derived.Test.YtlknoidcopkmfaaGreatDoorPFnWalkTextsx1
import Derived.Test.YtlknoidcopkmfaaGreatDoorPFnWalkTextsx6
import Derived.Test.YtlknoidcopkmfaaGreatDoorPFnWalkTextsx7
namespace Go.Proofs.YtlknoidcopkmfaaGreatDoor.PFnWalkTexts
open Go.RowKit Go.Proofs.YtlknoidcopkmfaaGreatDoorW.PrintWords Go.Proofs.YtlknoidcopkmfaaGreatDoorW.PrintLast Go.Proofs.YtlknoidcopkmfaaGreatDoorW.PrintMore
attribute [local go_sem] max2_int min2_int max_two min_two max_three min_three max_four min_four   -- for this text's walks alone
set_option linter.unusedVariables false
set_option linter.unusedSimpArgs false

/-! ### impl_CountLabels: function 35 -/
def impl_CountLabels.l0 : Nat → List Int → Int → Int → List Int → Int → Int → Option (Int × Bool)
 | 0, _, _, _, _, _, _ => none
 | k + 1, x0, x4, x5, x11, x12, x13 => if x13 < x12 then (if 0 ≤ x13 then (if x13 < (x11.length : Int) then (if x13 > 0 then (if 0 ≤ (wrap64 (x13 - 1)) then (if (wrap64 (x13 - 1)) < (x0.length : Int) then (if (rd x11 x13) = (wrap64 ((rd x0 (wrap64 (x13 - 1))) + 1)) then (if (wrap64 (x5 + 1)) = 0 then (none) else (impl_CountLabels.l0 k x0 (wrap64 (Int.tdiv (wrap64 (x4 * (wrap64 (x13 + 1)))) (wrap64 (x5 + 1)))) (wrap64 (x5 + 1)) x11 x12 (wrap64 (x13 + 1)))) else (impl_CountLabels.l0 k x0 (wrap64 (Int.tdiv (wrap64 (x4 * (wrap64 (x13 + 1)))) 1)) 1 x11 x12 (wrap64 (x13 + 1)))) else (none)) else (none)) else (impl_CountLabels.l0 k x0 (wrap64 (Int.tdiv (wrap64 (x4 * (wrap64 (x13 + 1)))) 1)) 1 x11 x12 (wrap64 (x13 + 1)))) else (none)) else (none)) else (some (x4, true))
def impl_CountLabels.f (k : Nat) (l0 : List Int) : Option (Int × Bool) := (impl_areHeights.f k l0).bind fun t455 => (if t455 = true then (impl_CountLabels.l0 k l0 1 0 l0 (l0.length : Int) 0) else (some (0, false)))
theorem impl_CountLabels.mono_l : ∀ k, (∀ y0 y1 y2 y3 y4 y5, LeO (impl_CountLabels.l0 k y0 y1 y2 y3 y4 y5) (impl_CountLabels.l0 (k + 1) y0 y1 y2 y3 y4 y5))
 | 0 => fun _ _ _ _ _ _ r h => by simp [impl_CountLabels.l0] at h
 | k + 1 => by
  have ih0 := impl_CountLabels.mono_l k
  ·intro y0 y1 y2 y3 y4 y5
   unfold impl_CountLabels.l0
   repeat' first | (with_reducible first | exact ih0 _ _ _ _ _ _ | exact impl_areHeights.mono _ _ | exact LeO.refl _ | exact LeO.none _ | refine LeO.ite ?_ ?_ | refine LeO.bind ?_ (fun _ => ?_)) | exact LeO.none _ | refine LeO.ite ?_ ?_ | refine LeO.bind ?_ (fun _ => ?_)
theorem impl_CountLabels.mono : ∀ a0 k, LeO (impl_CountLabels.f k a0) (impl_CountLabels.f (k + 1) a0) := by
 intro a0 k
 have ih0 := impl_CountLabels.mono_l k
 unfold impl_CountLabels.f
 repeat' first | (with_reducible first | exact ih0 _ _ _ _ _ _ | exact impl_areHeights.mono _ _ | exact LeO.refl _ | exact LeO.none _ | refine LeO.ite ?_ ?_ | refine LeO.bind ?_ (fun _ => ?_)) | exact LeO.none _ | refine LeO.ite ?_ ?_ | refine LeO.bind ?_ (fun _ => ?_)
set_option maxHeartbeats 8000000 in
set_option maxRecDepth 100000 in
theorem impl_CountLabels.calls (k : Nat) (A0 : Option Addr) (c0 : Nat) (l0 : List Int) (r1 : Int) (r2 : Bool) (w : World) (hr0 : Kd.C (Kd.int .i64) w A0 l0.length l0) (hc0 : l0.length ≤ c0) (h : impl_CountLabels.f k l0 = some (r1, r2)) :
  Calls Tryz.prog 35 #[.slice A0 l0.length c0] w fun e w' => e = .returned (.tuple #[.int .i64 r1, .bool r2]) ∧ Drawn0 w w' := by
 have HR0 := Aside0.mk hr0
 have HC0 := Aside0.mk hc0
 clear hr0 hc0
 have H : ((impl_areHeights.f k l0).bind fun t455 => (if t455 = true then (impl_CountLabels.l0 k l0 1 0 l0 (l0.length : Int) 0) else (some (0, false)))) = some (r1, r2) := h
 clear h
 replace H := Option.bind_eq_some_iff.mp H
 obtain ⟨t455, A20, H⟩ := H
 (try dsimp -simprocs only at H)
 have A2 := Aside0.mk A20
 clear A20
 by_cases c3 : t455 = true
 ·subst c3
  rw [if_pos rfl] at H
  have H' := Aside0.mk H
  clear H
  go_enter Tryz.func35, Tryz.ntmps35
  go_wp2_with (first | ((with_reducible refine gate_callee (f := 71) rfl ?_); refine gcW 9 Tryz.func71 #[.slice A0 l0.length c0] rfl ?_; (with_reducible refine (impl_areHeights.calls k _ _ l0 true _ ?side1 ?side2 A2.out).mono ?_); (case side1 => exact cbW HR0.out); (case side2 => exact HC0.out); rintro e w' ⟨rfl, ⟨nd, rfl⟩⟩; refine ⟨_, rfl, ?_⟩))
  go_loopg [4, 5, 13] k (fun kq v4 v5 v13 w' => ∃ (x4_1 : Int) (x5_1 : Int) (x13_1 : Int), v4 = .int .i64 x4_1 ∧ v5 = .int .i64 x5_1 ∧ v13 = .int .i64 x13_1 ∧ Aside0 (impl_CountLabels.l0 kq l0 x4_1 x5_1 l0 (l0.length : Int) x13_1 = some (r1, r2)) ∧ Aside0 (kq ≤ k) ∧ Drawn0 w w')
  case atStart => exact ⟨(1), (0), (0), (by first | rfl | (simp; done) | (simp [*]; done)), (by first | rfl | (simp; done) | (simp [*]; done)), (by first | rfl | (simp; done) | (simp [*]; done)), H', ⟨Nat.le_refl _⟩, by repeat (first | exact Drawn0.refl _ | apply Drawn0.step)⟩
  case round =>
   clear H'
   try clear p2
   try clear c3
   obtain ⟨x4_1, x5_1, x13_1, rfl, rfl, rfl, HA, HK1, ⟨m1, rfl⟩⟩ := hrel
   cases gk with
   | zero => exact absurd HA.out (by simp [impl_CountLabels.l0])
   | succ k1 =>
    have H := HA.out
    clear HA
    simp only [impl_CountLabels.l0] at H
    by_cases c4 : x13_1 < (l0.length : Int)
    ·rw [if_pos c4] at H
     have c4b0 := decide_eq_true c4
     clear c4
     by_cases c5 : 0 ≤ x13_1
     ·rw [if_pos c5] at H
      have c5b0 := decide_eq_true c5
      clear c5
      by_cases c6 : x13_1 < (l0.length : Int)
      ·rw [if_pos c6] at H
       have c6b0 := decide_eq_true c6
       clear c6
       by_cases c7 : x13_1 > 0
       ·rw [if_pos c7] at H
        have c7b0 := decide_eq_true c7
        clear c7
        obtain ⟨ji8, hji8⟩ : ∃ j_ : Int, (wrap64 (x13_1 - 1)) = j_ := ⟨_, rfl⟩
        replace H : (if 0 ≤ (ji8) then (if (ji8) < (l0.length : Int) then (if (rd l0 x13_1) = (wrap64 ((rd l0 (ji8)) + 1)) then (if (wrap64 (x5_1 + 1)) = 0 then (none) else (impl_CountLabels.l0 k1 l0 (wrap64 (Int.tdiv (wrap64 (x4_1 * (wrap64 (x13_1 + 1)))) (wrap64 (x5_1 + 1)))) (wrap64 (x5_1 + 1)) l0 (l0.length : Int) (wrap64 (x13_1 + 1)))) else (impl_CountLabels.l0 k1 l0 (wrap64 (Int.tdiv (wrap64 (x4_1 * (wrap64 (x13_1 + 1)))) 1)) 1 l0 (l0.length : Int) (wrap64 (x13_1 + 1)))) else (none)) else (none)) = some (r1, r2) := by first | (rw [hji8] at H; exact H) | (simp only [hji8] at H ⊢; exact H)
        have hji8w : (IntKind.i64.wrap (x13_1 - 1)) = ji8 := (i64_w _).trans hji8
        by_cases c9 : 0 ≤ (ji8)
        ·rw [if_pos c9] at H
         have c9b0 := decide_eq_true c9
         clear c9
         by_cases c10 : (ji8) < (l0.length : Int)
         ·rw [if_pos c10] at H
          have c10b0 := decide_eq_true c10
          clear c10
          by_cases c11 : (rd l0 x13_1) = (wrap64 ((rd l0 (ji8)) + 1))
          ·rw [if_pos c11] at H
           have c11b0 : ((rd l0 x13_1) == (wrap64 ((rd l0 (ji8)) + 1))) = true := beq_iff_eq.mpr c11
           have c11b1 : ((rd l0 x13_1) != (wrap64 ((rd l0 (ji8)) + 1))) = false := bne_eq_false_iff_eq.mpr c11
           clear c11
           by_cases c12 : (wrap64 (x5_1 + 1)) = 0
           ·rw [if_pos c12] at H
            exact absurd H (by simp)
           ·rw [if_neg c12] at H
            have c12b0 : ((wrap64 (x5_1 + 1)) == 0) = false := beq_eq_false_iff_ne.mpr c12
            have c12b1 : ((wrap64 (x5_1 + 1)) != 0) = true := bne_iff_ne.mpr c12
            have H' := Aside0.mk H
            clear H
            have p456 : 0 ≤ (x13_1 : Int) := of_decide_eq_true (by first | (with_reducible assumption) | assumption)
            have q456 : x13_1 < (l0.length : Int) := of_decide_eq_true (by first | (with_reducible assumption) | assumption)
            obtain ⟨ad456, e456, hx456_0⟩ := Kd.at_int HR0.out x13_1 p456 q456
            cases e456
            replace p456 := eq_true p456
            replace q456 := eq_true q456
            have p457 : 0 ≤ ((ji8) : Int) := of_decide_eq_true (by first | (with_reducible assumption) | assumption)
            have q457 : (ji8) < (l0.length : Int) := of_decide_eq_true (by first | (with_reducible assumption) | assumption)
            obtain ⟨ad457, e457, hx457_0⟩ := Kd.at_int HR0.out (ji8) p457 q457
            obtain rfl : ad456 = ad457 := (by injection e457)
            replace p457 := eq_true p457
            replace q457 := eq_true q457
            go_wp2
            go_roundg k1
            case measure => have := HK1.out; omega
            case rel => exact ⟨(wrap64 (Int.tdiv (wrap64 (x4_1 * (wrap64 (x13_1 + 1)))) (wrap64 (x5_1 + 1)))), (wrap64 (x5_1 + 1)), (wrap64 (x13_1 + 1)), (by first | rfl | (simp; done) | (simp [*]; done)), (by first | rfl | (simp; done) | (simp [*]; done)), (by first | rfl | (simp; done) | (simp [*]; done)), H', ⟨by have := HK1.out; omega⟩, by repeat (first | exact Drawn0.refl _ | apply Drawn0.step)⟩
          ·rw [if_neg c11] at H
           have c11b0 : ((rd l0 x13_1) == (wrap64 ((rd l0 (ji8)) + 1))) = false := beq_eq_false_iff_ne.mpr c11
           have c11b1 : ((rd l0 x13_1) != (wrap64 ((rd l0 (ji8)) + 1))) = true := bne_iff_ne.mpr c11
           have H' := Aside0.mk H
           clear H
           have p456 : 0 ≤ (x13_1 : Int) := of_decide_eq_true (by first | (with_reducible assumption) | assumption)
           have q456 : x13_1 < (l0.length : Int) := of_decide_eq_true (by first | (with_reducible assumption) | assumption)
           obtain ⟨ad456, e456, hx456_0⟩ := Kd.at_int HR0.out x13_1 p456 q456
           cases e456
           replace p456 := eq_true p456
           replace q456 := eq_true q456
           have p457 : 0 ≤ ((ji8) : Int) := of_decide_eq_true (by first | (with_reducible assumption) | assumption)
           have q457 : (ji8) < (l0.length : Int) := of_decide_eq_true (by first | (with_reducible assumption) | assumption)
           obtain ⟨ad457, e457, hx457_0⟩ := Kd.at_int HR0.out (ji8) p457 q457
           obtain rfl : ad456 = ad457 := (by injection e457)
           replace p457 := eq_true p457
           replace q457 := eq_true q457
           go_wp2
           go_roundg k1
           case measure => have := HK1.out; omega
           case rel => exact ⟨(wrap64 (Int.tdiv (wrap64 (x4_1 * (wrap64 (x13_1 + 1)))) 1)), (1), (wrap64 (x13_1 + 1)), (by first | rfl | (simp; done) | (simp [*]; done)), (by first | rfl | (simp; done) | (simp [*]; done)), (by first | rfl | (simp; done) | (simp [*]; done)), H', ⟨by have := HK1.out; omega⟩, by repeat (first | exact Drawn0.refl _ | apply Drawn0.step)⟩
         ·rw [if_neg c10] at H
          exact absurd H (by simp)
        ·rw [if_neg c9] at H
         exact absurd H (by simp)
       ·rw [if_neg c7] at H
        have c7b0 := decide_eq_false c7
        clear c7
        have H' := Aside0.mk H
        clear H
        have p456 : 0 ≤ (x13_1 : Int) := of_decide_eq_true (by first | (with_reducible assumption) | assumption)
        have q456 : x13_1 < (l0.length : Int) := of_decide_eq_true (by first | (with_reducible assumption) | assumption)
        obtain ⟨ad456, e456, hx456_0⟩ := Kd.at_int HR0.out x13_1 p456 q456
        cases e456
        replace p456 := eq_true p456
        replace q456 := eq_true q456
        go_wp2
        go_roundg k1
        case measure => have := HK1.out; omega
        case rel => exact ⟨(wrap64 (Int.tdiv (wrap64 (x4_1 * (wrap64 (x13_1 + 1)))) 1)), (1), (wrap64 (x13_1 + 1)), (by first | rfl | (simp; done) | (simp [*]; done)), (by first | rfl | (simp; done) | (simp [*]; done)), (by first | rfl | (simp; done) | (simp [*]; done)), H', ⟨by have := HK1.out; omega⟩, by repeat (first | exact Drawn0.refl _ | apply Drawn0.step)⟩
      ·rw [if_neg c6] at H
       exact absurd H (by simp)
     ·rw [if_neg c5] at H
      exact absurd H (by simp)
    ·rw [if_neg c4] at H
     have c4b0 := decide_eq_false c4
     clear c4
     simp only [Option.some.injEq, Prod.mk.injEq] at H
     obtain ⟨rfl, rfl⟩ := H
     go_wp2
     go_ret2
     exact ⟨by first | rfl | (simp; done) | (simp [*]; done), by repeat (first | exact Drawn0.refl _ | apply Drawn0.step)⟩
 ·replace c3 := Bool.eq_false_iff.mpr c3
  subst c3
  rw [if_neg (show ¬ (false = true) by decide)] at H
  simp only [Option.some.injEq, Prod.mk.injEq] at H
  obtain ⟨rfl, rfl⟩ := H
  go_enter Tryz.func35, Tryz.ntmps35
  go_wp2_with (first | ((with_reducible refine gate_callee (f := 71) rfl ?_); refine gcW 9 Tryz.func71 #[.slice A0 l0.length c0] rfl ?_; (with_reducible refine (impl_areHeights.calls k _ _ l0 false _ ?side1 ?side2 A2.out).mono ?_); (case side1 => exact cbW HR0.out); (case side2 => exact HC0.out); rintro e w' ⟨rfl, ⟨nd, rfl⟩⟩; refine ⟨_, rfl, ?_⟩))
  go_ret2
  exact ⟨by first | rfl | (simp; done) | (simp [*]; done), by repeat (first | exact Drawn0.refl _ | apply Drawn0.step)⟩

/-! ### spec_CountLabels: function 36 -/
def spec_CountLabels.l0 : Nat → List Int → Int → Int → List Int → Int → Int → Option (Int × Bool)
 | 0, _, _, _, _, _, _ => none
 | k + 1, x0, x4, x5, x11, x12, x13 => if x13 < x12 then (if 0 ≤ x13 then (if x13 < (x11.length : Int) then (if x13 > 0 then (if 0 ≤ (wrap64 (x13 - 1)) then (if (wrap64 (x13 - 1)) < (x0.length : Int) then (if (rd x11 x13) = (wrap64 ((rd x0 (wrap64 (x13 - 1))) + 1)) then (if (wrap64 (x5 + 1)) = 0 then (none) else (spec_CountLabels.l0 k x0 (wrap64 (Int.tdiv (wrap64 (x4 * (wrap64 (x13 + 1)))) (wrap64 (x5 + 1)))) (wrap64 (x5 + 1)) x11 x12 (wrap64 (x13 + 1)))) else (spec_CountLabels.l0 k x0 (wrap64 (Int.tdiv (wrap64 (x4 * (wrap64 (x13 + 1)))) 1)) 1 x11 x12 (wrap64 (x13 + 1)))) else (none)) else (none)) else (if (wrap64 (x5 + 1)) = 0 then (none) else (spec_CountLabels.l0 k x0 (wrap64 (Int.tdiv (wrap64 (x4 * (wrap64 (x13 + 1)))) (wrap64 (x5 + 1)))) (wrap64 (x5 + 1)) x11 x12 (wrap64 (x13 + 1))))) else (none)) else (none)) else (some (x4, true))
def spec_CountLabels.f (k : Nat) (l0 : List Int) : Option (Int × Bool) := (spec_waHeights.f k l0).bind fun t458 => (if t458 = true then (spec_CountLabels.l0 k l0 1 0 l0 (l0.length : Int) 0) else (some (0, false)))
theorem spec_CountLabels.mono_l : ∀ k, (∀ y0 y1 y2 y3 y4 y5, LeO (spec_CountLabels.l0 k y0 y1 y2 y3 y4 y5) (spec_CountLabels.l0 (k + 1) y0 y1 y2 y3 y4 y5))
 | 0 => fun _ _ _ _ _ _ r h => by simp [spec_CountLabels.l0] at h
 | k + 1 => by
  have ih0 := spec_CountLabels.mono_l k
  ·intro y0 y1 y2 y3 y4 y5
   unfold spec_CountLabels.l0
   repeat' first | (with_reducible first | exact ih0 _ _ _ _ _ _ | exact spec_waHeights.mono _ _ | exact LeO.refl _ | exact LeO.none _ | refine LeO.ite ?_ ?_ | refine LeO.bind ?_ (fun _ => ?_)) | exact LeO.none _ | refine LeO.ite ?_ ?_ | refine LeO.bind ?_ (fun _ => ?_)
theorem spec_CountLabels.mono : ∀ a0 k, LeO (spec_CountLabels.f k a0) (spec_CountLabels.f (k + 1) a0) := by
 intro a0 k
 have ih0 := spec_CountLabels.mono_l k
 unfold spec_CountLabels.f
 repeat' first | (with_reducible first | exact ih0 _ _ _ _ _ _ | exact spec_waHeights.mono _ _ | exact LeO.refl _ | exact LeO.none _ | refine LeO.ite ?_ ?_ | refine LeO.bind ?_ (fun _ => ?_)) | exact LeO.none _ | refine LeO.ite ?_ ?_ | refine LeO.bind ?_ (fun _ => ?_)
set_option maxHeartbeats 8000000 in
set_option maxRecDepth 100000 in
theorem spec_CountLabels.calls (k : Nat) (A0 : Option Addr) (c0 : Nat) (l0 : List Int) (r1 : Int) (r2 : Bool) (w : World) (hr0 : Kd.C (Kd.int .i64) w A0 l0.length l0) (hc0 : l0.length ≤ c0) (h : spec_CountLabels.f k l0 = some (r1, r2)) :
  Calls Tryz.prog 36 #[.slice A0 l0.length c0] w fun e w' => e = .returned (.tuple #[.int .i64 r1, .bool r2]) ∧ Drawn0 w w' := by
 have HR0 := Aside0.mk hr0
 have HC0 := Aside0.mk hc0
 clear hr0 hc0
 have H : ((spec_waHeights.f k l0).bind fun t458 => (if t458 = true then (spec_CountLabels.l0 k l0 1 0 l0 (l0.length : Int) 0) else (some (0, false)))) = some (r1, r2) := h
 clear h
 replace H := Option.bind_eq_some_iff.mp H
 obtain ⟨t458, A20, H⟩ := H
 (try dsimp -simprocs only at H)
 have A2 := Aside0.mk A20
 clear A20
 by_cases c3 : t458 = true
 ·subst c3
  rw [if_pos rfl] at H
  have H' := Aside0.mk H
  clear H
  go_enter Tryz.func36, Tryz.ntmps36
  go_wp2_with (first | ((with_reducible refine gate_callee (f := 72) rfl ?_); refine gcW 9 Tryz.func72 #[.slice A0 l0.length c0] rfl ?_; (with_reducible refine (spec_waHeights.calls k _ _ l0 true _ ?side1 ?side2 A2.out).mono ?_); (case side1 => exact cbW HR0.out); (case side2 => exact HC0.out); rintro e w' ⟨rfl, ⟨nd, rfl⟩⟩; refine ⟨_, rfl, ?_⟩))
  go_loopg [4, 5, 13] k (fun kq v4 v5 v13 w' => ∃ (x4_1 : Int) (x5_1 : Int) (x13_1 : Int), v4 = .int .i64 x4_1 ∧ v5 = .int .i64 x5_1 ∧ v13 = .int .i64 x13_1 ∧ Aside0 (spec_CountLabels.l0 kq l0 x4_1 x5_1 l0 (l0.length : Int) x13_1 = some (r1, r2)) ∧ Aside0 (kq ≤ k) ∧ Drawn0 w w')
  case atStart => exact ⟨(1), (0), (0), (by first | rfl | (simp; done) | (simp [*]; done)), (by first | rfl | (simp; done) | (simp [*]; done)), (by first | rfl | (simp; done) | (simp [*]; done)), H', ⟨Nat.le_refl _⟩, by repeat (first | exact Drawn0.refl _ | apply Drawn0.step)⟩
  case round =>
   clear H'
   try clear p2
   try clear c3
   obtain ⟨x4_1, x5_1, x13_1, rfl, rfl, rfl, HA, HK1, ⟨m1, rfl⟩⟩ := hrel
   cases gk with
   | zero => exact absurd HA.out (by simp [spec_CountLabels.l0])
   | succ k1 =>
    have H := HA.out
    clear HA
    simp only [spec_CountLabels.l0] at H
    by_cases c4 : x13_1 < (l0.length : Int)
    ·rw [if_pos c4] at H
     have c4b0 := decide_eq_true c4
     clear c4
     by_cases c5 : 0 ≤ x13_1
     ·rw [if_pos c5] at H
      have c5b0 := decide_eq_true c5
      clear c5
      by_cases c6 : x13_1 < (l0.length : Int)
      ·rw [if_pos c6] at H
       have c6b0 := decide_eq_true c6
       clear c6
       by_cases c7 : x13_1 > 0
       ·rw [if_pos c7] at H
        have c7b0 := decide_eq_true c7
        clear c7
        obtain ⟨ji8, hji8⟩ : ∃ j_ : Int, (wrap64 (x13_1 - 1)) = j_ := ⟨_, rfl⟩
        replace H : (if 0 ≤ (ji8) then (if (ji8) < (l0.length : Int) then (if (rd l0 x13_1) = (wrap64 ((rd l0 (ji8)) + 1)) then (if (wrap64 (x5_1 + 1)) = 0 then (none) else (spec_CountLabels.l0 k1 l0 (wrap64 (Int.tdiv (wrap64 (x4_1 * (wrap64 (x13_1 + 1)))) (wrap64 (x5_1 + 1)))) (wrap64 (x5_1 + 1)) l0 (l0.length : Int) (wrap64 (x13_1 + 1)))) else (spec_CountLabels.l0 k1 l0 (wrap64 (Int.tdiv (wrap64 (x4_1 * (wrap64 (x13_1 + 1)))) 1)) 1 l0 (l0.length : Int) (wrap64 (x13_1 + 1)))) else (none)) else (none)) = some (r1, r2) := by first | (rw [hji8] at H; exact H) | (simp only [hji8] at H ⊢; exact H)
        have hji8w : (IntKind.i64.wrap (x13_1 - 1)) = ji8 := (i64_w _).trans hji8
        by_cases c9 : 0 ≤ (ji8)
        ·rw [if_pos c9] at H
         have c9b0 := decide_eq_true c9
         clear c9
         by_cases c10 : (ji8) < (l0.length : Int)
         ·rw [if_pos c10] at H
          have c10b0 := decide_eq_true c10
          clear c10
          by_cases c11 : (rd l0 x13_1) = (wrap64 ((rd l0 (ji8)) + 1))
          ·rw [if_pos c11] at H
           have c11b0 : ((rd l0 x13_1) == (wrap64 ((rd l0 (ji8)) + 1))) = true := beq_iff_eq.mpr c11
           have c11b1 : ((rd l0 x13_1) != (wrap64 ((rd l0 (ji8)) + 1))) = false := bne_eq_false_iff_eq.mpr c11
           clear c11
           by_cases c12 : (wrap64 (x5_1 + 1)) = 0
           ·rw [if_pos c12] at H
            exact absurd H (by simp)
           ·rw [if_neg c12] at H
            have c12b0 : ((wrap64 (x5_1 + 1)) == 0) = false := beq_eq_false_iff_ne.mpr c12
            have c12b1 : ((wrap64 (x5_1 + 1)) != 0) = true := bne_iff_ne.mpr c12
            have H' := Aside0.mk H
            clear H
            have p459 : 0 ≤ (x13_1 : Int) := of_decide_eq_true (by first | (with_reducible assumption) | assumption)
            have q459 : x13_1 < (l0.length : Int) := of_decide_eq_true (by first | (with_reducible assumption) | assumption)
            obtain ⟨ad459, e459, hx459_0⟩ := Kd.at_int HR0.out x13_1 p459 q459
            cases e459
            replace p459 := eq_true p459
            replace q459 := eq_true q459
            have p460 : 0 ≤ ((ji8) : Int) := of_decide_eq_true (by first | (with_reducible assumption) | assumption)
            have q460 : (ji8) < (l0.length : Int) := of_decide_eq_true (by first | (with_reducible assumption) | assumption)
            obtain ⟨ad460, e460, hx460_0⟩ := Kd.at_int HR0.out (ji8) p460 q460
            obtain rfl : ad459 = ad460 := (by injection e460)
            replace p460 := eq_true p460
            replace q460 := eq_true q460
            go_wp2
            go_roundg k1
            case measure => have := HK1.out; omega
            case rel => exact ⟨(wrap64 (Int.tdiv (wrap64 (x4_1 * (wrap64 (x13_1 + 1)))) (wrap64 (x5_1 + 1)))), (wrap64 (x5_1 + 1)), (wrap64 (x13_1 + 1)), (by first | rfl | (simp; done) | (simp [*]; done)), (by first | rfl | (simp; done) | (simp [*]; done)), (by first | rfl | (simp; done) | (simp [*]; done)), H', ⟨by have := HK1.out; omega⟩, by repeat (first | exact Drawn0.refl _ | apply Drawn0.step)⟩
          ·rw [if_neg c11] at H
           have c11b0 : ((rd l0 x13_1) == (wrap64 ((rd l0 (ji8)) + 1))) = false := beq_eq_false_iff_ne.mpr c11
           have c11b1 : ((rd l0 x13_1) != (wrap64 ((rd l0 (ji8)) + 1))) = true := bne_iff_ne.mpr c11
           have H' := Aside0.mk H
           clear H
           have p459 : 0 ≤ (x13_1 : Int) := of_decide_eq_true (by first | (with_reducible assumption) | assumption)
           have q459 : x13_1 < (l0.length : Int) := of_decide_eq_true (by first | (with_reducible assumption) | assumption)
           obtain ⟨ad459, e459, hx459_0⟩ := Kd.at_int HR0.out x13_1 p459 q459
           cases e459
           replace p459 := eq_true p459
           replace q459 := eq_true q459
           have p460 : 0 ≤ ((ji8) : Int) := of_decide_eq_true (by first | (with_reducible assumption) | assumption)
           have q460 : (ji8) < (l0.length : Int) := of_decide_eq_true (by first | (with_reducible assumption) | assumption)
           obtain ⟨ad460, e460, hx460_0⟩ := Kd.at_int HR0.out (ji8) p460 q460
           obtain rfl : ad459 = ad460 := (by injection e460)
           replace p460 := eq_true p460
           replace q460 := eq_true q460
           go_wp2
           go_roundg k1
           case measure => have := HK1.out; omega
           case rel => exact ⟨(wrap64 (Int.tdiv (wrap64 (x4_1 * (wrap64 (x13_1 + 1)))) 1)), (1), (wrap64 (x13_1 + 1)), (by first | rfl | (simp; done) | (simp [*]; done)), (by first | rfl | (simp; done) | (simp [*]; done)), (by first | rfl | (simp; done) | (simp [*]; done)), H', ⟨by have := HK1.out; omega⟩, by repeat (first | exact Drawn0.refl _ | apply Drawn0.step)⟩
         ·rw [if_neg c10] at H
          exact absurd H (by simp)
        ·rw [if_neg c9] at H
         exact absurd H (by simp)
       ·rw [if_neg c7] at H
        have c7b0 := decide_eq_false c7
        clear c7
        by_cases c13 : (wrap64 (x5_1 + 1)) = 0
        ·rw [if_pos c13] at H
         exact absurd H (by simp)
        ·rw [if_neg c13] at H
         have c13b0 : ((wrap64 (x5_1 + 1)) == 0) = false := beq_eq_false_iff_ne.mpr c13
         have c13b1 : ((wrap64 (x5_1 + 1)) != 0) = true := bne_iff_ne.mpr c13
         have H' := Aside0.mk H
         clear H
         have p459 : 0 ≤ (x13_1 : Int) := of_decide_eq_true (by first | (with_reducible assumption) | assumption)
         have q459 : x13_1 < (l0.length : Int) := of_decide_eq_true (by first | (with_reducible assumption) | assumption)
         obtain ⟨ad459, e459, hx459_0⟩ := Kd.at_int HR0.out x13_1 p459 q459
         cases e459
         replace p459 := eq_true p459
         replace q459 := eq_true q459
         go_wp2
         go_roundg k1
         case measure => have := HK1.out; omega
         case rel => exact ⟨(wrap64 (Int.tdiv (wrap64 (x4_1 * (wrap64 (x13_1 + 1)))) (wrap64 (x5_1 + 1)))), (wrap64 (x5_1 + 1)), (wrap64 (x13_1 + 1)), (by first | rfl | (simp; done) | (simp [*]; done)), (by first | rfl | (simp; done) | (simp [*]; done)), (by first | rfl | (simp; done) | (simp [*]; done)), H', ⟨by have := HK1.out; omega⟩, by repeat (first | exact Drawn0.refl _ | apply Drawn0.step)⟩
      ·rw [if_neg c6] at H
       exact absurd H (by simp)
     ·rw [if_neg c5] at H
      exact absurd H (by simp)
    ·rw [if_neg c4] at H
     have c4b0 := decide_eq_false c4
     clear c4
     simp only [Option.some.injEq, Prod.mk.injEq] at H
     obtain ⟨rfl, rfl⟩ := H
     go_wp2
     go_ret2
     exact ⟨by first | rfl | (simp; done) | (simp [*]; done), by repeat (first | exact Drawn0.refl _ | apply Drawn0.step)⟩
 ·replace c3 := Bool.eq_false_iff.mpr c3
  subst c3
  rw [if_neg (show ¬ (false = true) by decide)] at H
  simp only [Option.some.injEq, Prod.mk.injEq] at H
  obtain ⟨rfl, rfl⟩ := H
  go_enter Tryz.func36, Tryz.ntmps36
  go_wp2_with (first | ((with_reducible refine gate_callee (f := 72) rfl ?_); refine gcW 9 Tryz.func72 #[.slice A0 l0.length c0] rfl ?_; (with_reducible refine (spec_waHeights.calls k _ _ l0 false _ ?side1 ?side2 A2.out).mono ?_); (case side1 => exact cbW HR0.out); (case side2 => exact HC0.out); rintro e w' ⟨rfl, ⟨nd, rfl⟩⟩; refine ⟨_, rfl, ?_⟩))
  go_ret2
  exact ⟨by first | rfl | (simp; done) | (simp [*]; done), by repeat (first | exact Drawn0.refl _ | apply Drawn0.step)⟩

/-! ### slices_Clone_int_int: function 61 -/
def slices_Clone_int_int.f (l0 : List Int) : Option (List Int) := (some (([] : List Int) : List Int)).bind fun y461 => (if y461.length + l0.length < 17592186044416 then (some (y461 ++ l0)) else (none))
set_option maxHeartbeats 8000000 in
set_option maxRecDepth 100000 in
theorem slices_Clone_int_int.calls_some (ad0 : Addr) (c0 : Nat) (l0 : List Int) (r : List Int) (w : World) (hr0 : Kd.C (Kd.int .i64) w (some ad0) l0.length l0) (hc0 : l0.length ≤ c0) (h : slices_Clone_int_int.f l0 = some r) :
    Calls Tryz.prog 61 #[.slice (some ad0) l0.length c0] w fun e w' => ∃ v0_ : Value, e = .returned (v0_) ∧ Kd.R (Kd.int .i64) 3 w' w.heap.size (fun _ => True) v0_ r ∧ Below w.heap.size w w' := by
  have HR0 := Aside0.mk hr0
  have HC0 := Aside0.mk hc0
  clear hr0 hc0
  have HB := Aside0.mk (Below.refl w.heap.size w)
  have H : ((some (([] : List Int) : List Int)).bind fun y461 => (if y461.length + l0.length < 17592186044416 then (some (y461 ++ l0)) else (none))) = some r := h
  clear h
  obtain ⟨y461, hy461⟩ : ∃ y_ : List Int, y_ = (([] : List Int)) := ⟨_, rfl⟩
  replace H : (if y461.length + l0.length < 17592186044416 then (some (y461 ++ l0)) else (none)) = some r := by first | (rw [hy461]; with_reducible exact H) | (have H2_ := (Option.bind_some _ _).symm.trans H; rw [hy461]; with_reducible exact H2_) | (have H2_ := (Option.bind_some _ _).symm.trans H; with_reducible exact H2_) | with_reducible exact H | (rw [hy461]; exact H) | exact H
  have Ny461 := Aside0.mk hy461
  clear hy461
  by_cases c2 : y461.length + l0.length < 17592186044416
  · rw [if_pos c2] at H
    have LMc2 := Aside0.mk c2
    clear c2
    obtain ⟨y464, hy464⟩ : ∃ y_ : List Int, y_ = (y461 ++ l0) := ⟨_, rfl⟩
    replace H : (some y464) = some r := by first | (rw [hy464]; with_reducible exact H) | (have H2_ := (Option.bind_some _ _).symm.trans H; rw [hy464]; with_reducible exact H2_) | (have H2_ := (Option.bind_some _ _).symm.trans H; with_reducible exact H2_) | with_reducible exact H | (rw [hy464]; exact H) | exact H
    have Ny464 := Aside0.mk hy464
    clear hy464
    obtain rfl := Option.some.inj H
    have heq := fun (w_ : World) (n_ c_ : Nat) => Lib.run_eql_slice_nil (P := Tryz.prog) w_ 22 3 (some ad0) n_ c_ 0 0 Tryz.underlying22
    go_enter Tryz.func61, Tryz.ntmps61
    go_wp2_with (first | ((with_reducible refine gate_dst (N := 5) rfl ?_); refine Kd.R_lit (Kd.int .i64) _ 3 ?hg (N := 5) ?hd (xs := ([] : List Int)) (inner := []) (ok := fun _ => True) (okp := fun _ => True) ?hr ?hp (fun _ hk => hk) trivial (Below.refl _ _) (Nat.le_refl _) (by simp) ?_; (case hd => rfl); (case hg => rfl); (case hr => first | (go_simp; done) | (go_simp; rfl)); (case hp => exact (Reps.none _ _)); intro v462 w3 ho4 hb hg_ hnew_; clear hg_ hnew_; (first | rw [← Ny461.out] at ho4 | (simp only [Int.reduceToNat] at ho4; rw [← Ny461.out] at ho4)); have n0_ := Aside0.mk (Kd.R_lower ho4 (below_size (nbW HB.out))); have n1_ := Aside0.mk (below_step (nbW HB.out) hb); clear HB; have HO463 := n0_; have HB := n1_; clear n0_ n1_; clear hb ho4) | ((with_reducible refine gate_builtin (b := .append) (xs := #[.tmp 5, .tmp 6]) rfl ?_); at_builtin; refine Kd.R_append_rows (Kd.int .i64) (w0 := w) w.heap.size rfl (.tmp 5) (.tmp 6) 22 3 (.int .i64 0) 8 rfl Tryz.underlying22 info3 rfl (by decide) (by omega) v462 y461 l0 _ _ _ (fun _ => True) (fun _ => False) rfl rfl ?aO ?aR (fun _ _ h => h) (fun _ h => h.elim) ?aF ?aB ?aS ?aL ?_; (case aR => exact cbW (Kd.C_below HR0.out HB.out)); (case aB => exact (nbW HB.out)); (case aF => exact (fun _ _ => trivial)); (case aO => exact (rbW HO463.out)); (case aS => exact (below_size (nbW HB.out))); (case aL => have := LMc2.out; omega); intro v465 w5 ho hb hg hat; rw [← Ny464.out] at ho; have n0_ := Aside0.mk (hb); have n1_ := Aside0.mk (ho); clear HB; clear HO463; have HB := n0_; have HO466 := n1_; clear n0_ n1_; clear ho hb hg hat))
    go_ret
    exact ⟨_, by first | rfl | (simp [errW_none, errW_some] <;> rfl) | (simp [*, errW_none, errW_some] <;> rfl), by apply rbW; exact HO466.out, nbW HB.out⟩
  · rw [if_neg c2] at H
    exact absurd H (by simp)

set_option maxHeartbeats 8000000 in
set_option maxRecDepth 100000 in
theorem slices_Clone_int_int.calls (A0 : Option Addr) (c0 : Nat) (l0 : List Int) (r : List Int) (w : World) (hr0 : Kd.C (Kd.int .i64) w A0 l0.length l0) (hc0 : l0.length ≤ c0) (h : slices_Clone_int_int.f l0 = some r) :
    Calls Tryz.prog 61 #[.slice A0 l0.length c0] w fun e w' => ∃ v0_ : Value, e = .returned (v0_) ∧ Kd.R (Kd.int .i64) 3 w' w.heap.size (fun _ => True) v0_ r ∧ Below w.heap.size w w' := by
  cases A0 with
  | some ad0 => exact slices_Clone_int_int.calls_some ad0 c0 l0 r w hr0 hc0 h
  | none =>
    have hl : l0 = [] := by
      have h3 := hr0.2.2
      rcases Nat.eq_zero_or_pos l0.length with e | e
      · exact List.length_eq_zero_iff.1 e
      · obtain ⟨ad, e2, _⟩ := h3 e
        cases e2
    subst hl
    have hr : r = [] := by
      unfold slices_Clone_int_int.f at h
      simp only [Option.bind_some] at h
      split at h
      · simpa using h.symm
      · cases h
    subst hr
    clear h hr0 hc0
    have heq := fun (w_ : World) (n_ c_ : Nat) => Lib.run_eql_slice_nil (P := Tryz.prog) w_ 22 3 none n_ c_ 0 0 Tryz.underlying22
    go_enter Tryz.func61, Tryz.ntmps61
    go_wp2
    go_ret
    exact ⟨_, rfl, Kd.R_nil _ _ _ _ _, Below.refl _ _⟩

/-! ### impl_FirstLabels: function 37 -/
def impl_FirstLabels.l0 : Nat → Int → Int → List Int → List Int → Option (List Int × List Int × Bool)
 | 0, _, _, _, _ => none
 | k + 1, x14, x15, x473000, x473001 => if x15 < x14 then (if x473001.length < 17592186044416 then (impl_FirstLabels.l0 k x14 (wrap64 (x15 + 1)) x473000 (x473001 ++ [x15])) else (none)) else (some (x473000, x473001, true))
def impl_FirstLabels.f (k : Nat) (l0 : List Int) : Option (List Int × List Int × Bool) := (impl_areHeights.f k l0).bind fun t468 => (if t468 = true then ((slices_Clone_int_int.f l0).bind fun t469 => (impl_FirstLabels.l0 k (l0.length : Int) 0 t469 ([] : List Int))) else (some (([] : List Int), ([] : List Int), false)))
theorem impl_FirstLabels.mono_l : ∀ k, (∀ y0 y1 y2 y3, LeO (impl_FirstLabels.l0 k y0 y1 y2 y3) (impl_FirstLabels.l0 (k + 1) y0 y1 y2 y3))
 | 0 => fun _ _ _ _ r h => by simp [impl_FirstLabels.l0] at h
 | k + 1 => by
  have ih0 := impl_FirstLabels.mono_l k
  ·intro y0 y1 y2 y3
   unfold impl_FirstLabels.l0
   repeat' first | (with_reducible first | exact ih0 _ _ _ _ | exact impl_areHeights.mono _ _ | exact LeO.refl _ | exact LeO.none _ | refine LeO.ite ?_ ?_ | refine LeO.bind ?_ (fun _ => ?_)) | exact LeO.none _ | refine LeO.ite ?_ ?_ | refine LeO.bind ?_ (fun _ => ?_)
theorem impl_FirstLabels.mono : ∀ a0 k, LeO (impl_FirstLabels.f k a0) (impl_FirstLabels.f (k + 1) a0) := by
 intro a0 k
 have ih0 := impl_FirstLabels.mono_l k
 unfold impl_FirstLabels.f
 repeat' first | (with_reducible first | exact ih0 _ _ _ _ | exact impl_areHeights.mono _ _ | exact LeO.refl _ | exact LeO.none _ | refine LeO.ite ?_ ?_ | refine LeO.bind ?_ (fun _ => ?_)) | exact LeO.none _ | refine LeO.ite ?_ ?_ | refine LeO.bind ?_ (fun _ => ?_)
set_option maxHeartbeats 8000000 in
set_option maxRecDepth 100000 in
theorem impl_FirstLabels.calls (k : Nat) (A0 : Option Addr) (c0 : Nat) (l0 : List Int) (r1 : List Int) (r2 : List Int) (r3 : Bool) (w : World) (hr0 : Kd.C (Kd.int .i64) w A0 l0.length l0) (hc0 : l0.length ≤ c0) (h : impl_FirstLabels.f k l0 = some (r1, r2, r3)) :
  Calls Tryz.prog 37 #[.slice A0 l0.length c0] w fun e w' => ∃ v0_ v1_ : Value, e = .returned (.tuple #[.agg #[v0_, v1_], .bool r3]) ∧ Kd.R (Kd.int .i64) 3 w' w.heap.size (fun k_ => some k_ ≠ (v1_ : Value).ownBlock) v0_ r1 ∧ Kd.R (Kd.int .i64) 3 w' w.heap.size (fun k_ => some k_ ≠ (v0_ : Value).ownBlock) v1_ r2 ∧ Below w.heap.size w w' := by
 have hu24 := Tryz.underlying24
 have HR0 := Aside0.mk hr0
 have HC0 := Aside0.mk hc0
 clear hr0 hc0
 have HB := Aside0.mk (Below.refl w.heap.size w)
 have H : ((impl_areHeights.f k l0).bind fun t468 => (if t468 = true then ((slices_Clone_int_int.f l0).bind fun t469 => (impl_FirstLabels.l0 k (l0.length : Int) 0 t469 ([] : List Int))) else (some (([] : List Int), ([] : List Int), false)))) = some (r1, r2, r3) := h
 clear h
 replace H := Option.bind_eq_some_iff.mp H
 obtain ⟨t468, A20, H⟩ := H
 (try dsimp -simprocs only at H)
 have A2 := Aside0.mk A20
 clear A20
 by_cases c3 : t468 = true
 ·subst c3
  rw [if_pos rfl] at H
  replace H := Option.bind_eq_some_iff.mp H
  obtain ⟨t469, A40, H⟩ := H
  (try dsimp -simprocs only at H)
  have A4 := Aside0.mk A40
  clear A40
  have H' := Aside0.mk H
  clear H
  go_enter Tryz.func37, Tryz.ntmps37
  go_wp2_with (first | ((with_reducible refine gate_dst (N := 2) rfl ?_); refine box_event ?hg (N := 2) ?hd (cs := #[.slice none 0 0, .slice none 0 0]) (t := 24) ?hr ?_; (case hd => rfl); (case hg => rfl); (case hr => first | (go_simp; done) | (go_simp; rfl)); intro gb467 hg w5 hbox hb; have n0_ := Aside0.mk (below_step (nbW HB.out) hb); have n1_ := Aside0.mk (hbox); have n2_ := Aside0.mk ((by rw [hg]; exact (below_size (nbW HB.out)) : w.heap.size ≤ gb467)); have n3_ := Aside0.mk ((by rw [hg]; exact (below_size (nbW HB.out)) : w.heap.size ≤ gb467)); clear HB; have HB := n0_; have BK467 := n1_; have GW467 := n2_; have GE467 := n3_; clear n0_ n1_ n2_ n3_; clear hb hbox hg) | ((with_reducible refine gate_callee (f := 71) rfl ?_); refine gcW 7 Tryz.func71 #[.slice A0 l0.length c0] rfl ?_; (with_reducible refine (impl_areHeights.calls k _ _ l0 true _ ?side1 ?side2 A2.out).mono ?_); (case side1 => exact cbW (Kd.C_below HR0.out HB.out)); (case side2 => exact HC0.out); rintro e w' ⟨rfl, ⟨nd, rfl⟩⟩; refine ⟨_, rfl, ?_⟩; (try (rw [drewN_self w5]; generalize hq_ : World.drewN w5 _ = w5; have n0_ : Aside0 (w5.heap[gb467]? = some (.cells #[.slice none 0 0, .slice none 0 0] 24 (0, 0))) := ⟨by rw [← hq_]; exact (kbW BK467.out)⟩; have n1_ : Aside0 (Below w.heap.size w w5) := ⟨by rw [← hq_]; exact (by repeat (first | exact nbW HB.out | refine nbW (below_set ?_ GE467.out)))⟩; clear BK467 HB hq_; have BK467 := n0_; have HB := n1_; clear n0_ n1_))) | ((with_reducible refine gate_callee (f := 61) rfl ?_); refine gcW 11 Tryz.func61 #[.slice A0 l0.length c0] rfl ?_; (with_reducible refine (slices_Clone_int_int.calls _ _ l0 t469 _ ?side1 ?side2 A4.out).mono ?_); (case side1 => exact cbW (Kd.C_below HR0.out HB.out)); (case side2 => exact HC0.out); rintro e w6 ⟨v470, rfl, ho0, hb⟩; refine ⟨_, rfl, ?_⟩; have n0_ := Aside0.mk (Kd.R_lower ho0 (below_size (by repeat (first | exact nbW HB.out | refine nbW (below_set ?_ GE467.out))))); have n1_ := Aside0.mk (blk_below (kbW BK467.out) hb); have n2_ := Aside0.mk (below_step (by repeat (first | exact nbW HB.out | refine nbW (below_set ?_ GE467.out))) hb); clear BK467; clear HB; have HO471 := n0_; have BK467 := n1_; have HB := n2_; clear n0_ n1_ n2_; (try clear hb); (try clear hb2); (try clear hk); (try clear hi); (try clear ho0); obtain ⟨Ao7, co7, eo7⟩ := Kd.R_slice HO471.out; subst eo7) | ((with_reducible refine gate_dst (N := 4) rfl ?_); refine box_event ?hg (N := 4) ?hd (cs := #[.slice none 0 0, .slice none 0 0]) (t := 24) ?hr ?_; (case hd => rfl); (case hg => rfl); (case hr => first | (go_simp; done) | (go_simp; rfl)); intro gb472 hg w8 hbox hb; have n0_ := Aside0.mk (Kd.R_below (rbW HO471.out) hb); have n1_ := Aside0.mk (blk_below (kbW BK467.out) hb); have n2_ := Aside0.mk (below_step (by repeat (first | exact nbW HB.out | refine nbW (below_set ?_ GE467.out))) hb); have n3_ := Aside0.mk (hbox); have n4_ := Aside0.mk ((by rw [hg]; exact (below_size (by repeat (first | exact nbW HB.out | refine nbW (below_set ?_ GE467.out)))) : w.heap.size ≤ gb472)); have n5_ := Aside0.mk ((by rw [hg]; exact (below_size (by repeat (first | exact nbW HB.out | refine nbW (below_set ?_ GE467.out)))) : w.heap.size ≤ gb472)); have n6_ := Aside0.mk ((by rw [hg]; exact Nat.ne_of_lt (blk_lt (g := gb467) (o := .cells #[.slice none 0 0, .slice none 0 0] 24 (0, 0)) (kbW BK467.out)) : gb467 ≠ gb472)); have n7_ := Aside0.mk ((by rw [hg]; exact Nat.ne_of_gt (blk_lt (g := gb467) (o := .cells #[.slice none 0 0, .slice none 0 0] 24 (0, 0)) (kbW BK467.out)) : gb472 ≠ gb467)); clear HO471; clear BK467; clear HB; have HO471 := n0_; have BK467 := n1_; have HB := n2_; have BK472 := n3_; have GW472 := n4_; have GE472 := n5_; have NB467_472 := n6_; have NB472_467 := n7_; clear n0_ n1_ n2_ n3_ n4_ n5_ n6_ n7_; clear hb hbox hg; have hnb9 := NB472_467.out; have hnc9 := NB467_472.out; have hcz10_0 : w8.cell? ⟨gb472, 0, none⟩ = some (.slice none 0 0) := (blk_cell BK472.out 0).trans rfl; have hcz10_1 : w8.cell? ⟨gb472, 1, none⟩ = some (.slice none 0 0) := (blk_cell BK472.out 1).trans rfl; have hfz10_0 := blk_frozen BK472.out 0; have hfz10_1 := blk_frozen BK472.out 1))
  go_loopg [15] k (fun kq v15 w' => ∃ (x15_1 : Int) (x473001_1 : List Int) (u473001 : Value), v15 = .int .i64 x15_1 ∧ Aside0 (impl_FirstLabels.l0 kq (l0.length : Int) x15_1 t469 x473001_1 = some (r1, r2, r3)) ∧ Aside0 (kq ≤ k) ∧ Aside0 (Kd.R (Kd.int .i64) 3 w' w.heap.size (fun k_ => some k_ ≠ (u473001 : Value).ownBlock) (.slice Ao7 t469.length co7) t469) ∧ Aside0 (Kd.R (Kd.int .i64) 3 w' w.heap.size (fun k_ => some k_ ≠ ((.slice Ao7 t469.length co7) : Value).ownBlock) u473001 x473001_1) ∧ Aside0 (w'.heap[gb467]? = some (.cells #[(.slice none 0 0), (.slice none 0 0)] 24 (0, 0))) ∧ Aside0 (w'.heap[gb472]? = some (.cells #[(.slice Ao7 t469.length co7), u473001] 24 (0, 0))) ∧ Aside0 (Below w.heap.size w w'))
  case atStart => exact ⟨(0), (([] : List Int)), (.slice none 0 0), (by first | rfl | (simp; done) | (simp [*]; done)), H', ⟨Nat.le_refl _⟩, ⟨by apply rbW; exact Kd.R_mono (Kd.R_far (p := ⟨gb472, 1, none⟩) (Kd.R_far (p := ⟨gb472, 0, none⟩) (Kd.R_types HO471.out BK472.out (by decide)) (fun _ hk => hk.2) (.slice Ao7 t469.length co7)) (fun _ hk => hk.2) (.slice none 0 0)) (fun _ hk => (by simp [Value.ownBlock]))⟩, ⟨by first | exact Kd.R_nil _ _ _ _ _ | exact Kd.N_nil _ _ _ _ _ | exact Kd.V_nil _ _ _ _ _ | exact Kd.Q_nil _ _ _ _ _ | exact Kd.S_nil _ _ _ _ _⟩, ⟨by apply kbW; refine blk_far ?_ NB467_472.out _; apply kbW; refine blk_far ?_ NB467_472.out _; apply kbW; exact BK467.out⟩, ⟨by apply kbW; refine blk_put (cs := #[.slice Ao7 t469.length co7, .slice none 0 0]) ?_ 1 _ rfl; apply kbW; refine blk_put (cs := #[.slice none 0 0, .slice none 0 0]) ?_ 0 _ rfl; apply kbW; exact BK472.out⟩, ⟨by repeat (first | exact nbW HB.out | refine nbW (below_set ?_ GE467.out) | refine nbW (below_set ?_ GE472.out))⟩⟩
  case round =>
   clear H'
   try clear p2
   try clear c3
   try clear c6
   try clear c7
   try clear c9
   try clear hcz10_0
   try clear hcz10_1
   try clear hfz10_0
   try clear hfz10_1
   obtain ⟨x15_1, x473001_1, u473001, rfl, HA, HK1, HO_473000, HO_473001, BK467, BK472, HB⟩ := hrel
   cases gk with
   | zero => exact absurd HA.out (by simp [impl_FirstLabels.l0])
   | succ k1 =>
    have H := HA.out
    clear HA
    simp only [impl_FirstLabels.l0] at H
    by_cases c11 : x15_1 < (l0.length : Int)
    ·rw [if_pos c11] at H
     have c11b0 := decide_eq_true c11
     clear c11
     by_cases c12 : x473001_1.length < 17592186044416
     ·rw [if_pos c12] at H
      have LMc12 := Aside0.mk c12
      clear c12
      obtain ⟨y473, hy473⟩ : ∃ y_ : List Int, y_ = (x473001_1 ++ [x15_1]) := ⟨_, rfl⟩
      replace H : (impl_FirstLabels.l0 k1 (l0.length : Int) (wrap64 (x15_1 + 1)) t469 y473) = some (r1, r2, r3) := by first | (rw [hy473]; with_reducible exact H) | (have H2_ := (Option.bind_some _ _).symm.trans H; rw [hy473]; with_reducible exact H2_) | (have H2_ := (Option.bind_some _ _).symm.trans H; with_reducible exact H2_) | with_reducible exact H | (rw [hy473]; exact H) | exact H
      have Ny473 := Aside0.mk hy473
      clear hy473
      have H' := Aside0.mk H
      clear H
      have hnb13 := NB472_467.out
      have hnc13 := NB467_472.out
      have hcz14_0 : wr.cell? ⟨gb472, 0, none⟩ = some (.slice Ao7 t469.length co7) := (blk_cell BK472.out 0).trans rfl
      have hcz14_1 : wr.cell? ⟨gb472, 1, none⟩ = some (u473001) := (blk_cell BK472.out 1).trans rfl
      have hfz14_0 := blk_frozen BK472.out 0
      have hfz14_1 := blk_frozen BK472.out 1
      go_wp2_with (first | ((with_reducible refine gate_builtin (b := .append) (xs := #[.tmp 19, .tmp 21]) rfl ?_); at_builtin; refine Kd.R_append (Kd.int .i64) (w0 := w) w.heap.size rfl (.tmp 19) (.tmp 21) 22 3 (.int .i64 0) 8 rfl Tryz.underlying22 info3 rfl (by decide) (by omega) u473001 x473001_1 x15_1 [.int .i64 x15_1] (fun k_ => some k_ ≠ (.slice Ao7 t469.length co7 : Value).ownBlock) (fun _ => False) rfl rfl ?aP (fun _ hk => hk.elim) ?aF ?aO ?aB ?aS ?aL ?_; (case aP => exact rfl); (case aB => exact (by repeat (first | exact nbW HB.out | refine nbW (below_set ?_ GE467.out) | refine nbW (below_set ?_ GE472.out)))); (case aF => exact (fun k_ hk => Kd.fresh' (Kd.R_lt (rbW HO_473000.out)) k_ hk)); (case aO => exact (rbW HO_473001.out)); (case aS => exact (below_size (by repeat (first | exact nbW HB.out | refine nbW (below_set ?_ GE467.out) | refine nbW (below_set ?_ GE472.out))))); (case aL => have := LMc12.out; omega); intro v474 w15 ho hb hg hat; rw [← Ny473.out] at ho; have n0_ := Aside0.mk (Kd.R_after (ok := (fun _ => True)) (by apply rbW; exact Kd.R_mono HO_473000.out (fun _ hk => ⟨trivial, hk⟩)) hg hat); have n1_ := Aside0.mk (blk_grown (g := gb467) (o := .cells #[.slice none 0 0, .slice none 0 0] 24 (0, 0)) (kbW BK467.out) hg (Kd.R_ne HO_473001.out BK467.out (by decide))); have n2_ := Aside0.mk (blk_grown (g := gb472) (o := .cells #[.slice Ao7 t469.length co7, u473001] 24 (0, 0)) (kbW BK472.out) hg (Kd.R_ne HO_473001.out BK472.out (by decide))); have n3_ := Aside0.mk (hb); have n4_ := Aside0.mk (ho); clear HO_473000; clear BK467; clear BK472; clear HB; clear HO_473001; have HO_473000 := n0_; have BK467 := n1_; have BK472 := n2_; have HB := n3_; have HO475 := n4_; clear n0_ n1_ n2_ n3_ n4_; clear ho hb hg hat; obtain ⟨Ao16, co16, eo16⟩ := Kd.R_slice HO475.out; subst eo16; have hcz17_0 : w15.cell? ⟨gb472, 0, none⟩ = some (.slice Ao7 t469.length co7) := (blk_cell BK472.out 0).trans rfl; have hcz17_1 : w15.cell? ⟨gb472, 1, none⟩ = some (u473001) := (blk_cell BK472.out 1).trans rfl; have hfz17_0 := blk_frozen BK472.out 0; have hfz17_1 := blk_frozen BK472.out 1))
      go_roundg k1
      case measure => have := HK1.out; omega
      case rel => exact ⟨(wrap64 (x15_1 + 1)), (y473), (.slice Ao16 y473.length co16), (by first | rfl | (simp; done) | (simp [*]; done)), H', ⟨by have := HK1.out; omega⟩, ⟨by apply rbW; exact Kd.R_mono (Kd.R_far (p := ⟨gb472, 1, none⟩) (Kd.R_types HO_473000.out BK472.out (by decide)) (fun _ hk => hk.2) (.slice Ao16 y473.length co16)) (fun _ hk => hk.1.2)⟩, ⟨by apply rbW; exact Kd.R_mono (Kd.R_far (p := ⟨gb472, 1, none⟩) (Kd.R_types HO475.out BK472.out (by decide)) (fun _ hk => hk.2) (.slice Ao16 y473.length co16)) (fun _ hk => hk.1)⟩, ⟨by apply kbW; refine blk_far ?_ NB467_472.out _; apply kbW; exact BK467.out⟩, ⟨by apply kbW; refine blk_put (cs := #[.slice Ao7 t469.length co7, u473001]) ?_ 1 _ rfl; apply kbW; exact BK472.out⟩, ⟨by repeat (first | exact nbW HB.out | refine nbW (below_set ?_ GE467.out) | refine nbW (below_set ?_ GE472.out))⟩⟩
     ·rw [if_neg c12] at H
      exact absurd H (by simp)
    ·rw [if_neg c11] at H
     have c11b0 := decide_eq_false c11
     clear c11
     simp only [Option.some.injEq, Prod.mk.injEq] at H
     obtain ⟨rfl, rfl, rfl⟩ := H
     have hnb18 := NB472_467.out
     have hnc18 := NB467_472.out
     have hcz19_0 : wr.cell? ⟨gb472, 0, none⟩ = some (.slice Ao7 t469.length co7) := (blk_cell BK472.out 0).trans rfl
     have hcz19_1 : wr.cell? ⟨gb472, 1, none⟩ = some (u473001) := (blk_cell BK472.out 1).trans rfl
     have hfz19_0 := blk_frozen BK472.out 0
     have hfz19_1 := blk_frozen BK472.out 1
     have hcz20_0 : wr.cell? ⟨gb467, 0, none⟩ = some (.slice none 0 0) := (blk_cell BK467.out 0).trans rfl
     have hcz20_1 : wr.cell? ⟨gb467, 1, none⟩ = some (.slice none 0 0) := (blk_cell BK467.out 1).trans rfl
     have hfz20_0 := blk_frozen BK467.out 0
     have hfz20_1 := blk_frozen BK467.out 1
     obtain ⟨Ao21, co21, eo21⟩ := Kd.R_slice HO_473001.out
     subst eo21
     go_wp2
     refine bodyPost_ret (results_ct rfl _ _ gb467 24 #[.slice Ao7 t469.length co7, .slice Ao21 x473001_1.length co21] (0, 0) _ rfl (by apply kbW; refine blk_put (cs := #[.slice Ao7 t469.length co7, .slice none 0 0]) ?_ 1 _ rfl; apply kbW; refine blk_put (cs := #[.slice none 0 0, .slice none 0 0]) ?_ 0 _ rfl; apply kbW; exact BK467.out) Tryz.underlying24 rfl (by kernel_rfl)) rfl ?_
     exact ⟨_, _, by first | rfl | (simp [errW_none, errW_some] <;> rfl) | (simp [*, errW_none, errW_some] <;> rfl), by apply rbW; exact Kd.R_mono (Kd.R_far (p := ⟨gb467, 1, none⟩) (Kd.R_far (p := ⟨gb467, 0, none⟩) (Kd.R_types HO_473000.out BK467.out (by decide)) (fun _ hk => hk.2) (.slice Ao7 t469.length co7)) (fun _ hk => hk.2) (.slice Ao21 x473001_1.length co21)) (fun _ hk => hk.1), by apply rbW; exact Kd.R_mono (Kd.R_far (p := ⟨gb467, 1, none⟩) (Kd.R_far (p := ⟨gb467, 0, none⟩) (Kd.R_types HO_473001.out BK467.out (by decide)) (fun _ hk => hk.2) (.slice Ao7 t469.length co7)) (fun _ hk => hk.2) (.slice Ao21 x473001_1.length co21)) (fun _ hk => hk.1), by repeat (first | exact nbW HB.out | refine nbW (below_set ?_ GE467.out) | refine nbW (below_set ?_ GE472.out))⟩
 ·replace c3 := Bool.eq_false_iff.mpr c3
  subst c3
  rw [if_neg (show ¬ (false = true) by decide)] at H
  simp only [Option.some.injEq, Prod.mk.injEq] at H
  obtain ⟨rfl, rfl, rfl⟩ := H
  go_enter Tryz.func37, Tryz.ntmps37
  go_wp2_with (first | ((with_reducible refine gate_dst (N := 2) rfl ?_); refine box_event ?hg (N := 2) ?hd (cs := #[.slice none 0 0, .slice none 0 0]) (t := 24) ?hr ?_; (case hd => rfl); (case hg => rfl); (case hr => first | (go_simp; done) | (go_simp; rfl)); intro gb467 hg w22 hbox hb; have n0_ := Aside0.mk (below_step (nbW HB.out) hb); have n1_ := Aside0.mk (hbox); have n2_ := Aside0.mk ((by rw [hg]; exact (below_size (nbW HB.out)) : w.heap.size ≤ gb467)); have n3_ := Aside0.mk ((by rw [hg]; exact (below_size (nbW HB.out)) : w.heap.size ≤ gb467)); clear HB; have HB := n0_; have BK467 := n1_; have GW467 := n2_; have GE467 := n3_; clear n0_ n1_ n2_ n3_; clear hb hbox hg) | ((with_reducible refine gate_callee (f := 71) rfl ?_); refine gcW 7 Tryz.func71 #[.slice A0 l0.length c0] rfl ?_; (with_reducible refine (impl_areHeights.calls k _ _ l0 false _ ?side1 ?side2 A2.out).mono ?_); (case side1 => exact cbW (Kd.C_below HR0.out HB.out)); (case side2 => exact HC0.out); rintro e w' ⟨rfl, ⟨nd, rfl⟩⟩; refine ⟨_, rfl, ?_⟩; (try (rw [drewN_self w22]; generalize hq_ : World.drewN w22 _ = w22; have n0_ : Aside0 (w22.heap[gb467]? = some (.cells #[.slice none 0 0, .slice none 0 0] 24 (0, 0))) := ⟨by rw [← hq_]; exact (kbW BK467.out)⟩; have n1_ : Aside0 (Below w.heap.size w w22) := ⟨by rw [← hq_]; exact (by repeat (first | exact nbW HB.out | refine nbW (below_set ?_ GE467.out)))⟩; clear BK467 HB hq_; have BK467 := n0_; have HB := n1_; clear n0_ n1_)); have hcz23_0 : w22.cell? ⟨gb467, 0, none⟩ = some (.slice none 0 0) := (blk_cell BK467.out 0).trans rfl; have hcz23_1 : w22.cell? ⟨gb467, 1, none⟩ = some (.slice none 0 0) := (blk_cell BK467.out 1).trans rfl; have hfz23_0 := blk_frozen BK467.out 0; have hfz23_1 := blk_frozen BK467.out 1))
  refine bodyPost_ret (results_ct rfl _ _ gb467 24 #[.slice none 0 0, .slice none 0 0] (0, 0) _ rfl (by apply kbW; refine blk_put (cs := #[.slice none 0 0, .slice none 0 0]) ?_ 1 _ rfl; apply kbW; refine blk_put (cs := #[.slice none 0 0, .slice none 0 0]) ?_ 0 _ rfl; apply kbW; exact BK467.out) Tryz.underlying24 rfl (by kernel_rfl)) rfl ?_
  exact ⟨_, _, by first | rfl | (simp [errW_none, errW_some] <;> rfl) | (simp [*, errW_none, errW_some] <;> rfl), by first | exact Kd.R_nil _ _ _ _ _ | exact Kd.N_nil _ _ _ _ _ | exact Kd.V_nil _ _ _ _ _ | exact Kd.Q_nil _ _ _ _ _ | exact Kd.S_nil _ _ _ _ _, by first | exact Kd.R_nil _ _ _ _ _ | exact Kd.N_nil _ _ _ _ _ | exact Kd.V_nil _ _ _ _ _ | exact Kd.Q_nil _ _ _ _ _ | exact Kd.S_nil _ _ _ _ _, by repeat (first | exact nbW HB.out | refine nbW (below_set ?_ GE467.out))⟩

/-! ### impl_ParkingOfWalk: function 38 -/
def impl_ParkingOfWalk.l0 : Nat → List Int → List Int → Int → Int → List Int → List Int → Option (List Int × Bool)
 | 0, _, _, _, _, _, _ => none
 | k + 1, x4, x15, x16, x17, x477000, x477001 => if x17 < x16 then (if 0 ≤ x17 then (if x17 < (x15.length : Int) then (if x17 < (x477000.length : Int) then (if 0 ≤ (rd x15 x17) then (if (rd x15 x17) < (x4.length : Int) then (impl_ParkingOfWalk.l0 k (x4.set ((rd x15 x17) : Int).toNat (wrap64 (x17 - (rd x477000 x17)))) x15 x16 (wrap64 (x17 + 1)) x477000 x477001) else (none)) else (none)) else (none)) else (none)) else (none)) else (some (x4, true))
def impl_ParkingOfWalk.f (k : Nat) (l0_0 : List Int) (l0_1 : List Int) : Option (List Int × Bool) := (impl_isWalk.f k l0_0 l0_1).bind fun t477 => (if t477 = true then (if 0 ≤ (l0_1.length : Int) then (if ((l0_1.length : Int) : Int).toNat ≤ 35184372088832 then (impl_ParkingOfWalk.l0 k (List.replicate ((l0_1.length : Int) : Int).toNat 0) l0_1 (l0_1.length : Int) 0 l0_0 l0_1) else (none)) else (none)) else (some (([] : List Int), false)))
theorem impl_ParkingOfWalk.mono_l : ∀ k, (∀ y0 y1 y2 y3 y4 y5, LeO (impl_ParkingOfWalk.l0 k y0 y1 y2 y3 y4 y5) (impl_ParkingOfWalk.l0 (k + 1) y0 y1 y2 y3 y4 y5))
 | 0 => fun _ _ _ _ _ _ r h => by simp [impl_ParkingOfWalk.l0] at h
 | k + 1 => by
  have ih0 := impl_ParkingOfWalk.mono_l k
  ·intro y0 y1 y2 y3 y4 y5
   unfold impl_ParkingOfWalk.l0
   repeat' first | (with_reducible first | exact ih0 _ _ _ _ _ _ | exact impl_isWalk.mono _ _ _ | exact LeO.refl _ | exact LeO.none _ | refine LeO.ite ?_ ?_ | refine LeO.bind ?_ (fun _ => ?_)) | exact LeO.none _ | refine LeO.ite ?_ ?_ | refine LeO.bind ?_ (fun _ => ?_)
theorem impl_ParkingOfWalk.mono : ∀ a0 a1 k, LeO (impl_ParkingOfWalk.f k a0 a1) (impl_ParkingOfWalk.f (k + 1) a0 a1) := by
 intro a0 a1 k
 have ih0 := impl_ParkingOfWalk.mono_l k
 unfold impl_ParkingOfWalk.f
 repeat' first | (with_reducible first | exact ih0 _ _ _ _ _ _ | exact impl_isWalk.mono _ _ _ | exact LeO.refl _ | exact LeO.none _ | refine LeO.ite ?_ ?_ | refine LeO.bind ?_ (fun _ => ?_)) | exact LeO.none _ | refine LeO.ite ?_ ?_ | refine LeO.bind ?_ (fun _ => ?_)
set_option maxHeartbeats 8000000 in
set_option maxRecDepth 100000 in
theorem impl_ParkingOfWalk.calls (k : Nat) (A0_0 : Option Addr) (c0_0 : Nat) (l0_0 : List Int) (A0_1 : Option Addr) (c0_1 : Nat) (l0_1 : List Int) (r1 : List Int) (r2 : Bool) (w : World) (hr0_0 : Kd.C (Kd.int .i64) w A0_0 l0_0.length l0_0) (hc0_0 : l0_0.length ≤ c0_0) (hr0_1 : Kd.C (Kd.int .i64) w A0_1 l0_1.length l0_1) (hc0_1 : l0_1.length ≤ c0_1) (h : impl_ParkingOfWalk.f k l0_0 l0_1 = some (r1, r2)) :
  Calls Tryz.prog 38 #[.agg #[.slice A0_0 l0_0.length c0_0, .slice A0_1 l0_1.length c0_1]] w fun e w' => ∃ v0_ : Value, e = .returned (.tuple #[v0_, .bool r2]) ∧ Kd.R (Kd.int .i64) 3 w' w.heap.size (fun _ => True) v0_ r1 ∧ Below w.heap.size w w' := by
 have hu24 := Tryz.underlying24
 have HR0_0 := Aside0.mk hr0_0
 have HC0_0 := Aside0.mk hc0_0
 clear hr0_0 hc0_0
 have HR0_1 := Aside0.mk hr0_1
 have HC0_1 := Aside0.mk hc0_1
 clear hr0_1 hc0_1
 have HB := Aside0.mk (Below.refl w.heap.size w)
 have H : ((impl_isWalk.f k l0_0 l0_1).bind fun t477 => (if t477 = true then (if 0 ≤ (l0_1.length : Int) then (if ((l0_1.length : Int) : Int).toNat ≤ 35184372088832 then (impl_ParkingOfWalk.l0 k (List.replicate ((l0_1.length : Int) : Int).toNat 0) l0_1 (l0_1.length : Int) 0 l0_0 l0_1) else (none)) else (none)) else (some (([] : List Int), false)))) = some (r1, r2) := h
 clear h
 replace H := Option.bind_eq_some_iff.mp H
 obtain ⟨t477, A20, H⟩ := H
 (try dsimp -simprocs only at H)
 have A2 := Aside0.mk A20
 clear A20
 by_cases c3 : t477 = true
 ·subst c3
  rw [if_pos rfl] at H
  by_cases c4 : 0 ≤ (l0_1.length : Int)
  ·rw [if_pos c4] at H
   have c4b0 := eq_true c4
   have c4b1 := decide_eq_true c4
   clear c4
   by_cases c5 : ((l0_1.length : Int) : Int).toNat ≤ 35184372088832
   ·rw [if_pos c5] at H
    have c5b0 := eq_true c5
    have c5b1 := decide_eq_true c5
    clear c5
    obtain ⟨y478, hy478⟩ : ∃ y_ : List Int, y_ = (List.replicate ((l0_1.length : Int) : Int).toNat 0) := ⟨_, rfl⟩
    replace H : (impl_ParkingOfWalk.l0 k y478 l0_1 (l0_1.length : Int) 0 l0_0 l0_1) = some (r1, r2) := by first | (rw [hy478]; with_reducible exact H) | (have H2_ := (Option.bind_some _ _).symm.trans H; rw [hy478]; with_reducible exact H2_) | (have H2_ := (Option.bind_some _ _).symm.trans H; with_reducible exact H2_) | with_reducible exact H | (rw [hy478]; exact H) | exact H
    have Ny478 := Aside0.mk hy478
    clear hy478
    have H' := Aside0.mk H
    clear H
    go_enter Tryz.func38, Tryz.ntmps38
    go_wp2_with (first | ((with_reducible refine gate_dst (N := 1) rfl ?_); refine box_event ?hg (N := 1) ?hd (cs := #[.slice A0_0 l0_0.length c0_0, .slice A0_1 l0_1.length c0_1]) (t := 24) ?hr ?_; (case hd => rfl); (case hg => rfl); (case hr => first | (go_simp; done) | (go_simp; rfl)); intro gb476 hg w6 hbox hb; have n0_ := Aside0.mk (below_step (nbW HB.out) hb); have n1_ := Aside0.mk (hbox); have n2_ := Aside0.mk ((by rw [hg]; exact (below_size (nbW HB.out)) : w.heap.size ≤ gb476)); have n3_ := Aside0.mk ((by rw [hg]; exact (below_size (nbW HB.out)) : w.heap.size ≤ gb476)); clear HB; have HB := n0_; have BK476 := n1_; have GW476 := n2_; have GE476 := n3_; clear n0_ n1_ n2_ n3_; clear hb hbox hg; have hcz7_0 : w6.cell? ⟨gb476, 0, none⟩ = some (.slice A0_0 l0_0.length c0_0) := (blk_cell BK476.out 0).trans rfl; have hcz7_1 : w6.cell? ⟨gb476, 1, none⟩ = some (.slice A0_1 l0_1.length c0_1) := (blk_cell BK476.out 1).trans rfl; have hfz7_0 := blk_frozen BK476.out 0; have hfz7_1 := blk_frozen BK476.out 1) | ((with_reducible refine gate_callee (f := 46) rfl ?_); refine gcW 8 Tryz.func46 #[.agg #[.slice A0_0 l0_0.length c0_0, .slice A0_1 l0_1.length c0_1]] rfl ?_; (with_reducible refine (impl_isWalk.calls k _ _ l0_0 _ _ l0_1 true _ ?side1 ?side2 ?side3 ?side4 A2.out).mono ?_); (case side1 => exact cbW (Kd.C_below HR0_0.out HB.out)); (case side2 => exact HC0_0.out); (case side3 => exact cbW (Kd.C_below HR0_1.out HB.out)); (case side4 => exact HC0_1.out); rintro e w8 ⟨rfl, hb⟩; refine ⟨_, rfl, ?_⟩; have n0_ := Aside0.mk (blk_below (kbW BK476.out) hb); have n1_ := Aside0.mk (below_step (by repeat (first | exact nbW HB.out | refine nbW (below_set ?_ GE476.out))) hb); clear BK476; clear HB; have BK476 := n0_; have HB := n1_; clear n0_ n1_; (try clear hb); (try clear hb2); (try clear hk); (try clear hi); have hcz9_0 : w8.cell? ⟨gb476, 0, none⟩ = some (.slice A0_0 l0_0.length c0_0) := (blk_cell BK476.out 0).trans rfl; have hcz9_1 : w8.cell? ⟨gb476, 1, none⟩ = some (.slice A0_1 l0_1.length c0_1) := (blk_cell BK476.out 1).trans rfl; have hfz9_0 := blk_frozen BK476.out 0; have hfz9_1 := blk_frozen BK476.out 1) | ((with_reducible refine gate_dst (N := 13) rfl ?_); refine Kd.R_make (Kd.int .i64) _ 3 rfl (N := 13) rfl 22 _ _ rfl (l0_1.length : Int) rfl rfl Tryz.underlying22 (.int .i64 0) 8 info3 rfl (by decide) (by omega) 0 (ok := fun _ => True) (okp := fun _ => True) rfl (fun _ hk => hk) trivial (of_decide_eq_true (by first | (with_reducible assumption) | assumption)) (Nat.le_trans (Nat.mul_le_mul_right _ (of_decide_eq_true (by first | (with_reducible assumption) | assumption) : (l0_1.length : Int).toNat ≤ 35184372088832)) (by omega)) (Below.refl _ _) (Nat.le_refl _) ?_; intro v479 w10 ho11 hb hg_ hnew_; clear hg_ hnew_; (first | rw [← Ny478.out] at ho11 | (simp only [Int.reduceToNat] at ho11; rw [← Ny478.out] at ho11)); have n0_ := Aside0.mk (Kd.R_lower ho11 (below_size (by repeat (first | exact nbW HB.out | refine nbW (below_set ?_ GE476.out))))); have n1_ := Aside0.mk (blk_below (kbW BK476.out) hb); have n2_ := Aside0.mk (below_step (by repeat (first | exact nbW HB.out | refine nbW (below_set ?_ GE476.out))) hb); clear BK476; clear HB; have HO480 := n0_; have BK476 := n1_; have HB := n2_; clear n0_ n1_ n2_; clear hb ho11; have hcz12_0 : w10.cell? ⟨gb476, 0, none⟩ = some (.slice A0_0 l0_0.length c0_0) := (blk_cell BK476.out 0).trans rfl; have hcz12_1 : w10.cell? ⟨gb476, 1, none⟩ = some (.slice A0_1 l0_1.length c0_1) := (blk_cell BK476.out 1).trans rfl; have hfz12_0 := blk_frozen BK476.out 0; have hfz12_1 := blk_frozen BK476.out 1))
    go_loopg [17] k (fun kq v17 w' => ∃ (x4_1 : List Int) (x17_1 : Int), v17 = .int .i64 x17_1 ∧ Aside0 (impl_ParkingOfWalk.l0 kq x4_1 l0_1 (l0_1.length : Int) x17_1 l0_0 l0_1 = some (r1, r2)) ∧ Aside0 (kq ≤ k) ∧ Aside0 (Kd.R (Kd.int .i64) 3 w' w.heap.size (fun _ => True) v479 x4_1) ∧ Aside0 (w'.heap[gb476]? = some (.cells #[(.slice A0_0 l0_0.length c0_0), (.slice A0_1 l0_1.length c0_1)] 24 (0, 0))) ∧ Aside0 (Below w.heap.size w w'))
    case atStart => exact ⟨(y478), (0), (by first | rfl | (simp; done) | (simp [*]; done)), H', ⟨Nat.le_refl _⟩, ⟨by apply rbW; exact HO480.out⟩, ⟨by apply kbW; exact BK476.out⟩, ⟨by repeat (first | exact nbW HB.out | refine nbW (below_set ?_ GE476.out))⟩⟩
    case round =>
     clear H'
     try clear p2
     try clear c3
     try clear c4
     try clear c4b0
     try clear c4b1
     try clear c5
     try clear c5b0
     try clear c5b1
     try clear hcz12_0
     try clear hcz12_1
     try clear hcz7_0
     try clear hcz7_1
     try clear hcz9_0
     try clear hcz9_1
     try clear hfz12_0
     try clear hfz12_1
     try clear hfz7_0
     try clear hfz7_1
     try clear hfz9_0
     try clear hfz9_1
     obtain ⟨x4_1, x17_1, rfl, HA, HK1, HO_4, BK476, HB⟩ := hrel
     cases gk with
     | zero => exact absurd HA.out (by simp [impl_ParkingOfWalk.l0])
     | succ k1 =>
      have H := HA.out
      clear HA
      simp only [impl_ParkingOfWalk.l0] at H
      by_cases c13 : x17_1 < (l0_1.length : Int)
      ·rw [if_pos c13] at H
       have c13b0 := decide_eq_true c13
       clear c13
       by_cases c14 : 0 ≤ x17_1
       ·rw [if_pos c14] at H
        have c14b0 := decide_eq_true c14
        clear c14
        by_cases c15 : x17_1 < (l0_1.length : Int)
        ·rw [if_pos c15] at H
         have c15b0 := decide_eq_true c15
         clear c15
         by_cases c16 : x17_1 < (l0_0.length : Int)
         ·rw [if_pos c16] at H
          have c16b0 := decide_eq_true c16
          clear c16
          by_cases c17 : 0 ≤ (rd l0_1 x17_1)
          ·rw [if_pos c17] at H
           have c17b0 := decide_eq_true c17
           clear c17
           by_cases c18 : (rd l0_1 x17_1) < (x4_1.length : Int)
           ·rw [if_pos c18] at H
            have c18b0 := decide_eq_true c18
            clear c18
            obtain ⟨y483, hy483⟩ : ∃ y_ : List Int, y_ = (x4_1.set ((rd l0_1 x17_1) : Int).toNat (wrap64 (x17_1 - (rd l0_0 x17_1)))) := ⟨_, rfl⟩
            replace H : (impl_ParkingOfWalk.l0 k1 y483 l0_1 (l0_1.length : Int) (wrap64 (x17_1 + 1)) l0_0 l0_1) = some (r1, r2) := by first | (rw [hy483]; with_reducible exact H) | (have H2_ := (Option.bind_some _ _).symm.trans H; rw [hy483]; with_reducible exact H2_) | (have H2_ := (Option.bind_some _ _).symm.trans H; with_reducible exact H2_) | with_reducible exact H | (rw [hy483]; exact H) | exact H
            have Ny483 := Aside0.mk hy483
            clear hy483
            have H' := Aside0.mk H
            clear H
            have p481 : 0 ≤ (x17_1 : Int) := of_decide_eq_true (by first | (with_reducible assumption) | assumption)
            have q481 : x17_1 < (l0_1.length : Int) := of_decide_eq_true (by first | (with_reducible assumption) | assumption)
            obtain ⟨ad481, e481, hx481_0⟩ := Kd.at_int HR0_1.out x17_1 p481 q481
            cases e481
            replace hx481_0 := (HB.out.cell (World.block_lt_of_cell? w _ hx481_0)).trans hx481_0
            replace p481 := eq_true p481
            replace q481 := eq_true q481
            have hcz20_0 : wr.cell? ⟨gb476, 0, none⟩ = some (.slice A0_0 l0_0.length c0_0) := (blk_cell BK476.out 0).trans rfl
            have hcz20_1 : wr.cell? ⟨gb476, 1, none⟩ = some (.slice (some ad481) l0_1.length c0_1) := (blk_cell BK476.out 1).trans rfl
            have hfz20_0 := blk_frozen BK476.out 0
            have hfz20_1 := blk_frozen BK476.out 1
            have p482 : 0 ≤ (x17_1 : Int) := of_decide_eq_true (by first | (with_reducible assumption) | assumption)
            have q482 : x17_1 < (l0_0.length : Int) := of_decide_eq_true (by first | (with_reducible assumption) | assumption)
            obtain ⟨ad482, e482, hx482_0⟩ := Kd.at_int HR0_0.out x17_1 p482 q482
            cases e482
            replace hx482_0 := (HB.out.cell (World.block_lt_of_cell? w _ hx482_0)).trans hx482_0
            replace p482 := eq_true p482
            replace q482 := eq_true q482
            have p19 : 0 ≤ ((rd l0_1 x17_1) : Int) := of_decide_eq_true (by first | (with_reducible assumption) | assumption)
            have q19 : ((rd l0_1 x17_1) : Int) < ((x4_1.length : Int) : Int) := of_decide_eq_true (by first | (with_reducible assumption) | assumption)
            obtain ⟨go19, co19, eo19, gb19, gl19, cl19, HG19⟩ := Kd.R_form HO_4.out (by omega)
            (first | cases eo19 | (injection eo19 with ea_ en_ ec_; (first | subst ea_ | (injection ea_ with ea_; subst ea_)); subst ec_; clear en_))
            have GB19 := Aside0.mk gb19
            have GG19 := Aside0.mk HG19
            clear gb19 gl19 HG19
            obtain ⟨hx19_0, hf19_0⟩ := Kd.R_celln 0 HO_4.out ((rd l0_1 x17_1) : Int) p19 q19
            replace p19 := eq_true p19
            replace q19 := eq_true q19
            have HP21 := Kd.R_putg HO_4.out ((rd l0_1 x17_1) : Int) (wrap64 (x17_1 - (rd l0_0 x17_1)))
            go_wp2_with (first | ((with_reducible refine gate_store (t := 3) (p := 31) rfl ?_); refine store_event (t := 3) (p := 31) (v := ?vo_w22) (w1 := (wr.setCell ⟨go19, ((rd l0_1 x17_1) : Int).toNat, none⟩ (.int .i64 (wrap64 (x17_1 - (rd l0_0 x17_1)))))) ?hg ?ho ?hn ?hr ?_; (case ho => rfl); (case hg => rfl); (case hn => rfl); (case hr => first | (go_simp; done) | (go_simp; rfl)); intro w22 hw; have hg : wr.grownBy w22 (some go19) := (by rw [hw]; exact HP21.2); have hp_ : Kd.R (Kd.int .i64) 3 w22 w.heap.size (fun _ => True) (.slice (some ⟨go19, 0, none⟩) x4_1.length co19) y483 := (by rw [hw, Ny483.out]; exact HP21.1); clear HP21; have n0_ := Aside0.mk (hp_); have n1_ := Aside0.mk (blk_grown (g := gb476) (o := .cells #[.slice (some ad482) l0_0.length c0_0, .slice (some ad481) l0_1.length c0_1] 24 (0, 0)) (kbW BK476.out) hg (Kd.R_ne HO_4.out BK476.out (by decide))); have n2_ := Aside0.mk ((by rw [hw]; exact below_set (HB.out) GB19.out : Below w.heap.size w w22)); clear HO_4; clear BK476; clear HB; have HO_4 := n0_; have BK476 := n1_; have HB := n2_; clear n0_ n1_ n2_; clear hg hw hp_))
            go_roundg k1
            case measure => have := HK1.out; omega
            case rel => exact ⟨(y483), (wrap64 (x17_1 + 1)), (by first | rfl | (simp; done) | (simp [*]; done)), H', ⟨by have := HK1.out; omega⟩, ⟨by apply rbW; exact HO_4.out⟩, ⟨by apply kbW; exact BK476.out⟩, ⟨by repeat (first | exact nbW HB.out | refine nbW (below_set ?_ GE476.out))⟩⟩
           ·rw [if_neg c18] at H
            exact absurd H (by simp)
          ·rw [if_neg c17] at H
           exact absurd H (by simp)
         ·rw [if_neg c16] at H
          exact absurd H (by simp)
        ·rw [if_neg c15] at H
         exact absurd H (by simp)
       ·rw [if_neg c14] at H
        exact absurd H (by simp)
      ·rw [if_neg c13] at H
       have c13b0 := decide_eq_false c13
       clear c13
       simp only [Option.some.injEq, Prod.mk.injEq] at H
       obtain ⟨rfl, rfl⟩ := H
       go_wp2
       go_ret2
       exact ⟨_, by first | rfl | (simp [errW_none, errW_some] <;> rfl) | (simp [*, errW_none, errW_some] <;> rfl), by apply rbW; exact HO_4.out, by repeat (first | exact nbW HB.out | refine nbW (below_set ?_ GE476.out))⟩
   ·rw [if_neg c5] at H
    exact absurd H (by simp)
  ·rw [if_neg c4] at H
   exact absurd H (by simp)
 ·replace c3 := Bool.eq_false_iff.mpr c3
  subst c3
  rw [if_neg (show ¬ (false = true) by decide)] at H
  simp only [Option.some.injEq, Prod.mk.injEq] at H
  obtain ⟨rfl, rfl⟩ := H
  go_enter Tryz.func38, Tryz.ntmps38
  go_wp2_with (first | ((with_reducible refine gate_dst (N := 1) rfl ?_); refine box_event ?hg (N := 1) ?hd (cs := #[.slice A0_0 l0_0.length c0_0, .slice A0_1 l0_1.length c0_1]) (t := 24) ?hr ?_; (case hd => rfl); (case hg => rfl); (case hr => first | (go_simp; done) | (go_simp; rfl)); intro gb476 hg w23 hbox hb; have n0_ := Aside0.mk (below_step (nbW HB.out) hb); have n1_ := Aside0.mk (hbox); have n2_ := Aside0.mk ((by rw [hg]; exact (below_size (nbW HB.out)) : w.heap.size ≤ gb476)); have n3_ := Aside0.mk ((by rw [hg]; exact (below_size (nbW HB.out)) : w.heap.size ≤ gb476)); clear HB; have HB := n0_; have BK476 := n1_; have GW476 := n2_; have GE476 := n3_; clear n0_ n1_ n2_ n3_; clear hb hbox hg; have hcz24_0 : w23.cell? ⟨gb476, 0, none⟩ = some (.slice A0_0 l0_0.length c0_0) := (blk_cell BK476.out 0).trans rfl; have hcz24_1 : w23.cell? ⟨gb476, 1, none⟩ = some (.slice A0_1 l0_1.length c0_1) := (blk_cell BK476.out 1).trans rfl; have hfz24_0 := blk_frozen BK476.out 0; have hfz24_1 := blk_frozen BK476.out 1) | ((with_reducible refine gate_callee (f := 46) rfl ?_); refine gcW 8 Tryz.func46 #[.agg #[.slice A0_0 l0_0.length c0_0, .slice A0_1 l0_1.length c0_1]] rfl ?_; (with_reducible refine (impl_isWalk.calls k _ _ l0_0 _ _ l0_1 false _ ?side1 ?side2 ?side3 ?side4 A2.out).mono ?_); (case side1 => exact cbW (Kd.C_below HR0_0.out HB.out)); (case side2 => exact HC0_0.out); (case side3 => exact cbW (Kd.C_below HR0_1.out HB.out)); (case side4 => exact HC0_1.out); rintro e w25 ⟨rfl, hb⟩; refine ⟨_, rfl, ?_⟩; have n0_ := Aside0.mk (blk_below (kbW BK476.out) hb); have n1_ := Aside0.mk (below_step (by repeat (first | exact nbW HB.out | refine nbW (below_set ?_ GE476.out))) hb); clear BK476; clear HB; have BK476 := n0_; have HB := n1_; clear n0_ n1_; (try clear hb); (try clear hb2); (try clear hk); (try clear hi)))
  go_ret2
  exact ⟨_, by first | rfl | (simp [errW_none, errW_some] <;> rfl) | (simp [*, errW_none, errW_some] <;> rfl), by first | exact Kd.R_nil _ _ _ _ _ | exact Kd.N_nil _ _ _ _ _ | exact Kd.V_nil _ _ _ _ _ | exact Kd.Q_nil _ _ _ _ _ | exact Kd.S_nil _ _ _ _ _, by repeat (first | exact nbW HB.out | refine nbW (below_set ?_ GE476.out))⟩

/-! ### what is asked of a function value: a predicate on whole numbers -/
def PredI (P : Program) (g : Nat) (lb : Array Value) (p : Int → Bool) (w : World) : Prop :=
  ∀ (W : World) (x : Int), Below w.heap.size w W → Calls P g (#[.int .i64 x] ++ lb) W fun e w' => e = .returned (.bool (p x)) ∧ Drawn0 W w'
theorem pred_is {P : Program} {g : Nat} {lb : Array Value} {p : Int → Bool} {w : World} (hp : PredI P g lb p w) (W : World) (x : Int) (b : Bool) (hb : Below w.heap.size w W) (h : (some (p x) : Option Bool) = some b) :
    Calls P g (#[.int .i64 x] ++ lb) W fun e w' => e = .returned (.bool b) ∧ Drawn0 W w' := by
  cases h
  exact hp W x hb

end Go.Proofs.YtlknoidcopkmfaaGreatDoor.PFnWalkTexts
