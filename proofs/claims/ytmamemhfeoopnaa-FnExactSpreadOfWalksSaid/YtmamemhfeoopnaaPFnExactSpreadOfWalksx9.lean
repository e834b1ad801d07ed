-- Written by a program of this session for this claim (its own turn of the print).
import Derived.Test.YtmamemhfeoopnaaPFnExactSpreadOfWalksx0
import Derived.Test.YtmamemhfeoopnaaPFnExactSpreadOfWalksx4
import Derived.Test.YtmamemhfeoopnaaPFnExactSpreadOfWalksx8
namespace Go.Proofs.Ytmamemhfeoopnaa.PFnExactSpreadOfWalks
open Go.RowKit Go.Proofs.YtmamemhfeoopnaaW.PrintWords Go.Proofs.YtmamemhfeoopnaaW.PrintLast Go.Proofs.YtmamemhfeoopnaaW.PrintMore
attribute [local go_sem] max2_int min2_int max_two min_two max_three min_three max_four min_four   -- for this text's walks alone
set_option linter.unusedVariables false
set_option linter.unusedSimpArgs false

/-! ### laws_eqIntSS: function 6 -/
def laws_eqIntSS.l0 : Nat → List (List Int) → List (List Int) → Int → Option (Bool)
 | 0, _, _, _ => none
 | k + 1, x0, x1, x5 => if x5 < (x0.length : Int) then (if 0 ≤ x5 then (if x5 < (x1.length : Int) then ((laws_eqIntS.f k (rd_L1 x0 x5) (rd_L1 x1 x5)).bind fun t357 => (if t357 = true then (laws_eqIntSS.l0 k x0 x1 (wrap64 (x5 + 1))) else (some false))) else (none)) else (none)) else (some true)
def laws_eqIntSS.f (k : Nat) (l0 : List (List Int)) (l1 : List (List Int)) : Option (Bool) := if (l0.length : Int) = (l1.length : Int) then (laws_eqIntSS.l0 k l0 l1 0) else (some false)
theorem laws_eqIntSS.mono_l : ∀ k, (∀ y0 y1 y2, LeO (laws_eqIntSS.l0 k y0 y1 y2) (laws_eqIntSS.l0 (k + 1) y0 y1 y2))
 | 0 => fun _ _ _ r h => by simp [laws_eqIntSS.l0] at h
 | k + 1 => by
  have ih0 := laws_eqIntSS.mono_l k
  ·intro y0 y1 y2
   unfold laws_eqIntSS.l0
   repeat' first
   | (with_reducible exact ih0 _ _ _)
   | (with_reducible exact laws_eqIntS.mono _ _ _)
   | (with_reducible exact LeO.refl _)
   | (with_reducible exact LeO.none _)
   | (with_reducible refine LeO.ite ?_ ?_)
   | (with_reducible refine LeO.bind ?_ (fun _ => ?_))
   | exact LeO.none _
   | refine LeO.ite ?_ ?_
   | refine LeO.bind ?_ (fun _ => ?_)
theorem laws_eqIntSS.mono : ∀ a0 a1 k, LeO (laws_eqIntSS.f k a0 a1) (laws_eqIntSS.f (k + 1) a0 a1) := by
 intro a0 a1 k
 have ih0 := laws_eqIntSS.mono_l k
 unfold laws_eqIntSS.f
 repeat' first
   | (with_reducible exact ih0 _ _ _)
   | (with_reducible exact laws_eqIntS.mono _ _ _)
   | (with_reducible exact LeO.refl _)
   | (with_reducible exact LeO.none _)
   | (with_reducible refine LeO.ite ?_ ?_)
   | (with_reducible refine LeO.bind ?_ (fun _ => ?_))
   | exact LeO.none _
   | refine LeO.ite ?_ ?_
   | refine LeO.bind ?_ (fun _ => ?_)
set_option maxHeartbeats 8000000 in
set_option maxRecDepth 100000 in
theorem laws_eqIntSS.calls (k : Nat) (A0 : Option Addr) (c0 : Nat) (l0 : List (List Int)) (A1 : Option Addr) (c1 : Nat) (l1 : List (List Int)) (r : Bool) (w : World) (hr0 : Kd.C (Kd.slice 3 (Kd.int .i64)) w A0 l0.length l0) (hc0 : l0.length ≤ c0) (hr1 : Kd.C (Kd.slice 3 (Kd.int .i64)) w A1 l1.length l1) (hc1 : l1.length ≤ c1) (h : laws_eqIntSS.f k l0 l1 = some r) :
  Calls Try.prog 6 #[.slice A0 l0.length c0, .slice A1 l1.length c1] w fun e w' => e = .returned (.bool r) ∧ Drawn0 w w' := by
 have HR0 := Aside0.mk hr0
 have HC0 := Aside0.mk hc0
 clear hr0 hc0
 have HR1 := Aside0.mk hr1
 have HC1 := Aside0.mk hc1
 clear hr1 hc1
 have H : (if (l0.length : Int) = (l1.length : Int) then (laws_eqIntSS.l0 k l0 l1 0) else (some false)) = some r := h
 clear h
 by_cases c3 : (l0.length : Int) = (l1.length : Int)
 ·rw [if_pos c3] at H
  have c3b0 : ((l0.length : Int) == (l1.length : Int)) = true := beq_iff_eq.mpr c3
  have c3b1 : ((l0.length : Int) != (l1.length : Int)) = false := bne_eq_false_iff_eq.mpr c3
  have c3b2 : (l0.length == l1.length) = true := by first | simpa using c3 | (simp at c3 ⊢; omega)
  clear c3
  have H' := Aside0.mk H
  clear H
  go_enter Try.func6, Try.ntmps6
  go_wp2
  repeat (go_quiet (fail); try go_wp2)
  go_loopg [5] k (fun kq v5 w' => ∃ (x5_1 : Int), v5 = .int .i64 x5_1 ∧ Aside0 (laws_eqIntSS.l0 kq l0 l1 x5_1 = some r) ∧ Aside0 (kq ≤ k) ∧ Drawn0 w w')
  case atStart => exact ⟨(0), (by first | rfl | (simp; done) | (simp [*]; done)), H', ⟨Nat.le_refl _⟩, by repeat (first | exact Drawn0.refl _ | apply Drawn0.step)⟩
  case round =>
   clear H'
   try clear c1
   try clear p2
   try clear c3
   try clear c3b0
   try clear c3b1
   try clear c3b2
   obtain ⟨x5_1, rfl, HA, HK1, ⟨m1, rfl⟩⟩ := hrel
   cases gk with
   | zero => exact absurd HA.out (by simp [laws_eqIntSS.l0])
   | succ k1 =>
    have H := HA.out
    clear HA
    simp only [laws_eqIntSS.l0] at H
    by_cases c4 : x5_1 < (l0.length : Int)
    ·rw [if_pos c4] at H
     have c4b0 : decide (x5_1 < (l0.length : Int)) = true := decide_eq_true c4
     clear c4
     by_cases c5 : 0 ≤ x5_1
     ·rw [if_pos c5] at H
      have c5b0 : decide (0 ≤ x5_1) = true := decide_eq_true c5
      clear c5
      by_cases c6 : x5_1 < (l1.length : Int)
      ·rw [if_pos c6] at H
       have c6b0 : decide (x5_1 < (l1.length : Int)) = true := decide_eq_true c6
       clear c6
       replace H := Option.bind_eq_some_iff.mp H
       obtain ⟨t357, A70, H⟩ := H
       replace H : (if t357 = true then (laws_eqIntSS.l0 k1 l0 l1 (wrap64 (x5_1 + 1))) else (some false)) = some r := H
       have A7 := Aside0.mk A70
       clear A70
       by_cases c8 : t357 = true
       ·subst c8
        have H1 : (laws_eqIntSS.l0 k1 l0 l1 (wrap64 (x5_1 + 1))) = some r := by rw [if_pos rfl] at H; exact H
        clear H
        have H := H1
        clear H1
        have H' := Aside0.mk H
        clear H
        have p355 : 0 ≤ (x5_1 : Int) := of_decide_eq_true (by first | (with_reducible assumption) | assumption)
        have q355 : x5_1 < (l0.length : Int) := of_decide_eq_true (by first | (with_reducible assumption) | assumption)
        obtain ⟨ad355, A355_0, c355_0, e355, hx355_0, hl355_0, hi355_0⟩ := at_L1 HR0.out x5_1 p355 q355
        cases e355
        have HR355_0 := Aside0.mk hi355_0
        have HC355_0 := Aside0.mk hl355_0
        clear hi355_0 hl355_0
        replace p355 := eq_true p355
        replace q355 := eq_true q355
        have p356 : 0 ≤ (x5_1 : Int) := of_decide_eq_true (by first | (with_reducible assumption) | assumption)
        have q356 : x5_1 < (l1.length : Int) := of_decide_eq_true (by first | (with_reducible assumption) | assumption)
        obtain ⟨ad356, A356_0, c356_0, e356, hx356_0, hl356_0, hi356_0⟩ := at_L1 HR1.out x5_1 p356 q356
        cases e356
        have HR356_0 := Aside0.mk hi356_0
        have HC356_0 := Aside0.mk hl356_0
        clear hi356_0 hl356_0
        replace p356 := eq_true p356
        replace q356 := eq_true q356
        go_wp2_with (first | (go_at_call 20; (with_reducible refine (laws_eqIntS.calls k1 _ _ (rd_L1 l0 x5_1) _ _ (rd_L1 l1 x5_1) true _ ?side1 ?side2 ?side3 ?side4 A7.out).mono ?_); (case side1 => repeat (first | exact HR355_0.out | (with_reducible refine Kd.C_alloc ?_ _) | (with_reducible refine Kd.C_drewN ?_ _) | (with_reducible refine Kd.C_drew ?_))); (case side2 => exact HC355_0.out); (case side3 => repeat (first | exact HR356_0.out | (with_reducible refine Kd.C_alloc ?_ _) | (with_reducible refine Kd.C_drewN ?_ _) | (with_reducible refine Kd.C_drew ?_))); (case side4 => exact HC356_0.out); rintro e w' ⟨rfl, ⟨nd, rfl⟩⟩; (try first | exact ⟨rfl, _, World.drewN_drewN _ _ _⟩ | exact ⟨rfl, _, Eq.trans (World.drewN_drewN _ _ _) (congrArg (World.drewN _) (Nat.add_assoc _ _ _))⟩)))
        repeat (go_quiet (first | (go_at_call 20; (with_reducible refine (laws_eqIntS.calls k1 _ _ (rd_L1 l0 x5_1) _ _ (rd_L1 l1 x5_1) true _ ?side1 ?side2 ?side3 ?side4 A7.out).mono ?_); (case side1 => repeat (first | exact HR355_0.out | (with_reducible refine Kd.C_alloc ?_ _) | (with_reducible refine Kd.C_drewN ?_ _) | (with_reducible refine Kd.C_drew ?_))); (case side2 => exact HC355_0.out); (case side3 => repeat (first | exact HR356_0.out | (with_reducible refine Kd.C_alloc ?_ _) | (with_reducible refine Kd.C_drewN ?_ _) | (with_reducible refine Kd.C_drew ?_))); (case side4 => exact HC356_0.out); rintro e w' ⟨rfl, ⟨nd, rfl⟩⟩; (try first | exact ⟨rfl, _, World.drewN_drewN _ _ _⟩ | exact ⟨rfl, _, Eq.trans (World.drewN_drewN _ _ _) (congrArg (World.drewN _) (Nat.add_assoc _ _ _))⟩))); try go_wp2_with (first | (go_at_call 20; (with_reducible refine (laws_eqIntS.calls k1 _ _ (rd_L1 l0 x5_1) _ _ (rd_L1 l1 x5_1) true _ ?side1 ?side2 ?side3 ?side4 A7.out).mono ?_); (case side1 => repeat (first | exact HR355_0.out | (with_reducible refine Kd.C_alloc ?_ _) | (with_reducible refine Kd.C_drewN ?_ _) | (with_reducible refine Kd.C_drew ?_))); (case side2 => exact HC355_0.out); (case side3 => repeat (first | exact HR356_0.out | (with_reducible refine Kd.C_alloc ?_ _) | (with_reducible refine Kd.C_drewN ?_ _) | (with_reducible refine Kd.C_drew ?_))); (case side4 => exact HC356_0.out); rintro e w' ⟨rfl, ⟨nd, rfl⟩⟩; (try first | exact ⟨rfl, _, World.drewN_drewN _ _ _⟩ | exact ⟨rfl, _, Eq.trans (World.drewN_drewN _ _ _) (congrArg (World.drewN _) (Nat.add_assoc _ _ _))⟩))))
        go_roundg k1
        case measure => have := HK1.out; omega
        case rel => exact ⟨(wrap64 (x5_1 + 1)), (by first | rfl | (simp; done) | (simp [*]; done)), H', ⟨by have := HK1.out; omega⟩, by repeat (first | exact Drawn0.refl _ | apply Drawn0.step)⟩
       ·replace c8 := Bool.eq_false_iff.mpr c8
        subst c8
        have H1 : (some false) = some r := by rw [if_neg (show ¬ (false = true) by decide)] at H; exact H
        clear H
        have H := H1
        clear H1
        obtain rfl := Option.some.inj H
        have p355 : 0 ≤ (x5_1 : Int) := of_decide_eq_true (by first | (with_reducible assumption) | assumption)
        have q355 : x5_1 < (l0.length : Int) := of_decide_eq_true (by first | (with_reducible assumption) | assumption)
        obtain ⟨ad355, A355_0, c355_0, e355, hx355_0, hl355_0, hi355_0⟩ := at_L1 HR0.out x5_1 p355 q355
        cases e355
        have HR355_0 := Aside0.mk hi355_0
        have HC355_0 := Aside0.mk hl355_0
        clear hi355_0 hl355_0
        replace p355 := eq_true p355
        replace q355 := eq_true q355
        have p356 : 0 ≤ (x5_1 : Int) := of_decide_eq_true (by first | (with_reducible assumption) | assumption)
        have q356 : x5_1 < (l1.length : Int) := of_decide_eq_true (by first | (with_reducible assumption) | assumption)
        obtain ⟨ad356, A356_0, c356_0, e356, hx356_0, hl356_0, hi356_0⟩ := at_L1 HR1.out x5_1 p356 q356
        cases e356
        have HR356_0 := Aside0.mk hi356_0
        have HC356_0 := Aside0.mk hl356_0
        clear hi356_0 hl356_0
        replace p356 := eq_true p356
        replace q356 := eq_true q356
        go_wp2_with (first | (go_at_call 20; (with_reducible refine (laws_eqIntS.calls k1 _ _ (rd_L1 l0 x5_1) _ _ (rd_L1 l1 x5_1) false _ ?side1 ?side2 ?side3 ?side4 A7.out).mono ?_); (case side1 => repeat (first | exact HR355_0.out | (with_reducible refine Kd.C_alloc ?_ _) | (with_reducible refine Kd.C_drewN ?_ _) | (with_reducible refine Kd.C_drew ?_))); (case side2 => exact HC355_0.out); (case side3 => repeat (first | exact HR356_0.out | (with_reducible refine Kd.C_alloc ?_ _) | (with_reducible refine Kd.C_drewN ?_ _) | (with_reducible refine Kd.C_drew ?_))); (case side4 => exact HC356_0.out); rintro e w' ⟨rfl, ⟨nd, rfl⟩⟩; (try first | exact ⟨rfl, _, World.drewN_drewN _ _ _⟩ | exact ⟨rfl, _, Eq.trans (World.drewN_drewN _ _ _) (congrArg (World.drewN _) (Nat.add_assoc _ _ _))⟩)))
        repeat (go_quiet (first | (go_at_call 20; (with_reducible refine (laws_eqIntS.calls k1 _ _ (rd_L1 l0 x5_1) _ _ (rd_L1 l1 x5_1) false _ ?side1 ?side2 ?side3 ?side4 A7.out).mono ?_); (case side1 => repeat (first | exact HR355_0.out | (with_reducible refine Kd.C_alloc ?_ _) | (with_reducible refine Kd.C_drewN ?_ _) | (with_reducible refine Kd.C_drew ?_))); (case side2 => exact HC355_0.out); (case side3 => repeat (first | exact HR356_0.out | (with_reducible refine Kd.C_alloc ?_ _) | (with_reducible refine Kd.C_drewN ?_ _) | (with_reducible refine Kd.C_drew ?_))); (case side4 => exact HC356_0.out); rintro e w' ⟨rfl, ⟨nd, rfl⟩⟩; (try first | exact ⟨rfl, _, World.drewN_drewN _ _ _⟩ | exact ⟨rfl, _, Eq.trans (World.drewN_drewN _ _ _) (congrArg (World.drewN _) (Nat.add_assoc _ _ _))⟩))); try go_wp2_with (first | (go_at_call 20; (with_reducible refine (laws_eqIntS.calls k1 _ _ (rd_L1 l0 x5_1) _ _ (rd_L1 l1 x5_1) false _ ?side1 ?side2 ?side3 ?side4 A7.out).mono ?_); (case side1 => repeat (first | exact HR355_0.out | (with_reducible refine Kd.C_alloc ?_ _) | (with_reducible refine Kd.C_drewN ?_ _) | (with_reducible refine Kd.C_drew ?_))); (case side2 => exact HC355_0.out); (case side3 => repeat (first | exact HR356_0.out | (with_reducible refine Kd.C_alloc ?_ _) | (with_reducible refine Kd.C_drewN ?_ _) | (with_reducible refine Kd.C_drew ?_))); (case side4 => exact HC356_0.out); rintro e w' ⟨rfl, ⟨nd, rfl⟩⟩; (try first | exact ⟨rfl, _, World.drewN_drewN _ _ _⟩ | exact ⟨rfl, _, Eq.trans (World.drewN_drewN _ _ _) (congrArg (World.drewN _) (Nat.add_assoc _ _ _))⟩))))
        go_ret
        exact ⟨by first | rfl | (simp; done) | (simp [*]; done), by repeat (first | exact Drawn0.refl _ | apply Drawn0.step)⟩
      ·rw [if_neg c6] at H
       exact absurd H (by simp)
     ·rw [if_neg c5] at H
      exact absurd H (by simp)
    ·rw [if_neg c4] at H
     have c4b0 : decide (x5_1 < (l0.length : Int)) = false := decide_eq_false c4
     clear c4
     obtain rfl := Option.some.inj H
     go_wp2
     repeat (go_quiet (fail); try go_wp2)
     go_ret
     exact ⟨by first | rfl | (simp; done) | (simp [*]; done), by repeat (first | exact Drawn0.refl _ | apply Drawn0.step)⟩
 ·rw [if_neg c3] at H
  have c3b0 : ((l0.length : Int) == (l1.length : Int)) = false := beq_eq_false_iff_ne.mpr c3
  have c3b1 : ((l0.length : Int) != (l1.length : Int)) = true := bne_iff_ne.mpr c3
  have c3b2 : (l0.length == l1.length) = false := by first | simpa using c3 | (simp at c3 ⊢; omega)
  obtain rfl := Option.some.inj H
  go_enter Try.func6, Try.ntmps6
  go_wp2
  repeat (go_quiet (fail); try go_wp2)
  go_ret
  exact ⟨by first | rfl | (simp; done) | (simp [*]; done), by repeat (first | exact Drawn0.refl _ | apply Drawn0.step)⟩

/-! ### laws_markIntS: function 21 -/
def laws_markIntS.l0 : Nat → List Int → Int → Int → Option (Int × List Int)
 | 0, _, _, _ => none
 | k + 1, x0, x1, x5 => if x5 < (x0.length : Int) then (if 0 ≤ x5 then (laws_markIntS.l0 k (x0.set (x5 : Int).toNat x1) (wrap64 (x1 + 1)) (wrap64 (x5 + 1))) else (none)) else (some (x1, x0))
def laws_markIntS.f (k : Nat) (l0 : List Int) (a1 : Int) : Option (Int × List Int) := laws_markIntS.l0 k l0 a1 0
theorem laws_markIntS.mono_l : ∀ k, (∀ y0 y1 y2, LeO (laws_markIntS.l0 k y0 y1 y2) (laws_markIntS.l0 (k + 1) y0 y1 y2))
 | 0 => fun _ _ _ r h => by simp [laws_markIntS.l0] at h
 | k + 1 => by
  have ih0 := laws_markIntS.mono_l k
  ·intro y0 y1 y2
   unfold laws_markIntS.l0
   repeat' first
   | (with_reducible exact ih0 _ _ _)
   | (with_reducible exact LeO.refl _)
   | (with_reducible exact LeO.none _)
   | (with_reducible refine LeO.ite ?_ ?_)
   | (with_reducible refine LeO.bind ?_ (fun _ => ?_))
   | exact LeO.none _
   | refine LeO.ite ?_ ?_
   | refine LeO.bind ?_ (fun _ => ?_)
theorem laws_markIntS.mono : ∀ a0 a1 k, LeO (laws_markIntS.f k a0 a1) (laws_markIntS.f (k + 1) a0 a1) := by
 intro a0 a1 k
 have ih0 := laws_markIntS.mono_l k
 unfold laws_markIntS.f
 repeat' first
   | (with_reducible exact ih0 _ _ _)
   | (with_reducible exact LeO.refl _)
   | (with_reducible exact LeO.none _)
   | (with_reducible refine LeO.ite ?_ ?_)
   | (with_reducible refine LeO.bind ?_ (fun _ => ?_))
   | exact LeO.none _
   | refine LeO.ite ?_ ?_
   | refine LeO.bind ?_ (fun _ => ?_)
set_option maxHeartbeats 8000000 in
set_option maxRecDepth 100000 in
theorem laws_markIntS.calls (k : Nat) (P0_ : Nat → Prop) (u9000_ : Value) (l0 : List Int) (a1 : Int) (r1 : Int) (r2 : List Int) (w0 w : World) (hB : Below w0.heap.size w0 w) (ho0 : Kd.R (Kd.int .i64) 3 w w0.heap.size P0_ u9000_ l0) (h : laws_markIntS.f k l0 a1 = some (r1, r2)) :
  Calls Try.prog 21 #[u9000_, .int .i64 a1] w fun e w' => e = .returned (.int .i64 r1) ∧ Kd.R (Kd.int .i64) 3 w' w0.heap.size (fun k_ => (P0_ k_ ∨ w.heap.size ≤ k_)) u9000_ r2 ∧ Below w0.heap.size w0 w' ∧ Kept w w' (fun k_ => P0_ k_) := by
 have HO0 := Aside0.mk (show Kd.R (Kd.int .i64) 3 w w0.heap.size (fun k_ => (P0_ k_ ∨ w.heap.size ≤ k_)) u9000_ l0 from Kd.R_mono ho0 (fun k_ hk => (.inl hk)))
 have HK := Aside0.mk (Kept.refl w (fun k_ => P0_ k_))
 have HW0 := Aside0.mk hB.size
 have HB := Aside0.mk hB
 clear hB
 have H : (laws_markIntS.l0 k l0 a1 0) = some (r1, r2) := h
 clear h
 have H' := Aside0.mk H
 clear H
 go_enter Try.func21, Try.ntmps21
 go_wp2
 go_loopg [1, 5] k (fun kq v1 v5 w' => ∃ (x0_1 : List Int) (x1_1 : Int) (x5_1 : Int), v1 = .int .i64 x1_1 ∧ v5 = .int .i64 x5_1 ∧ Aside0 (laws_markIntS.l0 kq x0_1 x1_1 x5_1 = some (r1, r2)) ∧ Aside0 (kq ≤ k) ∧ Aside0 (Kd.R (Kd.int .i64) 3 w' w0.heap.size (fun k_ => (P0_ k_ ∨ w.heap.size ≤ k_)) u9000_ x0_1) ∧ Aside0 (Kept w w' (fun k_ => P0_ k_)) ∧ Aside0 (Below w0.heap.size w0 w'))
 case atStart => exact ⟨(l0), (a1), (0), (by first | rfl | (simp; done) | (simp [*]; done)), (by first | rfl | (simp; done) | (simp [*]; done)), H', ⟨Nat.le_refl _⟩, ⟨by (with_reducible repeat (first | apply Kd.R_alloc | apply Kd.R_drewN | apply Kd.R_drew)); exact HO0.out⟩, ⟨by repeat (first | (with_reducible first | exact HK.out | apply Kept.alloc | apply Kept.drewN | apply Kept.drew) | exact HK.out)⟩, ⟨by repeat (first | (with_reducible first | exact HB.out | apply below_alloc | apply pw_below_drewN | apply below_drew1) | exact HB.out)⟩⟩
 case round =>
  clear H'
  try clear c2
  try clear p2
  obtain ⟨x0_1, x1_1, x5_1, rfl, rfl, HA, HK1, HO_0, HK, HB⟩ := hrel
  cases gk with
  | zero => exact absurd HA.out (by simp [laws_markIntS.l0])
  | succ k1 =>
   have H := HA.out
   clear HA
   simp only [laws_markIntS.l0] at H
   by_cases c3 : x5_1 < (x0_1.length : Int)
   ·rw [if_pos c3] at H
    have c3b0 : decide (x5_1 < (x0_1.length : Int)) = true := decide_eq_true c3
    clear c3
    by_cases c4 : 0 ≤ x5_1
    ·rw [if_pos c4] at H
     have c4b0 : decide (0 ≤ x5_1) = true := decide_eq_true c4
     clear c4
     obtain ⟨y358, hy358⟩ : ∃ y_ : List Int, y_ = (x0_1.set (x5_1 : Int).toNat x1_1) := ⟨_, rfl⟩
     replace H : (laws_markIntS.l0 k1 y358 (wrap64 (x1_1 + 1)) (wrap64 (x5_1 + 1))) = some (r1, r2) := by first | (rw [hy358]; with_reducible exact H) | (have H2_ := (Option.bind_some _ _).symm.trans H; rw [hy358]; with_reducible exact H2_) | (have H2_ := (Option.bind_some _ _).symm.trans H; with_reducible exact H2_) | with_reducible exact H | (rw [hy358]; exact H) | exact H
     have Ny358 := Aside0.mk hy358
     clear hy358
     have H' := Aside0.mk H
     clear H
     obtain ⟨Ao6, co6, eo6⟩ := Kd.R_slice HO_0.out
     subst eo6
     have p5 : 0 ≤ (x5_1 : Int) := of_decide_eq_true (by first | (with_reducible assumption) | assumption)
     have q5 : (x5_1 : Int) < ((x0_1.length : Int) : Int) := of_decide_eq_true (by first | (with_reducible assumption) | assumption)
     obtain ⟨go5, co5, eo5, gb5, gl5, cl5, HG5⟩ := Kd.R_form HO_0.out (by omega)
     (first | cases eo5 | (injection eo5 with ea_ en_ ec_; (first | subst ea_ | (injection ea_ with ea_; subst ea_)); subst ec_; clear en_))
     have GB5 := Aside0.mk gb5
     have GG5 := Aside0.mk HG5
     clear gb5 gl5 HG5
     have HMgo5 := Aside0.mk (show (P0_ go5 ∨ w.heap.size ≤ go5) from (HO_0.out.1 _ rfl))
     obtain ⟨hx5_0, hf5_0⟩ := Kd.R_celln 0 HO_0.out (x5_1 : Int) p5 q5
     replace p5 := eq_true p5
     replace q5 := eq_true q5
     have HP7 := Kd.R_putg HO_0.out (x5_1 : Int) x1_1
     go_wp2_with (first | ((with_reducible refine gate_store (t := 3) (p := 15) rfl ?_); refine store_event (t := 3) (p := 15) (v := ?vo_w8) (w1 := (wr.setCell ⟨go5, (x5_1 : Int).toNat, none⟩ (.int .i64 x1_1))) ?hg ?ho ?hn ?hr ?_; (case ho => rfl); (case hg => rfl); (case hn => rfl); (case hr => first | (go_simp; done) | (go_simp; rfl)); intro w8 hw; have hg : wr.grownBy w8 (some go5) := (by rw [hw]; exact HP7.2); have hp_ : Kd.R (Kd.int .i64) 3 w8 w0.heap.size (fun k_ => (P0_ k_ ∨ w.heap.size ≤ k_)) (.slice (some ⟨go5, 0, none⟩) x0_1.length co6) y358 := (by rw [hw, Ny358.out]; exact HP7.1); clear HP7; have n0_ := Aside0.mk (hp_); have n1_ := Aside0.mk ((by rw [hw]; exact below_set (HB.out) GB5.out : Below w0.heap.size w0 w8)); have n2_ := Aside0.mk (Kept.of_grown (S := (fun k_ => P0_ k_)) hg (by repeat (first | (with_reducible first | exact HK.out | apply Kept.alloc | apply Kept.drewN | apply Kept.drew) | exact HK.out)) (fun k_ e_ => (HO_0.out.1 k_ e_))); clear HO_0; clear HB; clear HK; have HO_0 := n0_; have HB := n1_; have HK := n2_; clear n0_ n1_ n2_; clear hg hw hp_))
     go_roundg k1
     case measure => have := HK1.out; omega
     case rel => exact ⟨(y358), (wrap64 (x1_1 + 1)), (wrap64 (x5_1 + 1)), (by first | rfl | (simp; done) | (simp [*]; done)), (by first | rfl | (simp; done) | (simp [*]; done)), H', ⟨by have := HK1.out; omega⟩, ⟨by (with_reducible repeat (first | apply Kd.R_alloc | apply Kd.R_drewN | apply Kd.R_drew)); exact HO_0.out⟩, ⟨by repeat (first | (with_reducible first | exact HK.out | apply Kept.alloc | apply Kept.drewN | apply Kept.drew) | exact HK.out)⟩, ⟨by repeat (first | (with_reducible first | exact HB.out | apply below_alloc | apply pw_below_drewN | apply below_drew1) | exact HB.out)⟩⟩
    ·rw [if_neg c4] at H
     exact absurd H (by simp)
   ·rw [if_neg c3] at H
    have c3b0 : decide (x5_1 < (x0_1.length : Int)) = false := decide_eq_false c3
    clear c3
    simp only [Option.some.injEq, Prod.mk.injEq] at H
    obtain ⟨rfl, rfl⟩ := H
    obtain ⟨Ao9, co9, eo9⟩ := Kd.R_slice HO_0.out
    subst eo9
    go_wp2
    go_ret
    exact ⟨by first | rfl | (simp [errW_none, errW_some] <;> rfl) | (simp [*, errW_none, errW_some] <;> rfl), by (with_reducible repeat (first | apply Kd.R_alloc | apply Kd.R_drewN | apply Kd.R_drew)); exact HO_0.out, by repeat (first | (with_reducible first | exact HB.out | apply below_alloc | apply pw_below_drewN | apply below_drew1) | exact HB.out), by repeat (first | (with_reducible first | exact HK.out | apply Kept.alloc | apply Kept.drewN | apply Kept.drew) | exact HK.out)⟩

/-! ### laws_markIntSS: function 7 (each row of a list of rows is written: proved by hand) -/
section
/-- Row by row, the count goes on. -/
def laws_markIntSS.g (k : Nat) : List (List Int) → Int → Option (Int × List (List Int))
  | [], q => some (q, [])
  | x :: t, q => (laws_markIntS.f k x q).bind fun y => (laws_markIntSS.g k t y.1).bind fun z => some (z.1, y.2 :: z.2)
def laws_markIntSS.f (k : Nat) (l0 : List (List Int)) (a1 : Int) : Option (Int × List (List Int)) := if l0.length ≤ 1000000 then laws_markIntSS.g k l0 a1 else none
theorem laws_markIntSS.mono_g (k : Nat) : ∀ (l0 : List (List Int)) (a1 : Int), LeO (laws_markIntSS.g k l0 a1) (laws_markIntSS.g (k + 1) l0 a1)
  | [], _ => LeO.refl _
  | x :: t, q => LeO.bind (laws_markIntS.mono x q k) (fun y => LeO.bind (laws_markIntSS.mono_g k t y.1) (fun _ => LeO.refl _))
theorem laws_markIntSS.mono : ∀ a0 a1 k, LeO (laws_markIntSS.f k a0 a1) (laws_markIntSS.f (k + 1) a0 a1) := fun a0 a1 k => by
  unfold laws_markIntSS.f
  split
  · exact laws_markIntSS.mono_g k a0 a1
  · exact LeO.refl _
theorem laws_markIntSS.g_length (k : Nat) : ∀ (l : List (List Int)) (q r : Int) (l' : List (List Int)), laws_markIntSS.g k l q = some (r, l') → l'.length = l.length
  | [], q, r, l', h => by
    obtain ⟨rfl, rfl⟩ := Prod.mk.inj (Option.some.inj h)
    rfl
  | x :: t, q, r, l', h => by
    obtain ⟨y, _, h2⟩ := Option.bind_eq_some_iff.mp h
    obtain ⟨z, h3, h4⟩ := Option.bind_eq_some_iff.mp h2
    obtain ⟨rfl, rfl⟩ := Prod.mk.inj (Option.some.inj h4)
    rw [List.length_cons, List.length_cons, laws_markIntSS.g_length k t _ _ _ h3]
set_option maxHeartbeats 8000000 in
set_option maxRecDepth 100000 in
theorem laws_markIntSS.calls (k : Nat) (P0_ : Nat → Prop) (u0_ : Value) (l0 : List (List Int)) (a1 : Int) (r1 : Int) (r2 : List (List Int)) (w0 w : World) (hB : Below w0.heap.size w0 w) (ho0 : Kd.S (Kd.slice 3 (Kd.int .i64)) 30 w w0.heap.size P0_ u0_ l0) (h : laws_markIntSS.f k l0 a1 = some (r1, r2)) :
    Calls Try.prog 7 #[u0_, .int .i64 a1] w fun e w' => e = .returned (.int .i64 r1) ∧ Kd.S (Kd.slice 3 (Kd.int .i64)) 30 w' w0.heap.size (fun k_ => (P0_ k_ ∨ w.heap.size ≤ k_)) u0_ r2 ∧ Below w0.heap.size w0 w' ∧ Kept w w' (fun k_ => P0_ k_) := by
  unfold laws_markIntSS.f at h
  split at h
  next hl =>
    obtain ⟨A, c, rfl⟩ := Kd.S_slice ho0
    have T0 : Kd.S (Kd.slice 3 (Kd.int .i64)) 30 w w0.heap.size (fun k_ => (P0_ k_ ∨ w.heap.size ≤ k_)) (.slice A l0.length c) l0 ∧ Below w0.heap.size w0 w ∧ Kept w w (fun k_ => P0_ k_) ∧ laws_markIntSS.g k (l0.drop 0) a1 = some (r1, r2) ∧ l0.take 0 = [] := ⟨Kd.S_mono ho0 (fun _ hk => .inl hk), hB, Kept.refl _ _, h, rfl⟩
    have HT0 := Aside0.mk T0
    clear T0 ho0 hB h
    go_enter Try.func7, Try.ntmps7
    go_wp2
    go_loopw [1, 5] (fun v1 v5 wr => ∃ (i : Nat) (q : Int) (cur tl : List (List Int)), v1 = .int .i64 q ∧ v5 = .int .i64 (i : Int) ∧ i ≤ l0.length ∧ Aside0 (cur.length = l0.length ∧ laws_markIntSS.g k (cur.drop i) q = some (r1, tl) ∧ r2 = cur.take i ++ tl ∧ Kd.S (Kd.slice 3 (Kd.int .i64)) 30 wr w0.heap.size (fun k_ => (P0_ k_ ∨ w.heap.size ≤ k_)) (.slice A l0.length c) cur ∧ Below w0.heap.size w0 wr ∧ Kept w wr (fun k_ => P0_ k_))) (fun _ v5 _ => l0.length - (intOf v5).toNat)
    case atStart =>
      obtain ⟨h1, h2, h3, h4, h5⟩ := HT0.out
      exact ⟨0, a1, l0, r2, rfl, rfl, Nat.zero_le _, ⟨rfl, h4, rfl, h1, h2, h3⟩⟩
    case round =>
      clear HT0
      obtain ⟨i, q, cur, tl, rfl, rfl, hil, HX⟩ := hrel
      by_cases hlt : i < l0.length
      · obtain ⟨x1, x2, x3, x4, x5, x6⟩ := HX.out
        obtain ⟨ad, rfl⟩ : ∃ ad, A = some ad := by
          obtain ⟨g, cap, hg, _⟩ := Kd.R_form (Kd.S_R x4) (by omega)
          injection hg with h1
          exact ⟨_, h1⟩
        obtain ⟨g, rfl⟩ := Kd.R_head (Kd.S_R x4)
        obtain ⟨oki, ce, hcl, hM, hcc, hoki, hH⟩ := Kd.S_lend x4 ([] : List Int) (i : Int) (by omega) (by omega)
        obtain ⟨ve, rfl, hR⟩ := hM
        have hcell := hcc 0 ve rfl
        have hce : wr.cell? ⟨g, i, none⟩ = some ve := by
          rw [← hcell]
          congr 2
          show i = (i : Int).toNat * 1 + 0
          omega
        obtain ⟨row, hrow⟩ : ∃ row, row = cur.getD (i : Int).toNat [] := ⟨_, rfl⟩
        have hdr : cur.drop i = row :: cur.drop (i + 1) := by
          rw [List.drop_eq_getElem_cons (by omega), hrow, Int.toNat_natCast, List.getD_eq_getElem?_getD, List.getElem?_eq_getElem (by omega)]
          rfl
        rw [hdr] at x2
        obtain ⟨⟨q', row'⟩, hm1, hm2⟩ := Option.bind_eq_some_iff.mp x2
        obtain ⟨⟨rz, tl'⟩, hm3, hm4⟩ := Option.bind_eq_some_iff.mp hm2
        obtain ⟨e1, e2⟩ := Prod.mk.inj (Option.some.inj hm4)
        simp only at e1 e2 hm3
        rw [← hrow] at hR
        have cM := laws_markIntS.calls k oki ve row q q' row' w0 wr x5 hR hm1
        have key : ∀ w', Kd.R (Kd.int .i64) 3 w' w0.heap.size (fun k_ => (oki k_ ∨ wr.heap.size ≤ k_)) ve row' → Below w0.heap.size w0 w' → Kept wr w' (fun k_ => oki k_) →
            Aside0 ((cur.set i row').length = l0.length ∧ laws_markIntSS.g k ((cur.set i row').drop (i + 1)) q' = some (r1, tl') ∧ r2 = (cur.set i row').take (i + 1) ++ tl' ∧ Kd.S (Kd.slice 3 (Kd.int .i64)) 30 w' w0.heap.size (fun k_ => (P0_ k_ ∨ w.heap.size ≤ k_)) (.slice (some ⟨g, 0, none⟩) l0.length c) (cur.set i row') ∧ Below w0.heap.size w0 w' ∧ Kept w w' (fun k_ => P0_ k_)) := by
          intro w' hR' hB' hK'
          refine ⟨by rw [List.length_set]; exact x1, ?_, ?_, ?_, hB', ?_⟩
          · rw [List.drop_set_of_lt (by omega), hm3, e1]
          · rw [x3, ← e2, List.take_add_one, List.take_set_of_le (Nat.le_refl i)]
            rw [List.getElem?_set_self (by omega)]
            simp
          · have hH2 := Kd.H_kept (Kd.H_widen hH) hK' (fun k_ _ hn hk => hn (.inl hk))
            have hS2 := Kd.H_back hH2 (x' := row') ⟨ve, rfl, hR'⟩ (fun k_ hk => hk.elim .inl (fun h9 => .inr ⟨.inr (Nat.le_trans x6.1 h9), h9⟩))
            rwa [Int.toNat_natCast] at hS2
          · exact x6.then_ hK' (fun k_ hk => (hoki k_ hk).1)
        have HKEY := Aside0.mk key
        have HCM := Aside0.mk cM
        clear cM key HX x1 x2 x3 x4 x5 x6 hH hR hcc hcell hoki hcl hm1 hm2 hm3 hm4 e1 e2 hdr hrow
        go_wp2_with (first | (go_at_call 21; refine HCM.out.mono ?_; rintro e w' ⟨rfl, hR', hB', hK'⟩; have HN := HKEY.out w' hR' hB' hK'; clear hR' hB' hK' HKEY HCM))
        go_roundw
        case rel => exact ⟨i + 1, q', cur.set i row', tl', rfl, by congr 1, by omega, HN⟩
        case measure => first | (simp [intOf]; done) | (simp [intOf]; omega)
      · obtain rfl : i = l0.length := by omega
        obtain ⟨x1, x2, x3, x4, x5, x6⟩ := HX.out
        rw [← x1, List.drop_length] at x2
        obtain ⟨e1, e2⟩ := Prod.mk.inj (Option.some.inj x2)
        have e3 : r2 = cur := by rw [x3, ← e2, ← x1, List.take_length, List.append_nil]
        have HF : Aside0 (Kd.S (Kd.slice 3 (Kd.int .i64)) 30 wr w0.heap.size (fun k_ => (P0_ k_ ∨ w.heap.size ≤ k_)) (.slice A l0.length c) r2 ∧ Below w0.heap.size w0 wr ∧ Kept w wr (fun k_ => P0_ k_)) := ⟨by rw [e3]; exact x4, x5, x6⟩
        clear HX x1 x2 x3 x4 x5 x6 e2 e3
        subst e1
        go_wp2
        go_ret
        exact ⟨rfl, HF.out.1, HF.out.2.1, HF.out.2.2⟩
  next => cases h
end

/-! ### laws_heldIntS: function 22 -/
def laws_heldIntS.l0 : Nat → List Int → Int → Int → Option (Int)
 | 0, _, _, _ => none
 | k + 1, x0, x1, x5 => if x5 < (x0.length : Int) then (if 0 ≤ x5 then (if (rd x0 x5) = x1 then (laws_heldIntS.l0 k x0 (wrap64 (x1 + 1)) (wrap64 (x5 + 1))) else (some (-1))) else (none)) else (some x1)
def laws_heldIntS.f (k : Nat) (l0 : List Int) (a1 : Int) : Option (Int) := laws_heldIntS.l0 k l0 a1 0
theorem laws_heldIntS.mono_l : ∀ k, (∀ y0 y1 y2, LeO (laws_heldIntS.l0 k y0 y1 y2) (laws_heldIntS.l0 (k + 1) y0 y1 y2))
 | 0 => fun _ _ _ r h => by simp [laws_heldIntS.l0] at h
 | k + 1 => by
  have ih0 := laws_heldIntS.mono_l k
  ·intro y0 y1 y2
   unfold laws_heldIntS.l0
   repeat' first
   | (with_reducible exact ih0 _ _ _)
   | (with_reducible exact LeO.refl _)
   | (with_reducible exact LeO.none _)
   | (with_reducible refine LeO.ite ?_ ?_)
   | (with_reducible refine LeO.bind ?_ (fun _ => ?_))
   | exact LeO.none _
   | refine LeO.ite ?_ ?_
   | refine LeO.bind ?_ (fun _ => ?_)
theorem laws_heldIntS.mono : ∀ a0 a1 k, LeO (laws_heldIntS.f k a0 a1) (laws_heldIntS.f (k + 1) a0 a1) := by
 intro a0 a1 k
 have ih0 := laws_heldIntS.mono_l k
 unfold laws_heldIntS.f
 repeat' first
   | (with_reducible exact ih0 _ _ _)
   | (with_reducible exact LeO.refl _)
   | (with_reducible exact LeO.none _)
   | (with_reducible refine LeO.ite ?_ ?_)
   | (with_reducible refine LeO.bind ?_ (fun _ => ?_))
   | exact LeO.none _
   | refine LeO.ite ?_ ?_
   | refine LeO.bind ?_ (fun _ => ?_)
set_option maxHeartbeats 8000000 in
set_option maxRecDepth 100000 in
theorem laws_heldIntS.calls (k : Nat) (A0 : Option Addr) (c0 : Nat) (l0 : List Int) (a1 : Int) (r : Int) (w : World) (hr0 : Kd.C (Kd.int .i64) w A0 l0.length l0) (hc0 : l0.length ≤ c0) (h : laws_heldIntS.f k l0 a1 = some r) :
  Calls Try.prog 22 #[.slice A0 l0.length c0, .int .i64 a1] w fun e w' => e = .returned (.int .i64 r) ∧ Drawn0 w w' := by
 have HR0 := Aside0.mk hr0
 have HC0 := Aside0.mk hc0
 clear hr0 hc0
 have H : (laws_heldIntS.l0 k l0 a1 0) = some r := h
 clear h
 have H' := Aside0.mk H
 clear H
 go_enter Try.func22, Try.ntmps22
 go_wp2
 go_loopg [1, 5] k (fun kq v1 v5 w' => ∃ (x1_1 : Int) (x5_1 : Int), v1 = .int .i64 x1_1 ∧ v5 = .int .i64 x5_1 ∧ Aside0 (laws_heldIntS.l0 kq l0 x1_1 x5_1 = some r) ∧ Aside0 (kq ≤ k) ∧ Drawn0 w w')
 case atStart => exact ⟨(a1), (0), (by first | rfl | (simp; done) | (simp [*]; done)), (by first | rfl | (simp; done) | (simp [*]; done)), H', ⟨Nat.le_refl _⟩, by repeat (first | exact Drawn0.refl _ | apply Drawn0.step)⟩
 case round =>
  clear H'
  try clear c2
  try clear p2
  obtain ⟨x1_1, x5_1, rfl, rfl, HA, HK1, ⟨m1, rfl⟩⟩ := hrel
  cases gk with
  | zero => exact absurd HA.out (by simp [laws_heldIntS.l0])
  | succ k1 =>
   have H := HA.out
   clear HA
   simp only [laws_heldIntS.l0] at H
   by_cases c3 : x5_1 < (l0.length : Int)
   ·rw [if_pos c3] at H
    have c3b0 : decide (x5_1 < (l0.length : Int)) = true := decide_eq_true c3
    clear c3
    by_cases c4 : 0 ≤ x5_1
    ·rw [if_pos c4] at H
     have c4b0 : decide (0 ≤ x5_1) = true := decide_eq_true c4
     clear c4
     by_cases c5 : (rd l0 x5_1) = x1_1
     ·rw [if_pos c5] at H
      have c5b0 : ((rd l0 x5_1) == x1_1) = true := beq_iff_eq.mpr c5
      have c5b1 : ((rd l0 x5_1) != x1_1) = false := bne_eq_false_iff_eq.mpr c5
      clear c5
      have H' := Aside0.mk H
      clear H
      have p359 : 0 ≤ (x5_1 : Int) := of_decide_eq_true (by first | (with_reducible assumption) | assumption)
      have q359 : x5_1 < (l0.length : Int) := of_decide_eq_true (by first | (with_reducible assumption) | assumption)
      obtain ⟨ad359, e359, hx359_0⟩ := Kd.at_int HR0.out x5_1 p359 q359
      cases e359
      replace p359 := eq_true p359
      replace q359 := eq_true q359
      go_wp2
      go_roundg k1
      case measure => have := HK1.out; omega
      case rel => exact ⟨(wrap64 (x1_1 + 1)), (wrap64 (x5_1 + 1)), (by first | rfl | (simp; done) | (simp [*]; done)), (by first | rfl | (simp; done) | (simp [*]; done)), H', ⟨by have := HK1.out; omega⟩, by repeat (first | exact Drawn0.refl _ | apply Drawn0.step)⟩
     ·rw [if_neg c5] at H
      have c5b0 : ((rd l0 x5_1) == x1_1) = false := beq_eq_false_iff_ne.mpr c5
      have c5b1 : ((rd l0 x5_1) != x1_1) = true := bne_iff_ne.mpr c5
      obtain rfl := Option.some.inj H
      have p359 : 0 ≤ (x5_1 : Int) := of_decide_eq_true (by first | (with_reducible assumption) | assumption)
      have q359 : x5_1 < (l0.length : Int) := of_decide_eq_true (by first | (with_reducible assumption) | assumption)
      obtain ⟨ad359, e359, hx359_0⟩ := Kd.at_int HR0.out x5_1 p359 q359
      cases e359
      replace p359 := eq_true p359
      replace q359 := eq_true q359
      go_wp2
      go_ret
      exact ⟨by first | rfl | (simp; done) | (simp [*]; done), by repeat (first | exact Drawn0.refl _ | apply Drawn0.step)⟩
    ·rw [if_neg c4] at H
     exact absurd H (by simp)
   ·rw [if_neg c3] at H
    have c3b0 : decide (x5_1 < (l0.length : Int)) = false := decide_eq_false c3
    clear c3
    obtain rfl := Option.some.inj H
    go_wp2
    go_ret
    exact ⟨by first | rfl | (simp; done) | (simp [*]; done), by repeat (first | exact Drawn0.refl _ | apply Drawn0.step)⟩

/-! ### laws_heldIntSS: function 8 -/
def laws_heldIntSS.l0 : Nat → List (List Int) → Int → Int → Option (Int)
 | 0, _, _, _ => none
 | k + 1, x0, x1, x5 => if x5 < (x0.length : Int) then (if 0 ≤ x5 then ((laws_heldIntS.f k (rd_L1 x0 x5) x1).bind fun t361 => (if t361 < 0 then (some (-1)) else (laws_heldIntSS.l0 k x0 t361 (wrap64 (x5 + 1))))) else (none)) else (some x1)
def laws_heldIntSS.f (k : Nat) (l0 : List (List Int)) (a1 : Int) : Option (Int) := laws_heldIntSS.l0 k l0 a1 0
theorem laws_heldIntSS.mono_l : ∀ k, (∀ y0 y1 y2, LeO (laws_heldIntSS.l0 k y0 y1 y2) (laws_heldIntSS.l0 (k + 1) y0 y1 y2))
 | 0 => fun _ _ _ r h => by simp [laws_heldIntSS.l0] at h
 | k + 1 => by
  have ih0 := laws_heldIntSS.mono_l k
  ·intro y0 y1 y2
   unfold laws_heldIntSS.l0
   repeat' first
   | (with_reducible exact ih0 _ _ _)
   | (with_reducible exact laws_heldIntS.mono _ _ _)
   | (with_reducible exact LeO.refl _)
   | (with_reducible exact LeO.none _)
   | (with_reducible refine LeO.ite ?_ ?_)
   | (with_reducible refine LeO.bind ?_ (fun _ => ?_))
   | exact LeO.none _
   | refine LeO.ite ?_ ?_
   | refine LeO.bind ?_ (fun _ => ?_)
theorem laws_heldIntSS.mono : ∀ a0 a1 k, LeO (laws_heldIntSS.f k a0 a1) (laws_heldIntSS.f (k + 1) a0 a1) := by
 intro a0 a1 k
 have ih0 := laws_heldIntSS.mono_l k
 unfold laws_heldIntSS.f
 repeat' first
   | (with_reducible exact ih0 _ _ _)
   | (with_reducible exact laws_heldIntS.mono _ _ _)
   | (with_reducible exact LeO.refl _)
   | (with_reducible exact LeO.none _)
   | (with_reducible refine LeO.ite ?_ ?_)
   | (with_reducible refine LeO.bind ?_ (fun _ => ?_))
   | exact LeO.none _
   | refine LeO.ite ?_ ?_
   | refine LeO.bind ?_ (fun _ => ?_)
set_option maxHeartbeats 8000000 in
set_option maxRecDepth 100000 in
theorem laws_heldIntSS.calls (k : Nat) (A0 : Option Addr) (c0 : Nat) (l0 : List (List Int)) (a1 : Int) (r : Int) (w : World) (hr0 : Kd.C (Kd.slice 3 (Kd.int .i64)) w A0 l0.length l0) (hc0 : l0.length ≤ c0) (h : laws_heldIntSS.f k l0 a1 = some r) :
  Calls Try.prog 8 #[.slice A0 l0.length c0, .int .i64 a1] w fun e w' => e = .returned (.int .i64 r) ∧ Drawn0 w w' := by
 have HR0 := Aside0.mk hr0
 have HC0 := Aside0.mk hc0
 clear hr0 hc0
 have H : (laws_heldIntSS.l0 k l0 a1 0) = some r := h
 clear h
 have H' := Aside0.mk H
 clear H
 go_enter Try.func8, Try.ntmps8
 go_wp2
 go_loopg [1, 5] k (fun kq v1 v5 w' => ∃ (x1_1 : Int) (x5_1 : Int), v1 = .int .i64 x1_1 ∧ v5 = .int .i64 x5_1 ∧ Aside0 (laws_heldIntSS.l0 kq l0 x1_1 x5_1 = some r) ∧ Aside0 (kq ≤ k) ∧ Drawn0 w w')
 case atStart => exact ⟨(a1), (0), (by first | rfl | (simp; done) | (simp [*]; done)), (by first | rfl | (simp; done) | (simp [*]; done)), H', ⟨Nat.le_refl _⟩, by repeat (first | exact Drawn0.refl _ | apply Drawn0.step)⟩
 case round =>
  clear H'
  try clear p2
  obtain ⟨x1_1, x5_1, rfl, rfl, HA, HK1, ⟨m1, rfl⟩⟩ := hrel
  cases gk with
  | zero => exact absurd HA.out (by simp [laws_heldIntSS.l0])
  | succ k1 =>
   have H := HA.out
   clear HA
   simp only [laws_heldIntSS.l0] at H
   by_cases c3 : x5_1 < (l0.length : Int)
   ·rw [if_pos c3] at H
    have c3b0 : decide (x5_1 < (l0.length : Int)) = true := decide_eq_true c3
    clear c3
    by_cases c4 : 0 ≤ x5_1
    ·rw [if_pos c4] at H
     have c4b0 : decide (0 ≤ x5_1) = true := decide_eq_true c4
     clear c4
     replace H := Option.bind_eq_some_iff.mp H
     obtain ⟨t361, A50, H⟩ := H
     replace H : (if t361 < 0 then (some (-1)) else (laws_heldIntSS.l0 k1 l0 t361 (wrap64 (x5_1 + 1)))) = some r := H
     have A5 := Aside0.mk A50
     clear A50
     by_cases c6 : t361 < 0
     ·rw [if_pos c6] at H
      have c6b0 : decide (t361 < 0) = true := decide_eq_true c6
      clear c6
      obtain rfl := Option.some.inj H
      have p360 : 0 ≤ (x5_1 : Int) := of_decide_eq_true (by first | (with_reducible assumption) | assumption)
      have q360 : x5_1 < (l0.length : Int) := of_decide_eq_true (by first | (with_reducible assumption) | assumption)
      obtain ⟨ad360, A360_0, c360_0, e360, hx360_0, hl360_0, hi360_0⟩ := at_L1 HR0.out x5_1 p360 q360
      cases e360
      have HR360_0 := Aside0.mk hi360_0
      have HC360_0 := Aside0.mk hl360_0
      clear hi360_0 hl360_0
      replace p360 := eq_true p360
      replace q360 := eq_true q360
      go_wp2_with (first | ((with_reducible refine gate_callee (f := 22) rfl ?_); refine goesL_ (some 17) rfl rfl Try.func22 (by kernel_rfl) rfl #[.slice A360_0 (rd_L1 l0 x5_1).length c360_0, .int .i64 x1_1] rfl (by (try simp only [List.map_toArray, List.map_cons, List.map_nil]); first | done | rfl | (simp only [List.length_drop, List.length_take]; rfl)) ?_; (with_reducible refine (laws_heldIntS.calls k1 _ _ (rd_L1 l0 x5_1) x1_1 t361 _ ?side1 ?side2 A5.out).mono ?_); (case side1 => repeat (first | exact HR360_0.out | (with_reducible refine Kd.C_alloc ?_ _) | (with_reducible refine Kd.C_drewN ?_ _) | (with_reducible refine Kd.C_drew ?_))); (case side2 => exact HC360_0.out); rintro e w' ⟨rfl, ⟨nd, rfl⟩⟩; refine ⟨_, rfl, ?_⟩))
      go_ret
      exact ⟨by first | rfl | (simp; done) | (simp [*]; done), by repeat (first | exact Drawn0.refl _ | apply Drawn0.step)⟩
     ·rw [if_neg c6] at H
      have c6b0 : decide (t361 < 0) = false := decide_eq_false c6
      clear c6
      have H' := Aside0.mk H
      clear H
      have p360 : 0 ≤ (x5_1 : Int) := of_decide_eq_true (by first | (with_reducible assumption) | assumption)
      have q360 : x5_1 < (l0.length : Int) := of_decide_eq_true (by first | (with_reducible assumption) | assumption)
      obtain ⟨ad360, A360_0, c360_0, e360, hx360_0, hl360_0, hi360_0⟩ := at_L1 HR0.out x5_1 p360 q360
      cases e360
      have HR360_0 := Aside0.mk hi360_0
      have HC360_0 := Aside0.mk hl360_0
      clear hi360_0 hl360_0
      replace p360 := eq_true p360
      replace q360 := eq_true q360
      go_wp2_with (first | ((with_reducible refine gate_callee (f := 22) rfl ?_); refine goesL_ (some 17) rfl rfl Try.func22 (by kernel_rfl) rfl #[.slice A360_0 (rd_L1 l0 x5_1).length c360_0, .int .i64 x1_1] rfl (by (try simp only [List.map_toArray, List.map_cons, List.map_nil]); first | done | rfl | (simp only [List.length_drop, List.length_take]; rfl)) ?_; (with_reducible refine (laws_heldIntS.calls k1 _ _ (rd_L1 l0 x5_1) x1_1 t361 _ ?side1 ?side2 A5.out).mono ?_); (case side1 => repeat (first | exact HR360_0.out | (with_reducible refine Kd.C_alloc ?_ _) | (with_reducible refine Kd.C_drewN ?_ _) | (with_reducible refine Kd.C_drew ?_))); (case side2 => exact HC360_0.out); rintro e w' ⟨rfl, ⟨nd, rfl⟩⟩; refine ⟨_, rfl, ?_⟩))
      go_roundg k1
      case measure => have := HK1.out; omega
      case rel => exact ⟨(t361), (wrap64 (x5_1 + 1)), (by first | rfl | (simp; done) | (simp [*]; done)), (by first | rfl | (simp; done) | (simp [*]; done)), H', ⟨by have := HK1.out; omega⟩, by repeat (first | exact Drawn0.refl _ | apply Drawn0.step)⟩
    ·rw [if_neg c4] at H
     exact absurd H (by simp)
   ·rw [if_neg c3] at H
    have c3b0 : decide (x5_1 < (l0.length : Int)) = false := decide_eq_false c3
    clear c3
    obtain rfl := Option.some.inj H
    go_wp2
    go_ret
    exact ⟨by first | rfl | (simp; done) | (simp [*]; done), by repeat (first | exact Drawn0.refl _ | apply Drawn0.step)⟩

/-! ### What is told of the rows of rows of a law: what the reference made, what came in, what was made -/
section
structure SSF (w W : World) (n2 n3 n4 : Nat) (vw : Value) (s : List (List Int)) (vx : Value) (lx : List Int) (vy : Value) (ly : List Int) (vg : Value) (sg : List (List Int)) : Prop where
  bel : Below w.heap.size w W
  sw : Kd.S (Kd.slice 3 (Kd.int .i64)) 30 W w.heap.size (fun k => k < n2) vw s
  rx : Kd.R (Kd.int .i64) 3 W w.heap.size (fun k => (n2 ≤ k ∧ k < n3) ∧ some k ≠ vy.ownBlock) vx lx
  ry : Kd.R (Kd.int .i64) 3 W w.heap.size (fun k => (n2 ≤ k ∧ k < n3) ∧ some k ≠ vx.ownBlock) vy ly
  sg : Kd.S (Kd.slice 3 (Kd.int .i64)) 30 W w.heap.size (fun k => n3 ≤ k ∧ k < n4) vg sg
  l23 : n2 ≤ n3
  l34 : n3 ≤ n4
  l4 : n4 ≤ W.heap.size
theorem SSF.below {w W W' : World} {n2 n3 n4 : Nat} {vw vx vy vg : Value} {s sg : List (List Int)} {lx ly : List Int} (h : SSF w W n2 n3 n4 vw s vx lx vy ly vg sg) (hb : Below W.heap.size W W') : SSF w W' n2 n3 n4 vw s vx lx vy ly vg sg :=
  ⟨h.bel.trans (hb.mono h.bel.size), Kd.S_below h.sw hb, Kd.R_below h.rx hb, Kd.R_below h.ry hb, Kd.S_below h.sg hb, h.l23, h.l34, Nat.le_trans h.l4 hb.size⟩
theorem SSF.start {w W1 W2 : World} {v : Value} {s : List (List Int)} {ok : Nat → Prop} (b1 : Below w.heap.size w W1) (b2 : Below W1.heap.size W1 W2) (hS : Kd.S (Kd.slice 3 (Kd.int .i64)) 30 W2 W1.heap.size ok v s) :
    SSF w W2 W2.heap.size W2.heap.size W2.heap.size v s (.slice none 0 0) [] (.slice none 0 0) [] (.slice none 0 0) [] :=
  ⟨b1.trans (b2.mono b1.size), Kd.S_lower (Kd.S_mono (Kd.S_bound hS) (fun _ hk => hk.2.2.1)) b1.size, Kd.R_nil _ _ _ _ _, Kd.R_nil _ _ _ _ _, Kd.S_nil _ _ _ _ _, Nat.le_refl _, Nat.le_refl _, Nat.le_refl _⟩
theorem SSF.x {w W W' : World} {n2 n3 n4 : Nat} {vw v : Value} {s : List (List Int)} {l : List Int} {ok : Nat → Prop} (h : SSF w W n2 n3 n4 vw s (.slice none 0 0) [] (.slice none 0 0) [] (.slice none 0 0) []) (hb : Below W.heap.size W W') (hR : Kd.R (Kd.int .i64) 3 W' W.heap.size ok v l) :
    SSF w W' n2 W'.heap.size W'.heap.size vw s v l (.slice none 0 0) [] (.slice none 0 0) [] :=
  ⟨h.bel.trans (hb.mono h.bel.size), Kd.S_below h.sw hb, Kd.R_lower (Kd.R_mono (Kd.R_bound hR) (fun k hk => ⟨⟨by have := h.l23; have := h.l34; have := h.l4; have := hk.2.1; omega, hk.2.2.1⟩, by simp [Value.ownBlock]⟩)) h.bel.size, Kd.R_nil _ _ _ _ _, Kd.S_nil _ _ _ _ _, by have := h.l23; have := h.l34; have := h.l4; have := hb.size; omega, Nat.le_refl _, Nat.le_refl _⟩
theorem SSF.xy {w W W' : World} {n2 n3 n4 : Nat} {vw v0 v1 : Value} {s : List (List Int)} {l m : List Int} (h : SSF w W n2 n3 n4 vw s (.slice none 0 0) [] (.slice none 0 0) [] (.slice none 0 0) []) (hb : Below W.heap.size W W') (hR : Kd.R (Kd.int .i64) 3 W' W.heap.size (fun k_ => some k_ ≠ v1.ownBlock) v0 l) (hR2 : Kd.R (Kd.int .i64) 3 W' W.heap.size (fun k_ => some k_ ≠ v0.ownBlock) v1 m) :
    SSF w W' n2 W'.heap.size W'.heap.size vw s v0 l v1 m (.slice none 0 0) [] :=
  ⟨h.bel.trans (hb.mono h.bel.size), Kd.S_below h.sw hb, Kd.R_lower (Kd.R_mono (Kd.R_bound hR) (fun k hk => ⟨⟨by have := h.l23; have := h.l34; have := h.l4; have := hk.2.1; omega, hk.2.2.1⟩, hk.1⟩)) h.bel.size, Kd.R_lower (Kd.R_mono (Kd.R_bound hR2) (fun k hk => ⟨⟨by have := h.l23; have := h.l34; have := h.l4; have := hk.2.1; omega, hk.2.2.1⟩, hk.1⟩)) h.bel.size, Kd.S_nil _ _ _ _ _, by have := h.l23; have := h.l34; have := h.l4; have := hb.size; omega, Nat.le_refl _, Nat.le_refl _⟩
theorem SSF.g {w W W' : World} {n2 n3 n4 : Nat} {vw vx vy v : Value} {s sg : List (List Int)} {lx ly : List Int} {ok : Nat → Prop} (h : SSF w W n2 n3 n4 vw s vx lx vy ly (.slice none 0 0) []) (hb : Below W.heap.size W W') (hS : Kd.S (Kd.slice 3 (Kd.int .i64)) 30 W' W.heap.size ok v sg) :
    SSF w W' n2 n3 W'.heap.size vw s vx lx vy ly v sg :=
  ⟨h.bel.trans (hb.mono h.bel.size), Kd.S_below h.sw hb, Kd.R_below h.rx hb, Kd.R_below h.ry hb, Kd.S_lower (Kd.S_mono (Kd.S_bound hS) (fun k hk => ⟨by have := h.l34; have := h.l4; have := hk.2.1; omega, hk.2.2.1⟩)) h.bel.size, h.l23, by have := h.l34; have := h.l4; have := hb.size; omega, Nat.le_refl _⟩
theorem SSF.markx {w W W' : World} {n2 n3 n4 : Nat} {vw vx vy vg : Value} {s sg : List (List Int)} {lx ly : List Int} {P : Nat → Prop} (h : SSF w W n2 n3 n4 vw s vx lx vy ly vg sg) (hb : Below w.heap.size w W') (hk : Kept W W' P) (hP : ∀ k, P k → n2 ≤ k ∧ k < n3) :
    SSF w W' n2 n3 n4 vw s (.slice none 0 0) [] (.slice none 0 0) [] vg sg :=
  ⟨hb, Kd.S_kept h.sw hk (fun k h1 h2 => by have := hP k h2; omega), Kd.R_nil _ _ _ _ _, Kd.R_nil _ _ _ _ _, Kd.S_kept h.sg hk (fun k h1 h2 => by have := hP k h2; omega), h.l23, h.l34, Nat.le_trans h.l4 hk.1⟩
theorem SSF.markg {w W W' : World} {n2 n3 n4 : Nat} {vw vg : Value} {s sg sg' : List (List Int)} (h : SSF w W n2 n3 n4 vw s (.slice none 0 0) [] (.slice none 0 0) [] vg sg) (hb : Below w.heap.size w W') (hk : Kept W W' (fun k => n3 ≤ k ∧ k < n4)) (hS : Kd.S (Kd.slice 3 (Kd.int .i64)) 30 W' w.heap.size (fun k_ => (n3 ≤ k_ ∧ k_ < n4) ∨ W.heap.size ≤ k_) vg sg') :
    SSF w W' n2 n3 W'.heap.size vw s (.slice none 0 0) [] (.slice none 0 0) [] vg sg' :=
  ⟨hb, Kd.S_kept h.sw hk (fun k h1 h2 => by have := h.l23; omega), Kd.R_nil _ _ _ _ _, Kd.R_nil _ _ _ _ _, Kd.S_mono (Kd.S_bound hS) (fun k h1 => ⟨by have := h.l34; have := h.l4; omega, h1.2.2.1⟩), h.l23, by have := h.l34; have := h.l4; have := hk.1; omega, Nat.le_refl _⟩
end
/-! ### laws_FnExactSpreadOfWalks: function 3 (proved by hand) -/
section
def laws_FnExactSpreadOfWalks.ok (k : Nat) (a0 : Int) : Prop := ∃ (s : List (List Int)) (b : Bool) (m2 : Int) (s' : List (List Int)), spec_SpreadOfWalks.f k a0 = some (s, b) ∧ impl_SpreadOfWalks.f k a0 = some (s, b) ∧ laws_eqIntSS.f k s s = some true ∧ laws_markIntSS.f k s 1 = some (m2, s') ∧ laws_heldIntSS.f k s' 1 = some m2 ∧ 0 ≤ m2
open Classical in
noncomputable def laws_FnExactSpreadOfWalks.f (k : Nat) (a0 : Int) : Option Bool := if laws_FnExactSpreadOfWalks.ok k a0 then some true else none
set_option maxHeartbeats 8000000 in
set_option maxRecDepth 100000 in
theorem laws_FnExactSpreadOfWalks.calls (k : Nat) (a0 : Int) (r : Bool) (w : World) (h : laws_FnExactSpreadOfWalks.f k a0 = some r) :
    Calls Try.prog 3 #[.int .i64 a0] w fun e w' => e = .returned (.bool r) ∧ Below w.heap.size w w' := by
  unfold laws_FnExactSpreadOfWalks.f at h
  split at h
  next hor =>
    obtain rfl := Option.some.inj h
    obtain ⟨s, b, m2, s', h1, h2, h5, h7, h8, hm2⟩ := hor
    have hs' : s'.length = s.length := by
      unfold laws_markIntSS.f at h7
      split at h7
      · exact laws_markIntSS.g_length k _ _ _ _ h7
      · cases h7
    have H1 := Aside0.mk h1; have H2 := Aside0.mk h2; have H5 := Aside0.mk h5; have H7 := Aside0.mk h7; have H8 := Aside0.mk h8; have HL := Aside0.mk hs'
    have d2 : decide (m2 < 0) = false := decide_eq_false (by omega)
    have S1 := Aside0.mk (Below.refl w.heap.size w)
    clear h h1 h2 h5 h7 h8 hs' hm2
    go_enter Try.func3, Try.ntmps3
    go_wp2_with (first
      | (go_at_call 4; have z := S1.out; clear S1; refine (spec_SpreadOfWalks.calls k a0 s b _ H1.out).mono ?_; rintro e W2 ⟨v2, rfl, hS2, hb2⟩; obtain ⟨A2, c2, rfl⟩ := Kd.S_slice hS2; have S3 := Aside0.mk (SSF.start z hb2 hS2); clear z hS2 hb2)
      | (go_at_call 5; have z := S3.out; clear S3; refine (impl_SpreadOfWalks.calls k a0 s b _ H2.out).mono ?_; rintro e W4 ⟨v4, rfl, hS4, hb4⟩; obtain ⟨A4, c4, rfl⟩ := Kd.S_slice hS4; have S4 := Aside0.mk (z.g hb4 hS4); clear z hS4 hb4)
      | (go_at_call 6; have z := S4.out; clear S4; refine (laws_eqIntSS.calls k _ _ s _ _ s true _ (Kd.S_reads' z.sg).2.2 (Kd.S_reads' z.sg).2.1 (Kd.S_reads' z.sw).2.2 (Kd.S_reads' z.sw).2.1 H5.out).mono ?_; rintro e W5 ⟨rfl, hd⟩; have S9 := Aside0.mk (z.below hd.below); clear z hd)
      | (go_at_call 7; have z := S9.out; clear S9; refine (laws_markIntSS.calls k _ _ s 1 m2 s' w _ z.bel z.sg H7.out).mono ?_; rintro e W10 ⟨rfl, hS10, hb10, hk10⟩; have S10 := Aside0.mk (z.markg hb10 hk10 hS10); clear z hS10 hb10 hk10)
      | (go_at_call 8; have z := S10.out; clear S10; have cH := laws_heldIntSS.calls k _ _ s' 1 m2 _ (Kd.S_reads' z.sg).2.2 (HL.out ▸ (Kd.S_reads' z.sg).2.1) H8.out; rw [HL.out] at cH; refine cH.mono ?_; rintro e W11 ⟨rfl, hd⟩; have S12 := Aside0.mk (z.below hd.below); clear z hd cH)
      | (go_at_call 5; have z := S12.out; clear S12; refine (impl_SpreadOfWalks.calls k a0 s b _ H2.out).mono ?_; rintro e W13 ⟨v13, rfl, hS13, hb13⟩; obtain ⟨A13, c13, rfl⟩ := Kd.S_slice hS13; have S13 := Aside0.mk (And.intro (z.below hb13) hS13); clear z hS13 hb13)
      | (go_at_call 6; have z := S13.out; clear S13; refine (laws_eqIntSS.calls k _ _ s _ _ s true _ (Kd.S_reads' z.2).2.2 (Kd.S_reads' z.2).2.1 (Kd.S_reads' z.1.sw).2.2 (Kd.S_reads' z.1.sw).2.1 H5.out).mono ?_; rintro e W14 ⟨rfl, hd⟩; have S14 := Aside0.mk (z.1.below hd.below); clear z hd)
      | (go_at_call 8; have z := S14.out; clear S14; have cH := laws_heldIntSS.calls k _ _ s' 1 m2 _ (Kd.S_reads' z.sg).2.2 (HL.out ▸ (Kd.S_reads' z.sg).2.1) H8.out; rw [HL.out] at cH; refine cH.mono ?_; rintro e W15 ⟨rfl, hd⟩; have S15 := Aside0.mk (z.below hd.below); clear z hd cH))
    go_ret
    exact ⟨by first | rfl | simp, S15.out.bel⟩
  next => cases h
end
/-- THE ONE PURE STATEMENT of laws_FnExactSpreadOfWalks: yours. -/
def laws_FnExactSpreadOfWalks.Pure : Prop := ∀ (a0 : Int), (Lit.int .i64 a0).wf = true → ∃ k, laws_FnExactSpreadOfWalks.f k a0 = some true
theorem laws_FnExactSpreadOfWalks.walk (P : laws_FnExactSpreadOfWalks.Pure) (a0 : Int) (w : World) (w0 : (Lit.int .i64 a0).wf = true) :
    Calls Try.prog 3 #[.int .i64 a0] w fun e w' => e = .returned (.bool true) ∧ Below w.heap.size w w' := by
  obtain ⟨k, h⟩ := P a0 w0
  refine (laws_FnExactSpreadOfWalks.calls k a0 true w h).mono ?_
  rintro e w' ⟨rfl, hd⟩
  exact ⟨rfl, hd⟩

end Go.Proofs.Ytmamemhfeoopnaa.PFnExactSpreadOfWalks
