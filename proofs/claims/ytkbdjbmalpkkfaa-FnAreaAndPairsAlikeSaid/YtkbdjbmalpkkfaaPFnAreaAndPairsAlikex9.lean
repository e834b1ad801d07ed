-- Written by a program of this session for this claim (its own turn of the print).
import Derived.Test.YtkbdjbmalpkkfaaPFnAreaAndPairsAlikex0
import Derived.Test.YtkbdjbmalpkkfaaPFnAreaAndPairsAlikex1
import Derived.Test.YtkbdjbmalpkkfaaPFnAreaAndPairsAlikex7
import Derived.Test.YtkbdjbmalpkkfaaPFnAreaAndPairsAlikex8
namespace Go.Proofs.Ytkbdjbmalpkkfaa.PFnAreaAndPairsAlike
open Go.RowKit Go.Proofs.YtkbdjbmalpkkfaaW.PrintWords Go.Proofs.YtkbdjbmalpkkfaaW.PrintLast Go.Proofs.YtkbdjbmalpkkfaaW.PrintMore
attribute [local go_sem] max2_int min2_int max_two min_two max_three min_three max_four min_four   -- for this text's walks alone
set_option linter.unusedVariables false
set_option linter.unusedSimpArgs false

/-! ### spec_paSum: function 72 -/
def spec_paSum.l0 : Nat → Int → List Int → Int → Int → Option (Int)
 | 0, _, _, _, _ => none
 | k + 1, x3, x6, x7, x8 => if x8 < x7 then (if 0 ≤ x8 then (if x8 < (x6.length : Int) then (spec_paSum.l0 k (wrap64 (x3 + (rd x6 x8))) x6 x7 (wrap64 (x8 + 1))) else (none)) else (none)) else (some x3)
def spec_paSum.f (k : Nat) (l0 : List Int) : Option (Int) := spec_paSum.l0 k 0 l0 (l0.length : Int) 0
theorem spec_paSum.mono_l : ∀ k, (∀ y0 y1 y2 y3, LeO (spec_paSum.l0 k y0 y1 y2 y3) (spec_paSum.l0 (k + 1) y0 y1 y2 y3))
 | 0 => fun _ _ _ _ r h => by simp [spec_paSum.l0] at h
 | k + 1 => by
  have ih0 := spec_paSum.mono_l k
  ·intro y0 y1 y2 y3
   unfold spec_paSum.l0
   repeat' first
   | (with_reducible exact ih0 _ _ _ _)
   | (with_reducible exact LeO.refl _)
   | (with_reducible exact LeO.none _)
   | (with_reducible refine LeO.ite ?_ ?_)
   | (with_reducible refine LeO.bind ?_ (fun _ => ?_))
   | exact LeO.none _
   | refine LeO.ite ?_ ?_
   | refine LeO.bind ?_ (fun _ => ?_)
theorem spec_paSum.mono : ∀ a0 k, LeO (spec_paSum.f k a0) (spec_paSum.f (k + 1) a0) := by
 intro a0 k
 have ih0 := spec_paSum.mono_l k
 unfold spec_paSum.f
 repeat' first
   | (with_reducible exact ih0 _ _ _ _)
   | (with_reducible exact LeO.refl _)
   | (with_reducible exact LeO.none _)
   | (with_reducible refine LeO.ite ?_ ?_)
   | (with_reducible refine LeO.bind ?_ (fun _ => ?_))
   | exact LeO.none _
   | refine LeO.ite ?_ ?_
   | refine LeO.bind ?_ (fun _ => ?_)
set_option maxHeartbeats 8000000 in
set_option maxRecDepth 100000 in
theorem spec_paSum.calls (k : Nat) (A0 : Option Addr) (c0 : Nat) (l0 : List Int) (r : Int) (w : World) (hr0 : Kd.C (Kd.int .i64) w A0 l0.length l0) (hc0 : l0.length ≤ c0) (h : spec_paSum.f k l0 = some r) :
  Calls Try.prog 72 #[.slice A0 l0.length c0] w fun e w' => e = .returned (.int .i64 r) ∧ Drawn0 w w' := by
 have HR0 := Aside0.mk hr0
 have HC0 := Aside0.mk hc0
 clear hr0 hc0
 have H : (spec_paSum.l0 k 0 l0 (l0.length : Int) 0) = some r := h
 clear h
 have H' := Aside0.mk H
 clear H
 go_enter Try.func72, Try.ntmps72
 go_wp2
 go_loopg [3, 8] k (fun kq v3 v8 w' => ∃ (x3_1 : Int) (x8_1 : Int), v3 = .int .i64 x3_1 ∧ v8 = .int .i64 x8_1 ∧ Aside0 (spec_paSum.l0 kq x3_1 l0 (l0.length : Int) x8_1 = some r) ∧ Aside0 (kq ≤ k) ∧ Drawn0 w w')
 case atStart => exact ⟨(0), (0), (by first | rfl | (simp; done) | (simp [*]; done)), (by first | rfl | (simp; done) | (simp [*]; done)), H', ⟨Nat.le_refl _⟩, by repeat (first | exact Drawn0.refl _ | apply Drawn0.step)⟩
 case round =>
  clear H'
  obtain ⟨x3_1, x8_1, rfl, rfl, HA, HK1, ⟨m1, rfl⟩⟩ := hrel
  cases gk with
  | zero => exact absurd HA.out (by simp [spec_paSum.l0])
  | succ k1 =>
   have H := HA.out
   clear HA
   simp only [spec_paSum.l0] at H
   by_cases c2 : x8_1 < (l0.length : Int)
   ·rw [if_pos c2] at H
    have c2b0 : decide (x8_1 < (l0.length : Int)) = true := decide_eq_true c2
    clear c2
    by_cases c3 : 0 ≤ x8_1
    ·rw [if_pos c3] at H
     have c3b0 : decide (0 ≤ x8_1) = true := decide_eq_true c3
     clear c3
     by_cases c4 : x8_1 < (l0.length : Int)
     ·rw [if_pos c4] at H
      have c4b0 : decide (x8_1 < (l0.length : Int)) = true := decide_eq_true c4
      clear c4
      have H' := Aside0.mk H
      clear H
      have p358 : 0 ≤ (x8_1 : Int) := of_decide_eq_true (by first | (with_reducible assumption) | assumption)
      have q358 : x8_1 < (l0.length : Int) := of_decide_eq_true (by first | (with_reducible assumption) | assumption)
      obtain ⟨ad358, e358, hx358_0⟩ := Kd.at_int HR0.out x8_1 p358 q358
      cases e358
      replace p358 := eq_true p358
      replace q358 := eq_true q358
      go_wp2
      go_roundg k1
      case measure => have := HK1.out; omega
      case rel => exact ⟨(wrap64 (x3_1 + (rd l0 x8_1))), (wrap64 (x8_1 + 1)), (by first | rfl | (simp; done) | (simp [*]; done)), (by first | rfl | (simp; done) | (simp [*]; done)), H', ⟨by have := HK1.out; omega⟩, by repeat (first | exact Drawn0.refl _ | apply Drawn0.step)⟩
     ·rw [if_neg c4] at H
      exact absurd H (by simp)
    ·rw [if_neg c3] at H
     exact absurd H (by simp)
   ·rw [if_neg c2] at H
    have c2b0 : decide (x8_1 < (l0.length : Int)) = false := decide_eq_false c2
    clear c2
    obtain rfl := Option.some.inj H
    go_wp2
    go_ret
    exact ⟨by first | rfl | (simp; done) | (simp [*]; done), by repeat (first | exact Drawn0.refl _ | apply Drawn0.step)⟩

/-! ### spec_SpreadOfWalks: function 19 -/
mutual
def spec_SpreadOfWalks.l0 : Nat → List (List Int) → List (List Int) → Int → Int → Option ((List (List Int)) × Bool)
 | 0, _, _, _, _ => none
 | k + 1, x4, x6, x7, x8 => if x8 < x7 then (if 0 ≤ x7 then (if (x7 : Int).toNat ≤ 35184372088832 then (if x6.length < 5864062014805 then (spec_SpreadOfWalks.l0 k x4 (x6 ++ [(List.replicate (x7 : Int).toNat 0)]) x7 (wrap64 (x8 + 1))) else (none)) else (none)) else (none)) else (spec_SpreadOfWalks.l1 k x6 x4 (x4.length : Int) 0)
def spec_SpreadOfWalks.l1 : Nat → List (List Int) → List (List Int) → Int → Int → Option ((List (List Int)) × Bool)
 | 0, _, _, _, _ => none
 | k + 1, x6, x37, x38, x39 => if x39 < x38 then (if 0 ≤ x39 then (if x39 < (x37.length : Int) then ((spec_waOf.f k (rd_L2 x37 x39)).bind fun bt372 => ((spec_paSum.f k bt372.1).bind fun t379 => (if 0 ≤ t379 then (if t379 < (x6.length : Int) then ((spec_waPairs.f k bt372.1 bt372.2).bind fun t381 => (if 0 ≤ (t381.length : Int) then (if (t381.length : Int) < ((rd_L2 x6 t379).length : Int) then (spec_SpreadOfWalks.l1 k (x6.set (t379 : Int).toNat ((rd_L2 x6 t379).set ((t381.length : Int) : Int).toNat (wrap64 ((rd (rd_L2 x6 t379) (t381.length : Int)) + 1)))) x37 x38 (wrap64 (x39 + 1))) else (none)) else (none))) else (none)) else (none)))) else (none)) else (none)) else (some (x6, true))
end
def spec_SpreadOfWalks.f (k : Nat) (a0 : Int) : Option ((List (List Int)) × Bool) := (spec_l1In.f a0 0 4).bind fun t359 => (if t359 = true then ((spec_AllParking.f k a0).bind fun bt360 => ((spec_l1Most.f 0 (wrap64 (a0 - 1))).bind fun t364 => (spec_SpreadOfWalks.l0 k bt360.1 ([] : List (List Int)) (wrap64 ((wrap64 (Int.tdiv (wrap64 (a0 * t364)) 2)) + 1)) 0))) else (some (([] : List (List Int)), false)))
theorem spec_SpreadOfWalks.mono_l : ∀ k, (∀ y0 y1 y2 y3, LeO (spec_SpreadOfWalks.l0 k y0 y1 y2 y3) (spec_SpreadOfWalks.l0 (k + 1) y0 y1 y2 y3)) ∧ (∀ y0 y1 y2 y3, LeO (spec_SpreadOfWalks.l1 k y0 y1 y2 y3) (spec_SpreadOfWalks.l1 (k + 1) y0 y1 y2 y3))
 | 0 => ⟨fun _ _ _ _ r h => by simp [spec_SpreadOfWalks.l0] at h, fun _ _ _ _ r h => by simp [spec_SpreadOfWalks.l1] at h⟩
 | k + 1 => by
  obtain ⟨ih0, ih1⟩ := spec_SpreadOfWalks.mono_l k
  refine ⟨?_, ?_⟩
  ·intro y0 y1 y2 y3
   unfold spec_SpreadOfWalks.l0
   repeat' first
   | (with_reducible exact ih0 _ _ _ _)
   | (with_reducible exact ih1 _ _ _ _)
   | (with_reducible exact spec_AllParking.mono _ _)
   | (with_reducible exact spec_paSum.mono _ _)
   | (with_reducible exact spec_waOf.mono _ _)
   | (with_reducible exact spec_waPairs.mono _ _ _)
   | (with_reducible exact LeO.refl _)
   | (with_reducible exact LeO.none _)
   | (with_reducible refine LeO.ite ?_ ?_)
   | (with_reducible refine LeO.bind ?_ (fun _ => ?_))
   | exact LeO.none _
   | refine LeO.ite ?_ ?_
   | refine LeO.bind ?_ (fun _ => ?_)
  ·intro y0 y1 y2 y3
   unfold spec_SpreadOfWalks.l1
   repeat' first
   | (with_reducible exact ih0 _ _ _ _)
   | (with_reducible exact ih1 _ _ _ _)
   | (with_reducible exact spec_AllParking.mono _ _)
   | (with_reducible exact spec_paSum.mono _ _)
   | (with_reducible exact spec_waOf.mono _ _)
   | (with_reducible exact spec_waPairs.mono _ _ _)
   | (with_reducible exact LeO.refl _)
   | (with_reducible exact LeO.none _)
   | (with_reducible refine LeO.ite ?_ ?_)
   | (with_reducible refine LeO.bind ?_ (fun _ => ?_))
   | exact LeO.none _
   | refine LeO.ite ?_ ?_
   | refine LeO.bind ?_ (fun _ => ?_)
theorem spec_SpreadOfWalks.mono : ∀ a0 k, LeO (spec_SpreadOfWalks.f k a0) (spec_SpreadOfWalks.f (k + 1) a0) := by
 intro a0 k
 obtain ⟨ih0, ih1⟩ := spec_SpreadOfWalks.mono_l k
 unfold spec_SpreadOfWalks.f
 repeat' first
   | (with_reducible exact ih0 _ _ _ _)
   | (with_reducible exact ih1 _ _ _ _)
   | (with_reducible exact spec_AllParking.mono _ _)
   | (with_reducible exact spec_paSum.mono _ _)
   | (with_reducible exact spec_waOf.mono _ _)
   | (with_reducible exact spec_waPairs.mono _ _ _)
   | (with_reducible exact LeO.refl _)
   | (with_reducible exact LeO.none _)
   | (with_reducible refine LeO.ite ?_ ?_)
   | (with_reducible refine LeO.bind ?_ (fun _ => ?_))
   | exact LeO.none _
   | refine LeO.ite ?_ ?_
   | refine LeO.bind ?_ (fun _ => ?_)
def spec_SpreadOfWalks.T14 : Bool × List (List Nat × List Nat) := (true, [([], []), ([], []), ([1], [1]), ([2], [2]), ([0, 3], [0, 3]), ([4], [4]), ([], []), ([6, 3], [6]), ([7], [7]), ([5, 8], [5, 8]), ([9], [9]), ([10], [10]), ([5, 8, 0, 1, 2, 3, 4, 5, 6, 7, 8, 9, 10, 11], [5, 8]), ([12, 11, 7, 0, 1, 2, 3, 4, 5, 6, 7, 8, 9, 10, 11], [11, 12])])
def spec_SpreadOfWalks.B14 : List Nat := [0, 0, 2, 6, 15, 31, 0, 78, 206, 511, 1023, 2047, 4095, 8191]
theorem spec_SpreadOfWalks.tab14 : rtab .any (opsOf Try.f19 14) = spec_SpreadOfWalks.T14 := by kernel_rfl
theorem spec_SpreadOfWalks.bits14 : waitsOk spec_SpreadOfWalks.T14.2 spec_SpreadOfWalks.B14 = true := by kernel_rfl
set_option maxHeartbeats 8000000 in
set_option maxRecDepth 100000 in
theorem spec_SpreadOfWalks.calls (k : Nat) (a0 : Int) (r1 : List (List Int)) (r2 : Bool) (w : World) (h : spec_SpreadOfWalks.f k a0 = some (r1, r2)) :
  Calls Try.prog 19 #[.int .i64 a0] w fun e w' => ∃ v0_ : Value, e = .returned (.tuple #[v0_, .bool r2]) ∧ Kd.S (Kd.slice 3 (Kd.int .i64)) 24 w' w.heap.size (fun _ => True) v0_ r1 ∧ Below w.heap.size w w' := by
 have hu26 := Try.underlying26
 have HB := Aside0.mk (Below.refl w.heap.size w)
 have H : ((spec_l1In.f a0 0 4).bind fun t359 => (if t359 = true then ((spec_AllParking.f k a0).bind fun bt360 => ((spec_l1Most.f 0 (wrap64 (a0 - 1))).bind fun t364 => (spec_SpreadOfWalks.l0 k bt360.1 ([] : List (List Int)) (wrap64 ((wrap64 (Int.tdiv (wrap64 (a0 * t364)) 2)) + 1)) 0))) else (some (([] : List (List Int)), false)))) = some (r1, r2) := h
 clear h
 replace H := Option.bind_eq_some_iff.mp H
 obtain ⟨t359, A20, H⟩ := H
 replace H : (if t359 = true then ((spec_AllParking.f k a0).bind fun bt360 => ((spec_l1Most.f 0 (wrap64 (a0 - 1))).bind fun t364 => (spec_SpreadOfWalks.l0 k bt360.1 ([] : List (List Int)) (wrap64 ((wrap64 (Int.tdiv (wrap64 (a0 * t364)) 2)) + 1)) 0))) else (some (([] : List (List Int)), false))) = some (r1, r2) := H
 have A2 := Aside0.mk A20
 clear A20
 by_cases c3 : t359 = true
 ·subst c3
  have H1 : ((spec_AllParking.f k a0).bind fun bt360 => ((spec_l1Most.f 0 (wrap64 (a0 - 1))).bind fun t364 => (spec_SpreadOfWalks.l0 k bt360.1 ([] : List (List Int)) (wrap64 ((wrap64 (Int.tdiv (wrap64 (a0 * t364)) 2)) + 1)) 0))) = some (r1, r2) := by rw [if_pos rfl] at H; exact H
  clear H
  have H := H1
  clear H1
  replace H := Option.bind_eq_some_iff.mp H
  obtain ⟨⟨t360, t363⟩, A40, H⟩ := H
  replace H : ((spec_l1Most.f 0 (wrap64 (a0 - 1))).bind fun t364 => (spec_SpreadOfWalks.l0 k t360 ([] : List (List Int)) (wrap64 ((wrap64 (Int.tdiv (wrap64 (a0 * t364)) 2)) + 1)) 0)) = some (r1, r2) := H
  have A4 := Aside0.mk A40
  clear A40
  replace H := Option.bind_eq_some_iff.mp H
  obtain ⟨t364, A50, H⟩ := H
  replace H : (spec_SpreadOfWalks.l0 k t360 ([] : List (List Int)) (wrap64 ((wrap64 (Int.tdiv (wrap64 (a0 * t364)) 2)) + 1)) 0) = some (r1, r2) := H
  have A5 := Aside0.mk A50
  clear A50
  have H' := Aside0.mk H
  clear H
  go_enter Try.func19, Try.ntmps19
  go_wp2_with (first | ((with_reducible refine gate_callee (f := 68) rfl ?_); refine goesL_ (some 13) rfl rfl Try.func68 (by kernel_rfl) rfl #[.int .i64 a0, .int .i64 0, .int .i64 4] rfl (by (try simp only [List.map_toArray, List.map_cons, List.map_nil]); first | done | rfl | (simp only [List.length_drop, List.length_take]; rfl)) ?_; (with_reducible refine (spec_l1In.calls a0 0 4 true _ A2.out).mono ?_); rintro e w' ⟨rfl, ⟨nd, rfl⟩⟩; refine ⟨_, rfl, ?_⟩) | ((with_reducible refine gate_callee (f := 69) rfl ?_); refine goesL_ (some 17) rfl rfl Try.func69 (by kernel_rfl) rfl #[.int .i64 a0] rfl (by (try simp only [List.map_toArray, List.map_cons, List.map_nil]); first | done | rfl | (simp only [List.length_drop, List.length_take]; rfl)) ?_; (with_reducible refine (spec_AllParking.calls k a0 t360 t363 _ A4.out).mono ?_); rintro e w6 ⟨v361, rfl, ho0, hb⟩; refine ⟨_, rfl, ?_⟩; have HNL := Aside0.mk ho0; have HBw := Aside0.mk (below_step (by repeat (first | (with_reducible first | exact HB.out | apply below_alloc | apply pw_below_drewN | apply below_drew1) | exact HB.out)) hb); clear HB; have HO362 := Aside0.mk trivial; have HB := Aside0.mk (Below.refl w6.heap.size w6); (try clear hb); (try clear hb2); (try clear hk); (try clear hi); (try clear ho0)) | ((with_reducible refine gate_callee (f := 70) rfl ?_); refine goesL_ (some 23) rfl rfl Try.func70 (by kernel_rfl) rfl #[.int .i64 0, .int .i64 (wrap64 (a0 - 1))] rfl (by (try simp only [List.map_toArray, List.map_cons, List.map_nil]); first | done | rfl | (simp only [List.length_drop, List.length_take]; rfl)) ?_; (with_reducible refine (spec_l1Most.calls 0 (wrap64 (a0 - 1)) t364 _ A5.out).mono ?_); rintro e w' ⟨rfl, ⟨nd, rfl⟩⟩; refine ⟨_, rfl, ?_⟩))
  go_loopg [6, 8] k (fun kq v6 v8 w' => ∃ (x6_1 : List (List Int)) (x8_1 : Int), v8 = .int .i64 x8_1 ∧ Aside0 (spec_SpreadOfWalks.l0 kq t360 x6_1 (wrap64 ((wrap64 (Int.tdiv (wrap64 (a0 * t364)) 2)) + 1)) x8_1 = some (r1, r2)) ∧ Aside0 (kq ≤ k) ∧ Aside0 True ∧ Aside0 (Kd.S (Kd.slice 3 (Kd.int .i64)) 24 w' w6.heap.size (fun k_ => True) v6 x6_1) ∧ Aside0 (Below w6.heap.size w6 w'))
  case atStart => exact ⟨(([] : List (List Int))), (0), (by first | rfl | (simp; done) | (simp [*]; done)), H', ⟨Nat.le_refl _⟩, ⟨trivial⟩, ⟨by first | exact Kd.S_nil _ _ _ _ _ | exact Kd.N_nil _ _ _ _ _ | exact Kd.V_nil _ _ _ _ _ | exact Kd.Q_nil _ _ _ _ _ | exact Kd.R_nil _ _ _ _ _⟩, ⟨by repeat (first | (with_reducible first | exact HB.out | apply below_alloc | apply pw_below_drewN | apply below_drew1) | exact HB.out)⟩⟩
  case round =>
   clear H'
   try clear c1
   try clear p2
   try clear c3
   try clear c6
   try clear p6
   obtain ⟨x6_1, x8_1, rfl, HA, HK1, HO_4, HO_6, HB⟩ := hrel
   cases gk with
   | zero => exact absurd HA.out (by simp [spec_SpreadOfWalks.l0])
   | succ k1 =>
    have H := HA.out
    clear HA
    simp only [spec_SpreadOfWalks.l0] at H
    by_cases c7 : x8_1 < (wrap64 ((wrap64 (Int.tdiv (wrap64 (a0 * t364)) 2)) + 1))
    ·rw [if_pos c7] at H
     have c7b0 : decide (x8_1 < (wrap64 ((wrap64 (Int.tdiv (wrap64 (a0 * t364)) 2)) + 1))) = true := decide_eq_true c7
     clear c7
     obtain ⟨ji8, hji8⟩ : ∃ j_ : Int, (wrap64 ((wrap64 (Int.tdiv (wrap64 (a0 * t364)) 2)) + 1)) = j_ := ⟨_, rfl⟩
     replace H : (if 0 ≤ (ji8) then (if ((ji8) : Int).toNat ≤ 35184372088832 then (if x6_1.length < 5864062014805 then (spec_SpreadOfWalks.l0 k1 t360 (x6_1 ++ [(List.replicate ((ji8) : Int).toNat 0)]) (ji8) (wrap64 (x8_1 + 1))) else (none)) else (none)) else (none)) = some (r1, r2) := by first | (rw [hji8] at H; exact H) | (simp only [hji8] at H ⊢; exact H)
     (try rw [hji8] at c7b0)
     have hji8w : (IntKind.i64.wrap ((wrap64 (Int.tdiv (wrap64 (a0 * t364)) 2)) + 1)) = ji8 := (i64_w _).trans hji8
     by_cases c9 : 0 ≤ (ji8)
     ·rw [if_pos c9] at H
      have c9b0 := eq_true c9
      have c9b1 : decide (0 ≤ (ji8)) = true := decide_eq_true c9
      clear c9
      by_cases c10 : ((ji8) : Int).toNat ≤ 35184372088832
      ·rw [if_pos c10] at H
       have c10b0 := eq_true c10
       have c10b1 : decide (((ji8) : Int).toNat ≤ 35184372088832) = true := decide_eq_true c10
       clear c10
       obtain ⟨y365, hy365⟩ : ∃ y_ : List Int, y_ = (List.replicate ((ji8) : Int).toNat 0) := ⟨_, rfl⟩
       replace H : (if x6_1.length < 5864062014805 then (spec_SpreadOfWalks.l0 k1 t360 (x6_1 ++ [y365]) (ji8) (wrap64 (x8_1 + 1))) else (none)) = some (r1, r2) := by first | (rw [hy365]; with_reducible exact H) | (have H2_ := (Option.bind_some _ _).symm.trans H; rw [hy365]; with_reducible exact H2_) | (have H2_ := (Option.bind_some _ _).symm.trans H; with_reducible exact H2_) | with_reducible exact H | (rw [hy365]; exact H) | exact H
       have Ny365 := Aside0.mk hy365
       clear hy365
       by_cases c11 : x6_1.length < 5864062014805
       ·rw [if_pos c11] at H
        have LMc11 := Aside0.mk c11
        clear c11
        obtain ⟨y368, hy368⟩ : ∃ y_ : List (List Int), y_ = (x6_1 ++ [y365]) := ⟨_, rfl⟩
        replace H : (spec_SpreadOfWalks.l0 k1 t360 y368 (ji8) (wrap64 (x8_1 + 1))) = some (r1, r2) := by first | (rw [hy368]; with_reducible exact H) | (have H2_ := (Option.bind_some _ _).symm.trans H; rw [hy368]; with_reducible exact H2_) | (have H2_ := (Option.bind_some _ _).symm.trans H; with_reducible exact H2_) | with_reducible exact H | (rw [hy368]; exact H) | exact H
        have Ny368 := Aside0.mk hy368
        clear hy368
        have H' := Aside0.mk H
        clear H
        subst hji8
        go_wp2_with (first | ((with_reducible refine gate_dst (N := 34) rfl ?_); refine Kd.R_make (Kd.int .i64) _ 3 rfl (N := 34) rfl 24 _ _ rfl (wrap64 ((wrap64 (Int.tdiv (wrap64 (a0 * t364)) 2)) + 1)) rfl rfl Try.underlying24 (.int .i64 0) 8 info3 rfl (by decide) (by omega) 0 (ok := fun _ => True) (okp := fun _ => True) rfl (fun _ hk => hk) trivial (of_decide_eq_true (by first | (with_reducible assumption) | assumption)) (Nat.le_trans (Nat.mul_le_mul_right _ (of_decide_eq_true (by first | (with_reducible assumption) | assumption) : (wrap64 ((wrap64 (Int.tdiv (wrap64 (a0 * t364)) 2)) + 1)).toNat ≤ 35184372088832)) (by omega)) (Below.refl _ _) (Nat.le_refl _) ?_; intro v366 w12 ho13 hb hg_ hnew_; clear hg_ hnew_; (first | rw [← Ny365.out] at ho13 | (simp only [Int.reduceToNat] at ho13; rw [← Ny365.out] at ho13)); have n0_ := Aside0.mk trivial; have n1_ := Aside0.mk (Kd.S_elder' (by (with_reducible repeat (first | apply Kd.S_alloc | apply Kd.S_drewN | apply Kd.S_drew)); exact HO_6.out) (Kd.R_base ho13) hb); have n2_ := Aside0.mk (Kd.R_lower ho13 (below_size (by repeat (first | (with_reducible first | exact HB.out | apply below_alloc | apply pw_below_drewN | apply below_drew1) | exact HB.out)))); have n3_ := Aside0.mk (below_step (by repeat (first | (with_reducible first | exact HB.out | apply below_alloc | apply pw_below_drewN | apply below_drew1) | exact HB.out)) hb); clear HO_4; clear HO_6; clear HB; have HO_4 := n0_; have HO_6 := n1_; have HO367 := n2_; have HB := n3_; clear n0_ n1_ n2_ n3_; clear hb ho13; obtain ⟨Ao15, co15, eo15⟩ := Kd.R_slice HO367.out; subst eo15) | ((with_reducible refine gate_builtin (b := .append) (xs := #[.tmp 32, .tmp 35]) rfl ?_); at_builtin; refine Kd.S_append (Kd.slice 3 (Kd.int .i64)) (w0 := w6) w6.heap.size rfl (.tmp 32) (.tmp 35) 28 24 (.slice none 0 0) 24 rfl Try.underlying28 info24 rfl (by decide) (by omega) u6 x6_1 y365 [.slice Ao15 y365.length co15] (fun k_ => True) (fun k_ => some k_ = (.slice Ao15 y365.length co15 : Value).ownBlock) rfl rfl ?aP (fun k_ hk_ => ((Kd.R_mono (ok' := fun k_ => ((fun k_ => True)) k_ ∧ some k_ ≠ (u6 : Value).ownBlock) (Kd.R_apart' (HO367.out) (Kd.S_typed HO_6.out) (by decide)) (fun k_ hk => ⟨trivial, hk.2⟩))).1 k_ hk_.symm) ?aF ?aO ?aB ?aS ?aL ?_; (case aP => exact Kd.M_row (Kd.R_mono (Kd.R_tight rfl (Kd.R_mono (ok' := fun k_ => ((fun k_ => True)) k_ ∧ some k_ ≠ (u6 : Value).ownBlock) (Kd.R_apart' (HO367.out) (Kd.S_typed HO_6.out) (by decide)) (fun k_ hk => ⟨trivial, hk.2⟩))) (fun _ h_ => h_))); (case aB => exact (by repeat (first | (with_reducible first | exact HB.out | apply below_alloc | apply pw_below_drewN | apply below_drew1) | exact HB.out))); (case aF => exact (fun _ _ => trivial)); (case aO => exact (by (with_reducible repeat (first | apply Kd.S_alloc | apply Kd.S_drewN | apply Kd.S_drew)); exact Kd.S_mono HO_6.out (fun k_ hk => ⟨hk.1, fun e_ => hk.2 e_⟩))); (case aS => exact (below_size (by repeat (first | (with_reducible first | exact HB.out | apply below_alloc | apply pw_below_drewN | apply below_drew1) | exact HB.out)))); (case aL => have := LMc11.out; omega); intro v369 w14 ho hb hg hat; rw [← Ny368.out] at ho; have n0_ := Aside0.mk trivial; have n1_ := Aside0.mk (hb); have n2_ := Aside0.mk (ho); clear HO_4; clear HB; clear HO_6; clear HO367; have HO_4 := n0_; have HB := n1_; have HO370 := n2_; clear n0_ n1_ n2_; clear ho hb hg hat))
        go_roundg k1
        case measure => have := HK1.out; omega
        case rel => exact ⟨(y368), (wrap64 (x8_1 + 1)), (by first | rfl | (simp; done) | (simp [*]; done)), H', ⟨by have := HK1.out; omega⟩, ⟨trivial⟩, ⟨by (with_reducible repeat (first | apply Kd.S_alloc | apply Kd.S_drewN | apply Kd.S_drew)); exact HO370.out⟩, ⟨by repeat (first | (with_reducible first | exact HB.out | apply below_alloc | apply pw_below_drewN | apply below_drew1) | exact HB.out)⟩⟩
       ·rw [if_neg c11] at H
        exact absurd H (by simp)
      ·rw [if_neg c10] at H
       exact absurd H (by simp)
     ·rw [if_neg c9] at H
      exact absurd H (by simp)
    ·rw [if_neg c7] at H
     have c7b0 : decide (x8_1 < (wrap64 ((wrap64 (Int.tdiv (wrap64 (a0 * t364)) 2)) + 1))) = false := decide_eq_false c7
     clear c7
     have H' := Aside0.mk H
     clear H
     obtain ⟨Ao16, co16, eo16⟩ := Kd.N_slice HNL.out
     subst eo16
     go_wp2
     go_loopg [39] k1 (fun kq v39 w' => ∃ (x6_2 : List (List Int)) (x39_2 : Int), v39 = .int .i64 x39_2 ∧ Aside0 (spec_SpreadOfWalks.l1 kq x6_2 t360 (t360.length : Int) x39_2 = some (r1, r2)) ∧ Aside0 (kq ≤ k1) ∧ Aside0 (Kd.S (Kd.slice 3 (Kd.int .i64)) 24 w' w6.heap.size (fun k_ => True) u6 x6_2) ∧ Aside0 True ∧ Aside0 (Below w6.heap.size w6 w'))
     case atStart => exact ⟨(x6_1), (0), (by first | rfl | (simp; done) | (simp [*]; done)), H', ⟨Nat.le_refl _⟩, ⟨by (with_reducible repeat (first | apply Kd.S_alloc | apply Kd.S_drewN | apply Kd.S_drew)); exact HO_6.out⟩, ⟨trivial⟩, ⟨by repeat (first | (with_reducible first | exact HB.out | apply below_alloc | apply pw_below_drewN | apply below_drew1) | exact HB.out)⟩⟩
     case round =>
      clear H'
      try clear c1
      try clear p2
      try clear c3
      try clear c6
      try clear p6
      try clear c7
      try clear c7b0
      try clear c9
      try clear c9b0
      try clear c9b1
      try clear c10
      try clear c10b0
      try clear c10b1
      try clear c11
      try clear p2
      try clear p6
      obtain ⟨x6_2, x39_2, rfl, HA, HK2, HO_6, HO_37, HB⟩ := hrel
      cases gk with
      | zero => exact absurd HA.out (by simp [spec_SpreadOfWalks.l1])
      | succ k2 =>
       have H := HA.out
       clear HA
       simp only [spec_SpreadOfWalks.l1] at H
       by_cases c17 : x39_2 < (t360.length : Int)
       ·rw [if_pos c17] at H
        have c17b0 : decide (x39_2 < (t360.length : Int)) = true := decide_eq_true c17
        clear c17
        by_cases c18 : 0 ≤ x39_2
        ·rw [if_pos c18] at H
         have c18b0 : decide (0 ≤ x39_2) = true := decide_eq_true c18
         clear c18
         by_cases c19 : x39_2 < (t360.length : Int)
         ·rw [if_pos c19] at H
          have c19b0 : decide (x39_2 < (t360.length : Int)) = true := decide_eq_true c19
          clear c19
          replace H := Option.bind_eq_some_iff.mp H
          obtain ⟨⟨t372, t375⟩, A200, H⟩ := H
          replace H : ((spec_paSum.f k2 t372).bind fun t379 => (if 0 ≤ t379 then (if t379 < (x6_2.length : Int) then ((spec_waPairs.f k2 t372 t375).bind fun t381 => (if 0 ≤ (t381.length : Int) then (if (t381.length : Int) < ((rd_L2 x6_2 t379).length : Int) then (spec_SpreadOfWalks.l1 k2 (x6_2.set (t379 : Int).toNat ((rd_L2 x6_2 t379).set ((t381.length : Int) : Int).toNat (wrap64 ((rd (rd_L2 x6_2 t379) (t381.length : Int)) + 1)))) t360 (t360.length : Int) (wrap64 (x39_2 + 1))) else (none)) else (none))) else (none)) else (none))) = some (r1, r2) := H
          have A20 := Aside0.mk A200
          clear A200
          replace H := Option.bind_eq_some_iff.mp H
          obtain ⟨t379, A210, H⟩ := H
          replace H : (if 0 ≤ t379 then (if t379 < (x6_2.length : Int) then ((spec_waPairs.f k2 t372 t375).bind fun t381 => (if 0 ≤ (t381.length : Int) then (if (t381.length : Int) < ((rd_L2 x6_2 t379).length : Int) then (spec_SpreadOfWalks.l1 k2 (x6_2.set (t379 : Int).toNat ((rd_L2 x6_2 t379).set ((t381.length : Int) : Int).toNat (wrap64 ((rd (rd_L2 x6_2 t379) (t381.length : Int)) + 1)))) t360 (t360.length : Int) (wrap64 (x39_2 + 1))) else (none)) else (none))) else (none)) else (none)) = some (r1, r2) := H
          have A21 := Aside0.mk A210
          clear A210
          by_cases c22 : 0 ≤ t379
          ·rw [if_pos c22] at H
           have c22b0 : decide (0 ≤ t379) = true := decide_eq_true c22
           clear c22
           by_cases c23 : t379 < (x6_2.length : Int)
           ·rw [if_pos c23] at H
            have c23b0 : decide (t379 < (x6_2.length : Int)) = true := decide_eq_true c23
            clear c23
            replace H := Option.bind_eq_some_iff.mp H
            obtain ⟨t381, A240, H⟩ := H
            replace H : (if 0 ≤ (t381.length : Int) then (if (t381.length : Int) < ((rd_L2 x6_2 t379).length : Int) then (spec_SpreadOfWalks.l1 k2 (x6_2.set (t379 : Int).toNat ((rd_L2 x6_2 t379).set ((t381.length : Int) : Int).toNat (wrap64 ((rd (rd_L2 x6_2 t379) (t381.length : Int)) + 1)))) t360 (t360.length : Int) (wrap64 (x39_2 + 1))) else (none)) else (none)) = some (r1, r2) := H
            have A24 := Aside0.mk A240
            clear A240
            by_cases c25 : 0 ≤ (t381.length : Int)
            ·rw [if_pos c25] at H
             have c25b0 : decide (0 ≤ (t381.length : Int)) = true := decide_eq_true c25
             have c25b1 : decide (0 ≤ t381.length) = true := decide_eq_true (by omega)
             clear c25
             by_cases c26 : (t381.length : Int) < ((rd_L2 x6_2 t379).length : Int)
             ·rw [if_pos c26] at H
              have c26b0 : decide ((t381.length : Int) < ((rd_L2 x6_2 t379).length : Int)) = true := decide_eq_true c26
              have c26b1 : decide (t381.length < (rd_L2 x6_2 t379).length) = true := decide_eq_true (Int.ofNat_lt.mp c26)
              clear c26
              obtain ⟨y385, hy385⟩ : ∃ y_ : List Int, y_ = ((rd_L2 x6_2 t379).set ((t381.length : Int) : Int).toNat (wrap64 ((rd (rd_L2 x6_2 t379) (t381.length : Int)) + 1))) := ⟨_, rfl⟩
              replace H : (spec_SpreadOfWalks.l1 k2 (x6_2.set (t379 : Int).toNat y385) t360 (t360.length : Int) (wrap64 (x39_2 + 1))) = some (r1, r2) := by first | (rw [hy385]; with_reducible exact H) | (have H2_ := (Option.bind_some _ _).symm.trans H; rw [hy385]; with_reducible exact H2_) | (have H2_ := (Option.bind_some _ _).symm.trans H; with_reducible exact H2_) | with_reducible exact H | (rw [hy385]; exact H) | exact H
              have Ny385 := Aside0.mk hy385
              clear hy385
              obtain ⟨y387, hy387⟩ : ∃ y_ : List (List Int), y_ = (x6_2.set (t379 : Int).toNat y385) := ⟨_, rfl⟩
              replace H : (spec_SpreadOfWalks.l1 k2 y387 t360 (t360.length : Int) (wrap64 (x39_2 + 1))) = some (r1, r2) := by first | (rw [hy387]; with_reducible exact H) | (have H2_ := (Option.bind_some _ _).symm.trans H; rw [hy387]; with_reducible exact H2_) | (have H2_ := (Option.bind_some _ _).symm.trans H; with_reducible exact H2_) | with_reducible exact H | (rw [hy387]; exact H) | exact H
              have Ny387 := Aside0.mk hy387
              clear hy387
              have H' := Aside0.mk H
              clear H
              have p371 : 0 ≤ (x39_2 : Int) := of_decide_eq_true (by first | (with_reducible assumption) | assumption)
              have q371 : x39_2 < (t360.length : Int) := of_decide_eq_true (by first | (with_reducible assumption) | assumption)
              obtain ⟨ad371, A371_0, c371_0, e371, hx371_0, hl371_0, hi371_0⟩ := at_L2 (Kd.N_reads' (Kd.N_below HNL.out HB.out)).2.2 x39_2 p371 q371
              cases e371
              have HL371_0 := Aside0.mk trivial
              have HX371_0 := Aside0.mk hx371_0
              have HR371_0 := Aside0.mk hi371_0
              have HC371_0 := Aside0.mk hl371_0
              clear hi371_0 hl371_0
              replace p371 := eq_true p371
              replace q371 := eq_true q371
              go_wp2_with (first | ((with_reducible refine gate_callee (f := 71) rfl ?_); refine goesL_ (some 44) rfl rfl Try.func71 (by kernel_rfl) rfl #[.slice A371_0 (rd_L2 t360 x39_2).length c371_0] rfl (by (try simp only [List.map_toArray, List.map_cons, List.map_nil]); first | done | rfl | (simp only [List.length_drop, List.length_take]; rfl)) ?_; (with_reducible refine (spec_waOf.calls k2 _ _ (rd_L2 t360 x39_2) t372 t375 _ ?side1 ?side2 A20.out).mono ?_); (case side1 => repeat (first | exact (by repeat (first | (with_reducible exact HR371_0.out) | (with_reducible refine Kd.C_alloc ?_ _) | (with_reducible refine Kd.C_drewN ?_ _) | (with_reducible refine Kd.C_drew ?_) | exact HR371_0.out)) | (with_reducible refine Kd.C_alloc ?_ _) | (with_reducible refine Kd.C_drewN ?_ _) | (with_reducible refine Kd.C_drew ?_))); (case side2 => exact HC371_0.out); rintro e w28 ⟨v373, v376, rfl, ho0, ho1, hb⟩; refine ⟨_, rfl, ?_⟩; have n0_ := Aside0.mk (Kd.S_mono (Kd.S_told (Kd.S_told (Kd.S_old (by (with_reducible repeat (first | apply Kd.S_alloc | apply Kd.S_drewN | apply Kd.S_drew)); exact HO_6.out) hb) (Kd.R_base ho0)) (Kd.R_base ho1)) (fun _ h_ => h_.1)); have n1_ := Aside0.mk trivial; have n2_ := Aside0.mk trivial; have n3_ := Aside0.mk (Kd.R_lower (Kd.R_new' ho0 (show ∀ k, (Value.slice none 0 0).ownBlock = some k → k < _ from fun _ h_ => by simp [Value.ownBlock] at h_)) (below_size (by repeat (first | (with_reducible first | exact HB.out | apply below_alloc | apply pw_below_drewN | apply below_drew1) | exact HB.out)))); have n4_ := Aside0.mk (Kd.R_lower (Kd.R_new' ho1 (show ∀ k, (Value.slice none 0 0).ownBlock = some k → k < _ from fun _ h_ => by simp [Value.ownBlock] at h_)) (below_size (by repeat (first | (with_reducible first | exact HB.out | apply below_alloc | apply pw_below_drewN | apply below_drew1) | exact HB.out)))); have n5_ := Aside0.mk (Kd.C_below (by repeat (first | (with_reducible exact HR371_0.out) | (with_reducible refine Kd.C_alloc ?_ _) | (with_reducible refine Kd.C_drewN ?_ _) | (with_reducible refine Kd.C_drew ?_) | exact HR371_0.out)) hb); have n6_ := Aside0.mk (pw_cell_below hb HX371_0.out); have n7_ := Aside0.mk (below_step (by repeat (first | (with_reducible first | exact HB.out | apply below_alloc | apply pw_below_drewN | apply below_drew1) | exact HB.out)) hb); clear HO_6; clear HO_37; clear HL371_0; clear HR371_0; clear HX371_0; clear HB; have HO_6 := n0_; have HO_37 := n1_; have HL371_0 := n2_; have HO374 := n3_; have HO377 := n4_; have HR371_0 := n5_; have HX371_0 := n6_; have HB := n7_; clear n0_ n1_ n2_ n3_ n4_ n5_ n6_ n7_; (try clear hb); (try clear hb2); (try clear hk); (try clear hi); (try clear ho0); (try clear ho1)) | ((with_reducible refine gate_dst (N := 11) rfl ?_); refine box_event ?hg (N := 11) ?hd (cs := #[.slice none 0 0, .slice none 0 0]) (t := 26) ?hr ?_; (case hd => rfl); (case hg => rfl); (case hr => first | (go_simp; done) | (go_simp; rfl)); intro gb378 hg w29 hbox hb; have n0_ := Aside0.mk (Kd.S_below (by (with_reducible repeat (first | apply Kd.S_alloc | apply Kd.S_drewN | apply Kd.S_drew)); exact HO_6.out) hb); have n1_ := Aside0.mk trivial; have n2_ := Aside0.mk trivial; have n3_ := Aside0.mk (Kd.R_below (by (with_reducible repeat (first | apply Kd.R_alloc | apply Kd.R_drewN | apply Kd.R_drew)); exact HO374.out) hb); have n4_ := Aside0.mk (Kd.R_below (by (with_reducible repeat (first | apply Kd.R_alloc | apply Kd.R_drewN | apply Kd.R_drew)); exact HO377.out) hb); have n5_ := Aside0.mk (Kd.C_below (by repeat (first | (with_reducible exact HR371_0.out) | (with_reducible refine Kd.C_alloc ?_ _) | (with_reducible refine Kd.C_drewN ?_ _) | (with_reducible refine Kd.C_drew ?_) | exact HR371_0.out)) hb); have n6_ := Aside0.mk (pw_cell_below hb HX371_0.out); have n7_ := Aside0.mk (below_step (by repeat (first | (with_reducible first | exact HB.out | apply below_alloc | apply pw_below_drewN | apply below_drew1) | exact HB.out)) hb); have n8_ := Aside0.mk (hbox); have n9_ := Aside0.mk ((by rw [hg]; exact (below_size (by repeat (first | (with_reducible first | exact HB.out | apply below_alloc | apply pw_below_drewN | apply below_drew1) | exact HB.out))) : w6.heap.size ≤ gb378)); have n10_ := Aside0.mk ((by rw [hg]; exact (below_size (by repeat (first | (with_reducible first | exact HB.out | apply below_alloc | apply pw_below_drewN | apply below_drew1) | exact HB.out))) : w6.heap.size ≤ gb378)); clear HO_6; clear HO_37; clear HL371_0; clear HO374; clear HO377; clear HR371_0; clear HX371_0; clear HB; have HO_6 := n0_; have HO_37 := n1_; have HL371_0 := n2_; have HO374 := n3_; have HO377 := n4_; have HR371_0 := n5_; have HX371_0 := n6_; have HB := n7_; have BK378 := n8_; have GW378 := n9_; have GE378 := n10_; clear n0_ n1_ n2_ n3_ n4_ n5_ n6_ n7_ n8_ n9_ n10_; clear hb hbox hg; obtain ⟨Ao30, co30, eo30⟩ := Kd.R_slice HO374.out; subst eo30; have hcz31_0 : w29.cell? ⟨gb378, 0, none⟩ = some (.slice none 0 0) := (blk_cell BK378.out 0).trans rfl; have hcz31_1 : w29.cell? ⟨gb378, 1, none⟩ = some (.slice none 0 0) := (blk_cell BK378.out 1).trans rfl; have hfz31_0 := blk_frozen BK378.out 0; have hfz31_1 := blk_frozen BK378.out 1; obtain ⟨Ao32, co32, eo32⟩ := Kd.R_slice HO377.out; subst eo32))
              have n0_ : Aside0 (Kd.S (Kd.slice 3 (Kd.int .i64)) 24 ((w29.setCell ⟨gb378, 0, none⟩ (.slice Ao30 t372.length co30)).setCell ⟨gb378, 1, none⟩ (.slice Ao32 t375.length co32)) w6.heap.size (fun k_ => True ∧ some k_ ≠ (.slice Ao30 t372.length co30 : Value).ownBlock ∧ some k_ ≠ (.slice Ao32 t375.length co32 : Value).ownBlock) u6 x6_2) := ⟨by (with_reducible repeat (first | apply Kd.S_alloc | apply Kd.S_drewN | apply Kd.S_drew)); exact Kd.S_mono (Kd.S_far (p := ⟨gb378, 1, none⟩) (Kd.S_far (p := ⟨gb378, 0, none⟩) (Kd.S_types HO_6.out BK378.out (by decide)) (fun _ hk => hk.2) (.slice Ao30 t372.length co30)) (fun _ hk => hk.2) (.slice Ao32 t375.length co32)) (fun _ hk => ⟨hk.1.1.1, ⟨hk.1.1.2, hk.1.2⟩⟩)⟩
              have n1_ : Aside0 True := ⟨trivial⟩
              have n2_ : Aside0 True := ⟨trivial⟩
              have n3_ : Aside0 (Kd.R (Kd.int .i64) 3 ((w29.setCell ⟨gb378, 0, none⟩ (.slice Ao30 t372.length co30)).setCell ⟨gb378, 1, none⟩ (.slice Ao32 t375.length co32)) w6.heap.size (fun k_ => some k_ ≠ (.slice none 0 0 : Value).ownBlock ∧ some k_ ≠ (.slice Ao32 t375.length co32 : Value).ownBlock) (.slice Ao30 t372.length co30) t372) := ⟨by (with_reducible repeat (first | apply Kd.R_alloc | apply Kd.R_drewN | apply Kd.R_drew)); exact Kd.R_mono (Kd.R_far (p := ⟨gb378, 1, none⟩) (Kd.R_far (p := ⟨gb378, 0, none⟩) (Kd.R_types HO374.out BK378.out (by decide)) (fun _ hk => hk.2) (.slice Ao30 t372.length co30)) (fun _ hk => hk.2) (.slice Ao32 t375.length co32)) (fun _ hk => ⟨hk.1.2, hk.1.1⟩)⟩
              have n4_ : Aside0 (Kd.R (Kd.int .i64) 3 ((w29.setCell ⟨gb378, 0, none⟩ (.slice Ao30 t372.length co30)).setCell ⟨gb378, 1, none⟩ (.slice Ao32 t375.length co32)) w6.heap.size (fun k_ => some k_ ≠ (.slice none 0 0 : Value).ownBlock ∧ some k_ ≠ (.slice Ao30 t372.length co30 : Value).ownBlock) (.slice Ao32 t375.length co32) t375) := ⟨by (with_reducible repeat (first | apply Kd.R_alloc | apply Kd.R_drewN | apply Kd.R_drew)); exact Kd.R_mono (Kd.R_far (p := ⟨gb378, 1, none⟩) (Kd.R_far (p := ⟨gb378, 0, none⟩) (Kd.R_types HO377.out BK378.out (by decide)) (fun _ hk => hk.2) (.slice Ao30 t372.length co30)) (fun _ hk => hk.2) (.slice Ao32 t375.length co32)) (fun _ hk => ⟨hk.1.2, hk.1.1⟩)⟩
              have n5_ : Aside0 (((w29.setCell ⟨gb378, 0, none⟩ (.slice Ao30 t372.length co30)).setCell ⟨gb378, 1, none⟩ (.slice Ao32 t375.length co32)).heap[gb378]? = some (.cells #[.slice Ao30 t372.length co30, .slice Ao32 t375.length co32] 26 (0, 0))) := ⟨by (with_reducible repeat (first | refine blk_drewN ?_ _ | refine blk_drew ?_ | refine blk_alloc ?_ _)); refine blk_put (cs := #[.slice Ao30 t372.length co30, .slice none 0 0]) ?_ 1 _ rfl; (with_reducible repeat (first | refine blk_drewN ?_ _ | refine blk_drew ?_ | refine blk_alloc ?_ _)); refine blk_put (cs := #[.slice none 0 0, .slice none 0 0]) ?_ 0 _ rfl; (with_reducible repeat (first | refine blk_drewN ?_ _ | refine blk_drew ?_ | refine blk_alloc ?_ _)); exact BK378.out⟩
              have n6_ : Aside0 (Below w6.heap.size w6 ((w29.setCell ⟨gb378, 0, none⟩ (.slice Ao30 t372.length co30)).setCell ⟨gb378, 1, none⟩ (.slice Ao32 t375.length co32))) := ⟨by repeat (first | (with_reducible first | exact HB.out | apply below_alloc | apply pw_below_drewN | apply below_drew1 | refine below_set ?_ GE378.out) | exact HB.out)⟩
              (try clear HO_6)
              (try clear HO_37)
              (try clear HL371_0)
              (try clear HO374)
              (try clear HO377)
              (try clear BK378)
              (try clear HB)
              generalize ((w29.setCell ⟨gb378, 0, none⟩ (.slice Ao30 t372.length co30)).setCell ⟨gb378, 1, none⟩ (.slice Ao32 t375.length co32)) = w33 at n0_ n1_ n2_ n3_ n4_ n5_ n6_ ⊢
              have HO_6 := n0_
              have HO_37 := n1_
              have HL371_0 := n2_
              have HO374 := n3_
              have HO377 := n4_
              have BK378 := n5_
              have HB := n6_
              clear n0_ n1_ n2_ n3_ n4_ n5_ n6_
              have n0_ := Aside0.mk (Kd.S_drew HO_6.out)
              have n1_ := Aside0.mk trivial
              have n2_ := Aside0.mk trivial
              have n3_ := Aside0.mk (Kd.R_drew HO374.out)
              have n4_ := Aside0.mk (Kd.R_drew HO377.out)
              have n5_ := Aside0.mk (blk_drew BK378.out)
              have n6_ := Aside0.mk (below_drew1 HB.out)
              clear HO_6
              clear HO_37
              clear HL371_0
              clear HO374
              clear HO377
              clear BK378
              clear HB
              have HO_6 := n0_
              have HO_37 := n1_
              have HL371_0 := n2_
              have HO374 := n3_
              have HO377 := n4_
              have BK378 := n5_
              have HB := n6_
              clear n0_ n1_ n2_ n3_ n4_ n5_ n6_
              obtain ⟨Aq36, cq36, eq36⟩ := Kd.S_slice HO_6.out
              subst eq36
              have p380 : 0 ≤ (t379 : Int) := of_decide_eq_true (by first | (with_reducible assumption) | assumption)
              have q380 : t379 < (x6_2.length : Int) := of_decide_eq_true (by first | (with_reducible assumption) | assumption)
              obtain ⟨ad380, A380_0, c380_0, e380, hx380_0, hl380_0, hi380_0⟩ := at_L2 (Kd.S_reads' HO_6.out).2.2 t379 p380 q380
              cases e380
              obtain ⟨ce380, hce380, hMe380, hcc380⟩ := Kd.S_get HO_6.out [] t379 p380 (by first | exact q380 | exact of_decide_eq_true (by first | (with_reducible assumption) | assumption) | (have e_ := (Kd.S_reads' HO_6.out).1; omega))
              obtain ⟨ve380_0, rfl, ge380_0⟩ := hMe380
              have hv380_0 := hcc380 0 _ rfl
              rw [Nat.add_zero, show ((Kd.slice 3 (Kd.int .i64))).sz = 1 from rfl, Nat.mul_one] at hv380_0
              replace hv380_0 := Option.some.inj (hv380_0.symm.trans hx380_0)
              rw [hv380_0] at ge380_0
              have HL380_0 := Aside0.mk (show Kd.R (Kd.int .i64) 3 _ _ _ _ (rd_L2 x6_2 t379) from ge380_0)
              clear hv380_0 ge380_0
              have HX380_0 := Aside0.mk hx380_0
              clear hcc380 hce380
              have HR380_0 := Aside0.mk hi380_0
              have HC380_0 := Aside0.mk hl380_0
              clear hi380_0 hl380_0
              replace p380 := eq_true p380
              replace q380 := eq_true q380
              have p384 : 0 ≤ ((t381.length : Int) : Int) := of_decide_eq_true (by first | (with_reducible assumption) | assumption)
              have q384 : (t381.length : Int) < ((rd_L2 x6_2 t379).length : Int) := of_decide_eq_true (by first | (with_reducible assumption) | assumption)
              obtain ⟨ad384, e384, hx384_0⟩ := Kd.at_int (by repeat (first | (with_reducible exact HR380_0.out) | (with_reducible refine Kd.C_alloc ?_ _) | (with_reducible refine Kd.C_drewN ?_ _) | (with_reducible refine Kd.C_drew ?_) | exact HR380_0.out)) (t381.length : Int) p384 q384
              cases e384
              (try simp only [Go.IntWalk.toNatUp] at hx384_0)
              replace p384 := eq_true p384
              replace q384 := eq_true q384
              have p27 : 0 ≤ ((t381.length : Int) : Int) := of_decide_eq_true (by first | (with_reducible assumption) | assumption)
              have q27 : ((t381.length : Int) : Int) < (((rd_L2 x6_2 t379).length : Int) : Int) := of_decide_eq_true (by first | (with_reducible assumption) | assumption)
              obtain ⟨go27, co27, eo27, gb27, gl27, cl27, HG27⟩ := Kd.R_form HL380_0.out (by omega)
              (first | cases eo27 | (injection eo27 with ea_ en_ ec_; (first | subst ea_ | (injection ea_ with ea_; subst ea_)); subst ec_; clear en_))
              have GB27 := Aside0.mk gb27
              have GG27 := Aside0.mk HG27
              clear gb27 gl27 HG27
              (first | simp only [add_plain] at hx384_0 | skip)
              refine start_ (n := 14) (S := fun w' => w'.cell? ⟨gb378, 0, none⟩ = some (.slice Ao30 t372.length co30) ∧ w'.cell? ⟨gb378, 1, none⟩ = some (.slice Ao32 t375.length co32) ∧ w'.cell? (ad380.add (t379).toNat) = some (.slice (some ⟨go27, 0, none⟩) (rd_L2 x6_2 t379).length c380_0) ∧ w'.cell? ⟨go27, t381.length, none⟩ = some (.int .i64 (rd (rd_L2 x6_2 t379) (t381.length : Int)))) (ds := [13]) #[false, false, false, false, false, false, false, false, false, false, false, false, false, false] (by kernel_rfl) rfl rfl ⟨(blk_cell BK378.out 0).trans rfl, (blk_cell BK378.out 1).trans rfl, hx380_0, hx384_0⟩ (fun hHeld => ?_); refine with_tabW spec_SpreadOfWalks.tab14 spec_SpreadOfWalks.bits14 (fun HT_ HW_ => ?_)
              generalize w33.drew = w34 at HO_6 HO374 HO377 BK378 HB HL380_0 HR380_0 HX380_0 hx380_0 hx384_0 GG27 hHeld ⊢
              refine pure_ (i := 0) (N := some 45) (v := ?_) (a' := ?_) #[true, false, false, false, false, false, false, false, false, false, false, false, false, false] rfl rfl (any_of HT_.out (by kernel_rfl)) (fun _ _ _ h => h) (Or.inl ⟨by rfl, ?_⟩) ?_ ?_
              rotate_left
              ·intro w'
               go_simp
               with_reducible rfl
              rotate_left
              ·simp only [Act.put, List.setIfInBounds_toArray, List.set_cons_zero, List.set_cons_succ, i64_w, i32_w]
               rfl
              refine pure_ (i := 1) (N := some 46) (v := ?_) (a' := ?_) #[true, true, false, false, false, false, false, false, false, false, false, false, false, false] rfl rfl (any_of HT_.out (by kernel_rfl)) (fun _ _ _ h => h) (Or.inl ⟨by rfl, ?_⟩) ?_ ?_
              rotate_left
              ·intro w'
               go_simp
               with_reducible rfl
              rotate_left
              ·simp only [Act.put, List.setIfInBounds_toArray, List.set_cons_zero, List.set_cons_succ, i64_w, i32_w]
               rfl
              refine take_ (i := 2) (N := some 47) (v := ?_) (a' := ?_) #[true, true, true, false, false, false, false, false, false, false, false, false, false, false] rfl rfl (take_ofW HT_.out HW_.out (by kernel_rfl)) (fun _ _ _ h => h) (Or.inl ⟨by rfl, ?_⟩) hHeld ?_ ?_
              rotate_left
              ·rintro w' ⟨s0, s1, s2, s3⟩
               go_simp
               with_reducible rfl
              rotate_left
              ·simp only [Act.put, List.setIfInBounds_toArray, List.set_cons_zero, List.set_cons_succ, i64_w, i32_w]
               rfl
              refine take_ (i := 6) (N := some 51) (v := ?_) (a' := ?_) #[true, true, true, false, false, false, true, false, false, false, false, false, false, false] rfl rfl (take_ofW HT_.out HW_.out (by kernel_rfl)) (fun _ _ _ h => h) (Or.inl ⟨by rfl, ?_⟩) hHeld ?_ ?_
              rotate_left
              ·rintro w' ⟨s0, s1, s2, s3⟩
               go_simp
               with_reducible rfl
              rotate_left
              ·simp only [Act.put, List.setIfInBounds_toArray, List.set_cons_zero, List.set_cons_succ, i64_w, i32_w]
               rfl
              refine one_ (i := 3) (N := some 48) #[true, true, true, true, false, false, true, false, false, false, false, false, false, false] rfl rfl (one_of HT_.out (by kernel_rfl)) (by decide) (fun K hK => ?_)
              refine goes_ Try.func72 (by kernel_rfl) rfl #[.slice Ao30 t372.length co30] (by rfl) rfl rfl (by (try simp only [List.map_toArray, List.map_cons, List.map_nil]); first | done | rfl | (simp only [List.length_drop, List.length_take]; rfl)) ?_
              with_reducible refine (spec_paSum.calls k2 _ _ t372 t379 _ ?side1 ?side2 A21.out).mono ?_
              (case side1 => repeat (first | exact (Kd.R_reads' HO374.out).2.2 | (with_reducible refine Kd.C_alloc ?_ _) | (with_reducible refine Kd.C_drewN ?_ _) | (with_reducible refine Kd.C_drew ?_)))
              (case side2 => exact (Kd.R_reads' HO374.out).2.1)
              rintro e w' ⟨rfl, ⟨nd, rfl⟩⟩
              refine ⟨_, rfl, ?_⟩
              refine hK.out _ _ ⟨(blk_cell BK378.out 0).trans rfl, (blk_cell BK378.out 1).trans rfl, hHeld.2.2.1, hHeld.2.2.2⟩ (fun hHeld => ?_)
              clear hK K
              refine norm_ (a' := ?_) ?_ ?_
              rotate_left
              ·show Act.put _ (some 48) _ = _
               simp only [Act.put, List.setIfInBounds_toArray, List.set_cons_zero, List.set_cons_succ, i64_w, i32_w]
               rfl
              refine pure_ (i := 4) (N := some 49) (v := ?_) (a' := ?_) #[true, true, true, true, true, false, true, false, false, false, false, false, false, false] rfl rfl (any_of HT_.out (by kernel_rfl)) (fun _ _ _ h => h) (Or.inl ⟨by rfl, ?_⟩) ?_ ?_
              rotate_left
              ·intro w'
               go_simp
               with_reducible rfl
              rotate_left
              ·simp only [Act.put, List.setIfInBounds_toArray, List.set_cons_zero, List.set_cons_succ, i64_w, i32_w]
               rfl
              refine take_ (i := 5) (N := some 50) (v := ?_) (a' := ?_) #[true, true, true, true, true, true, true, false, false, false, false, false, false, false] rfl rfl (take_ofW HT_.out HW_.out (by kernel_rfl)) (fun _ _ _ h => h) (Or.inl ⟨by rfl, ?_⟩) hHeld ?_ ?_
              rotate_left
              ·rintro w' ⟨s0, s1, s2, s3⟩
               go_simp
               with_reducible rfl
              rotate_left
              ·simp only [Act.put, List.setIfInBounds_toArray, List.set_cons_zero, List.set_cons_succ, i64_w, i32_w]
               rfl
              refine one_ (i := 7) (N := some 52) #[true, true, true, true, true, true, true, true, false, false, false, false, false, false] rfl rfl (one_of HT_.out (by kernel_rfl)) (by decide) (fun K hK => ?_)
              refine goes_ Try.func59 (by kernel_rfl) rfl #[.agg #[.slice Ao30 t372.length co30, .slice Ao32 t375.length co32]] (by rfl) rfl rfl (by (try simp only [List.map_toArray, List.map_cons, List.map_nil]); first | done | rfl | (simp only [List.length_drop, List.length_take]; rfl)) ?_
              with_reducible refine (spec_waPairs.calls k2 _ _ t372 _ _ t375 t381 _ ?side1 ?side2 ?side3 ?side4 A24.out).mono ?_
              (case side1 => repeat (first | exact (Kd.R_reads' HO374.out).2.2 | (with_reducible refine Kd.C_alloc ?_ _) | (with_reducible refine Kd.C_drewN ?_ _) | (with_reducible refine Kd.C_drew ?_)))
              (case side2 => exact (Kd.R_reads' HO374.out).2.1)
              (case side3 => repeat (first | exact (Kd.R_reads' HO377.out).2.2 | (with_reducible refine Kd.C_alloc ?_ _) | (with_reducible refine Kd.C_drewN ?_ _) | (with_reducible refine Kd.C_drew ?_)))
              (case side4 => exact (Kd.R_reads' HO377.out).2.1)
              rintro e w36 ⟨v382, rfl, ho0, hb⟩
              have HS2_ := (hb.cell (World.block_lt_of_cell? _ _ (hHeld.2.2.1))).trans (hHeld.2.2.1)
              have HS3_ := (hb.cell (World.block_lt_of_cell? _ _ (hHeld.2.2.2))).trans (hHeld.2.2.2)
              refine ⟨_, rfl, ?_⟩
              have n0_ := Aside0.mk (Kd.S_elder' (by (with_reducible repeat (first | apply Kd.S_alloc | apply Kd.S_drewN | apply Kd.S_drew)); exact HO_6.out) (Kd.S_base ho0) hb)
              have n1_ := Aside0.mk trivial
              have n2_ := Aside0.mk trivial
              have n3_ := Aside0.mk (Kd.R_below (by (with_reducible repeat (first | apply Kd.R_alloc | apply Kd.R_drewN | apply Kd.R_drew)); exact HO374.out) hb)
              have n4_ := Aside0.mk (Kd.R_below (by (with_reducible repeat (first | apply Kd.R_alloc | apply Kd.R_drewN | apply Kd.R_drew)); exact HO377.out) hb)
              have n5_ := Aside0.mk (Kd.R_below (by (with_reducible repeat (first | apply Kd.R_alloc | apply Kd.R_drewN | apply Kd.R_drew)); exact HL380_0.out) hb)
              have n6_ := Aside0.mk (Kd.S_lower (Kd.S_new' (Kd.S_new' (Kd.S_new' (Kd.S_new' (Kd.S_new' (Kd.S_new' ho0 (Kd.S_lt (by (with_reducible repeat (first | apply Kd.S_alloc | apply Kd.S_drewN | apply Kd.S_drew)); exact HO_6.out))) (show ∀ k, (Value.slice none 0 0).ownBlock = some k → k < _ from fun _ h_ => by simp [Value.ownBlock] at h_)) (show ∀ k, (Value.slice none 0 0).ownBlock = some k → k < _ from fun _ h_ => by simp [Value.ownBlock] at h_)) (Kd.R_lt (by (with_reducible repeat (first | apply Kd.R_alloc | apply Kd.R_drewN | apply Kd.R_drew)); exact HO374.out))) (Kd.R_lt (by (with_reducible repeat (first | apply Kd.R_alloc | apply Kd.R_drewN | apply Kd.R_drew)); exact HO377.out))) (Kd.R_lt (by (with_reducible repeat (first | apply Kd.R_alloc | apply Kd.R_drewN | apply Kd.R_drew)); exact HL380_0.out))) (below_size (by repeat (first | (with_reducible first | exact HB.out | apply below_alloc | apply pw_below_drewN | apply below_drew1 | refine below_set ?_ GE378.out) | exact HB.out))))
              have n7_ := Aside0.mk (blk_below (g := gb378) (o := .cells #[.slice Ao30 t372.length co30, .slice Ao32 t375.length co32] 26 (0, 0)) (by (with_reducible repeat (first | refine blk_drewN ?_ _ | refine blk_drew ?_ | refine blk_alloc ?_ _)); exact BK378.out) hb)
              have n8_ := Aside0.mk (Kd.C_below (by repeat (first | (with_reducible exact HR380_0.out) | (with_reducible refine Kd.C_alloc ?_ _) | (with_reducible refine Kd.C_drewN ?_ _) | (with_reducible refine Kd.C_drew ?_) | exact HR380_0.out)) hb)
              have n9_ := Aside0.mk (pw_cell_below hb HX380_0.out)
              have n10_ := Aside0.mk (below_step (by repeat (first | (with_reducible first | exact HB.out | apply below_alloc | apply pw_below_drewN | apply below_drew1 | refine below_set ?_ GE378.out) | exact HB.out)) hb)
              clear HO_6
              clear HO_37
              clear HL371_0
              clear HO374
              clear HO377
              clear HL380_0
              clear BK378
              clear HR380_0
              clear HX380_0
              clear HB
              have HO_6 := n0_
              have HO_37 := n1_
              have HL371_0 := n2_
              have HO374 := n3_
              have HO377 := n4_
              have HL380_0 := n5_
              have HO383 := n6_
              have BK378 := n7_
              have HR380_0 := n8_
              have HX380_0 := n9_
              have HB := n10_
              clear n0_ n1_ n2_ n3_ n4_ n5_ n6_ n7_ n8_ n9_ n10_
              (try clear hb)
              (try clear hb2)
              (try clear hk)
              (try clear hi)
              (try clear ho0)
              obtain ⟨Ao37, co37, eo37⟩ := Kd.S_slice HO383.out
              (first | subst eo37 | (injection eo37 with f1_ f2_ f3_; have f4_ := f1_.symm; have f5_ := f3_.symm; clear f1_ f2_ f3_; subst f4_; subst f5_))
              have p27 : 0 ≤ ((t381.length : Int) : Int) := of_decide_eq_true (by first | (with_reducible assumption) | assumption)
              have q27 : ((t381.length : Int) : Int) < (((rd_L2 x6_2 t379).length : Int) : Int) := of_decide_eq_true (by first | (with_reducible assumption) | assumption)
              obtain ⟨hx27_0, hf27_0⟩ := Kd.R_celln 0 HL380_0.out ((t381.length : Int) : Int) p27 q27
              (try simp only [Go.IntWalk.toNatUp] at hx27_0 hf27_0)
              (try simp only [Int.toNat_natCast] at hx27_0 hf27_0)
              replace p27 := eq_true p27
              replace q27 := eq_true q27
              have n_ := Aside0.mk (Kd.S_mono (ok' := (fun k_ => True ∧ some k_ ≠ (.slice Ao30 t372.length co30 : Value).ownBlock ∧ some k_ ≠ (.slice Ao32 t375.length co32 : Value).ownBlock ∧ some k_ ≠ (.slice Ao37 t381.length co37 : Value).ownBlock)) HO_6.out (fun k_ hk => ⟨hk.1.1, ⟨hk.1.2.1, ⟨hk.1.2.2, hk.2⟩⟩⟩))
              clear HO_6
              have HO_6 := n_
              clear n_
              have hq38 : (t379 : Int) < (x6_2.length : Int) := (by have h_ : (t379 : Int) < ((x6_2.length : Int) : Int) := of_decide_eq_true (by first | (with_reducible assumption) | assumption); first | exact h_ | (have e_ := (Kd.S_reads' HO_6.out).1; omega) | simpa only [List.length_set, List.length_set] using h_)
              obtain ⟨oki38, ce38, hcl38, hM38, hcc38, hok38, hbk38⟩ := Kd.S_borrow HO_6.out [] (t379 : Int) (of_decide_eq_true (by first | (with_reducible assumption) | assumption)) hq38
              obtain ⟨ve38_0, rfl, ge38_0⟩ := hM38
              have hv38 := hcc38 0 _ rfl
              rw [Nat.add_zero, show ((Kd.slice 3 (Kd.int .i64))).sz = 1 from rfl, Nat.mul_one] at hv38
              replace hv38 := Option.some.inj (hv38.symm.trans HX380_0.out)
              subst hv38
              clear hcc38 hcl38
              replace ge38_0 := (show Kd.R (Kd.int .i64) 3 _ _ _ _ (rd_L2 x6_2 t379) from ge38_0)
              have HP38 := Kd.R_putg ge38_0 ((t381.length : Int) : Int) (wrap64 ((rd (rd_L2 x6_2 t379) (t381.length : Int)) + 1))
              rw [← Ny385.out] at HP38
              have HS38 := hbk38 HP38.2 (fun k_ e_ => by injection e_ with e_; subst e_; exact ge38_0.1 _ rfl) (x' := y385) (Kd.M_row HP38.1)
              rw [← Ny387.out] at HS38
              have HQ38 := Aside0.mk HS38
              clear HP38 HS38 hbk38 hok38
              refine hK.out _ _ ⟨(blk_cell BK378.out 0).trans rfl, (blk_cell BK378.out 1).trans rfl, HS2_, HS3_⟩ (fun hHeld => ?_)
              clear hK K
              refine norm_ (a' := ?_) ?_ ?_
              rotate_left
              ·show Act.put _ (some 52) _ = _
               simp only [Act.put, List.setIfInBounds_toArray, List.set_cons_zero, List.set_cons_succ, i64_w, i32_w]
               rfl
              refine pure_ (i := 8) (N := some 53) (v := ?_) (a' := ?_) #[true, true, true, true, true, true, true, true, true, false, false, false, false, false] rfl rfl (any_of HT_.out (by kernel_rfl)) (fun _ _ _ h => h) (Or.inl ⟨by rfl, ?_⟩) ?_ ?_
              rotate_left
              ·intro w'
               go_simp
               with_reducible rfl
              rotate_left
              ·simp only [Act.put, List.setIfInBounds_toArray, List.set_cons_zero, List.set_cons_succ, i64_w, i32_w]
               rfl
              refine pure_ (i := 9) (N := some 54) (v := ?_) (a' := ?_) #[true, true, true, true, true, true, true, true, true, true, false, false, false, false] rfl rfl (any_of HT_.out (by kernel_rfl)) (fun _ _ _ h => h) (Or.inl ⟨by rfl, ?_⟩) ?_ ?_
              rotate_left
              ·intro w'
               go_simp
               with_reducible rfl
              rotate_left
              ·simp only [Act.put, List.setIfInBounds_toArray, List.set_cons_zero, List.set_cons_succ, i64_w, i32_w]
               rfl
              refine take_ (i := 10) (N := some 55) (v := ?_) (a' := ?_) #[true, true, true, true, true, true, true, true, true, true, true, false, false, false] rfl rfl (take_ofW HT_.out HW_.out (by kernel_rfl)) (fun _ _ _ h => h) (Or.inl ⟨by rfl, ?_⟩) hHeld ?_ ?_
              rotate_left
              ·rintro w' ⟨s0, s1, s2, s3⟩
               go_simp
               with_reducible rfl
              rotate_left
              ·simp only [Act.put, List.setIfInBounds_toArray, List.set_cons_zero, List.set_cons_succ, i64_w, i32_w]
               rfl
              refine pure_ (i := 11) (N := some 56) (v := ?_) (a' := ?_) #[true, true, true, true, true, true, true, true, true, true, true, true, false, false] rfl rfl (any_of HT_.out (by kernel_rfl)) (fun _ _ _ h => h) (Or.inl ⟨by rfl, ?_⟩) ?_ ?_
              rotate_left
              ·intro w'
               go_simp
               with_reducible rfl
              rotate_left
              ·simp only [Act.put, List.setIfInBounds_toArray, List.set_cons_zero, List.set_cons_succ, i64_w, i32_w]
               rfl
              refine pure_ (i := 12) (N := some 57) (v := ?_) (a' := ?_) #[true, true, true, true, true, true, true, true, true, true, true, true, true, false] rfl rfl (any_of HT_.out (by kernel_rfl)) (fun _ _ _ h => h) (Or.inl ⟨by rfl, ?_⟩) ?_ ?_
              rotate_left
              ·intro w'
               go_simp
               with_reducible rfl
              rotate_left
              ·simp only [Act.put, List.setIfInBounds_toArray, List.set_cons_zero, List.set_cons_succ, i64_w, i32_w]
               rfl
              refine last_ (i := 13) (N := none) #[true, true, true, true, true, true, true, true, true, true, true, true, true, true] rfl rfl (one_of HT_.out (by kernel_rfl)) (by decide) (fun K hK => ?_)
              refine skip_ (w1 := ?_) (by rfl) rfl ?_ ?_
              rotate_left
              ·go_simp
               rfl
              refine hK.out _ _ ?_
              clear hK K
              refine done_ (done_of HT_.out (by kernel_rfl)) ?_
              try go_wp2
              go_roundg k2
              case measure => have := HK1.out; have := HK2.out; omega
              case rel => exact ⟨(y387), (wrap64 (x39_2 + 1)), (by first | rfl | (simp; done) | (simp [*]; done)), H', ⟨by have := HK1.out; have := HK2.out; omega⟩, ⟨by (with_reducible repeat (first | apply Kd.S_alloc | apply Kd.S_drewN | apply Kd.S_drew)); exact Kd.S_mono HQ38.out (fun _ hk => hk.1)⟩, ⟨trivial⟩, ⟨by repeat (first | (with_reducible first | exact HB.out | apply below_alloc | apply pw_below_drewN | apply below_drew1 | refine below_set ?_ GB27.out | refine below_set ?_ GE378.out) | exact HB.out)⟩⟩
             ·rw [if_neg c26] at H
              exact absurd H (by simp)
            ·rw [if_neg c25] at H
             exact absurd H (by simp)
           ·rw [if_neg c23] at H
            exact absurd H (by simp)
          ·rw [if_neg c22] at H
           exact absurd H (by simp)
         ·rw [if_neg c19] at H
          exact absurd H (by simp)
        ·rw [if_neg c18] at H
         exact absurd H (by simp)
       ·rw [if_neg c17] at H
        have c17b0 : decide (x39_2 < (t360.length : Int)) = false := decide_eq_false c17
        clear c17
        simp only [Option.some.injEq, Prod.mk.injEq] at H
        obtain ⟨rfl, rfl⟩ := H
        go_wp2
        go_ret2
        exact ⟨_, by first | rfl | (simp [errW_none, errW_some] <;> rfl) | (simp [*, errW_none, errW_some] <;> rfl), by (with_reducible repeat (first | apply Kd.S_alloc | apply Kd.S_drewN | apply Kd.S_drew)); exact Kd.S_lower (Kd.S_mono HO_6.out (fun _ hk => trivial)) HBw.out.size, by exact HBw.out.trans ((by repeat (first | (with_reducible first | exact HB.out | apply below_alloc | apply pw_below_drewN | apply below_drew1) | exact HB.out) : Below w6.heap.size w6 _).mono HBw.out.size)⟩
 ·replace c3 := Bool.eq_false_iff.mpr c3
  subst c3
  have H1 : (some (([] : List (List Int)), false)) = some (r1, r2) := by rw [if_neg (show ¬ (false = true) by decide)] at H; exact H
  clear H
  have H := H1
  clear H1
  simp only [Option.some.injEq, Prod.mk.injEq] at H
  obtain ⟨rfl, rfl⟩ := H
  go_enter Try.func19, Try.ntmps19
  go_wp2_with (first | ((with_reducible refine gate_callee (f := 68) rfl ?_); refine goesL_ (some 13) rfl rfl Try.func68 (by kernel_rfl) rfl #[.int .i64 a0, .int .i64 0, .int .i64 4] rfl (by (try simp only [List.map_toArray, List.map_cons, List.map_nil]); first | done | rfl | (simp only [List.length_drop, List.length_take]; rfl)) ?_; (with_reducible refine (spec_l1In.calls a0 0 4 false _ A2.out).mono ?_); rintro e w' ⟨rfl, ⟨nd, rfl⟩⟩; refine ⟨_, rfl, ?_⟩))
  go_ret2
  exact ⟨_, by first | rfl | (simp [errW_none, errW_some] <;> rfl) | (simp [*, errW_none, errW_some] <;> rfl), by first | exact Kd.S_nil _ _ _ _ _ | exact Kd.N_nil _ _ _ _ _ | exact Kd.V_nil _ _ _ _ _ | exact Kd.Q_nil _ _ _ _ _ | exact Kd.R_nil _ _ _ _ _, by repeat (first | (with_reducible first | exact HB.out | apply below_alloc | apply pw_below_drewN | apply below_drew1) | exact HB.out)⟩

/-! ### spec_DrawAllHeights: function 20 -/
def spec_DrawAllHeights.f (l0 : List Int) : Option (Int) := (spec_l1Cur_sized.f l0 0 0 6).bind fun bt389 => (some bt389.1)
set_option maxHeartbeats 8000000 in
set_option maxRecDepth 100000 in
theorem spec_DrawAllHeights.calls (A0 : Option Addr) (c0 : Nat) (l0 : List Int) (r : Int) (w : World) (hr0 : Kd.C (Kd.int .u8) w A0 l0.length l0) (hc0 : l0.length ≤ c0) (h : spec_DrawAllHeights.f l0 = some r) :
  Calls Try.prog 20 #[.slice A0 l0.length c0] w fun e w' => e = .returned (.int .i64 r) ∧ Below w.heap.size w w' := by
 have hu55 := Try.underlying55
 have HR0 := Aside0.mk hr0
 have HC0 := Aside0.mk hc0
 clear hr0 hc0
 have HB := Aside0.mk (Below.refl w.heap.size w)
 have H : ((spec_l1Cur_sized.f l0 0 0 6).bind fun bt389 => (some bt389.1)) = some r := h
 clear h
 replace H := Option.bind_eq_some_iff.mp H
 obtain ⟨⟨t389, t390, t391⟩, A20, H⟩ := H
 replace H : (some t389) = some r := H
 have A2 := Aside0.mk A20
 clear A20
 obtain rfl := Option.some.inj H
 go_enter Try.func20, Try.ntmps20
 go_wp2_with (first | ((with_reducible refine gate_dst (N := 6) rfl ?_); refine box_event ?hg (N := 6) ?hd (cs := #[.slice A0 l0.length c0, .int .i64 0, .int .u64 0]) (t := 55) ?hr ?_; (case hd => rfl); (case hg => rfl); (case hr => first | (go_simp; done) | (go_simp; rfl)); intro gb388 hg w3 hbox hb; have n0_ := Aside0.mk (below_step (by repeat (first | (with_reducible first | exact HB.out | apply below_alloc | apply pw_below_drewN | apply below_drew1) | exact HB.out)) hb); have n1_ := Aside0.mk (hbox); have n2_ := Aside0.mk ((by rw [hg]; exact (below_size (by repeat (first | (with_reducible first | exact HB.out | apply below_alloc | apply pw_below_drewN | apply below_drew1) | exact HB.out))) : w.heap.size ≤ gb388)); have n3_ := Aside0.mk ((by rw [hg]; exact (below_size (by repeat (first | (with_reducible first | exact HB.out | apply below_alloc | apply pw_below_drewN | apply below_drew1) | exact HB.out))) : w.heap.size ≤ gb388)); clear HB; have HB := n0_; have BK388 := n1_; have GW388 := n2_; have GE388 := n3_; clear n0_ n1_ n2_ n3_; clear hb hbox hg; have HI388 := Aside0.mk (by unfold IsS55; exact ⟨_, _, BK388.out, GW388.out, HR0.out⟩ : IsS55 w w3 gb388 l0 0 0)) | ((with_reducible refine gate_callee (f := 63) rfl ?_); refine goesL_ (some 8) rfl rfl Try.func63 (by kernel_rfl) rfl #[.pointer (some ⟨gb388, 0, none⟩), .int .i64 6] rfl (by (try simp only [List.map_toArray, List.map_cons, List.map_nil]); first | done | rfl | (simp only [List.length_drop, List.length_take]; rfl)) ?_; (with_reducible refine (spec_l1Cur_sized.calls gb388 l0 0 0 6 t389 t390 t391 w _ ?side1 ?side2 A2.out).mono ?_); (case side1 => repeat (first | (with_reducible first | exact HI388.out | apply IsS55.alloc | apply IsS55.drewN | apply IsS55.drew | apply IsS55.set_1 | apply IsS55.set_2) | exact HI388.out)); (case side2 => repeat (first | (with_reducible first | exact HB.out | apply below_alloc | apply pw_below_drewN | apply below_drew1 | refine below_set ?_ (IsS55.ge HI388.out)) | exact HB.out)); rintro e w4 ⟨rfl, hi, hb, hk⟩; refine ⟨_, rfl, ?_⟩; have n0_ := Aside0.mk (hb); have n1_ := Aside0.mk (hi); clear HB; clear HI388; have HB := n0_; have HI388 := n1_; clear n0_ n1_; (try clear hb); (try clear hb2); (try clear hk); (try clear hi)))
 go_ret
 exact ⟨by first | rfl | (simp [errW_none, errW_some] <;> rfl) | (simp [*, errW_none, errW_some] <;> rfl), by repeat (first | (with_reducible first | exact HB.out | apply below_alloc | apply pw_below_drewN | apply below_drew1 | refine below_set ?_ (IsS55.ge HI388.out)) | exact HB.out)⟩

end Go.Proofs.Ytkbdjbmalpkkfaa.PFnAreaAndPairsAlike
