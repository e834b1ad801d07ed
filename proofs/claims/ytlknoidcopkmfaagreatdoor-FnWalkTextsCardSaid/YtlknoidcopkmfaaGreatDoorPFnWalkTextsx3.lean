-- Written by a program of this session for this claim (its own turn of the print).
import Derived.Test.YtlknoidcopkmfaaGreatDoorPFnWalkTextsx0
import Derived.Test.YtlknoidcopkmfaaGreatDoorPFnWalkTextsx1
import Derived.Test.YtlknoidcopkmfaaGreatDoorPFnWalkTextsx2
namespace Go.Proofs.YtlknoidcopkmfaaGreatDoor.PFnWalkTexts
open Go.RowKit Go.Proofs.YtlknoidcopkmfaaGreatDoorW.PrintWords Go.Proofs.YtlknoidcopkmfaaGreatDoorW.PrintLast Go.Proofs.YtlknoidcopkmfaaGreatDoorW.PrintMore
attribute [local go_sem] max2_int min2_int max_two min_two max_three min_three max_four min_four   -- for this text's walks alone
set_option linter.unusedVariables false
set_option linter.unusedSimpArgs false

/-! ### spec_waGood: function 42 -/
mutual
def spec_waGood.j0 : Nat → Bool → List Int → List Int → Option (Bool)
 | 0, _, _, _ => none
 | k + 1, x27, x122000, x122001 => if x27 = true then (some false) else (spec_waGood.l0 k x122001 (x122001.length : Int) 0 x122000 x122001)
def spec_waGood.l0 : Nat → List Int → Int → Int → List Int → List Int → Option (Bool)
 | 0, _, _, _, _, _ => none
 | k + 1, x29, x30, x31, x122000, x122001 => if x31 < x30 then (if 0 ≤ x31 then (if x31 < (x29.length : Int) then (if x31 ≤ (x122001.length : Int) then ((spec_l1Has.f k (x122001.take (x31 : Int).toNat) (rd x29 x31)).bind fun t126 => (if t126 = true then (some false) else (if x31 > 0 then (if x31 < (x122000.length : Int) then (if 0 ≤ (wrap64 (x31 - 1)) then (if (wrap64 (x31 - 1)) < (x122000.length : Int) then (if (rd x122000 x31) = (wrap64 ((rd x122000 (wrap64 (x31 - 1))) + 1)) then (if (wrap64 (x31 - 1)) < (x122001.length : Int) then (if (rd x122001 (wrap64 (x31 - 1))) > (rd x29 x31) then (some false) else (spec_waGood.l0 k x29 x30 (wrap64 (x31 + 1)) x122000 x122001)) else (none)) else (spec_waGood.l0 k x29 x30 (wrap64 (x31 + 1)) x122000 x122001)) else (none)) else (none)) else (none)) else (spec_waGood.l0 k x29 x30 (wrap64 (x31 + 1)) x122000 x122001)))) else (none)) else (none)) else (none)) else (some true)
end
def spec_waGood.f (k : Nat) (l0_0 : List Int) (l0_1 : List Int) : Option (Bool) := (spec_waHeights.f k l0_0).bind fun t122 => (if t122 = true then (if (l0_1.length : Int) = (l0_0.length : Int) then ((spec_l1All.f k l0_1 0 (wrap64 ((l0_0.length : Int) - 1))).bind fun t123 => (spec_waGood.j0 k (!t123) l0_0 l0_1)) else (spec_waGood.j0 k true l0_0 l0_1)) else (spec_waGood.j0 k true l0_0 l0_1))
theorem spec_waGood.mono_l : ∀ k, (∀ y0 y1 y2, LeO (spec_waGood.j0 k y0 y1 y2) (spec_waGood.j0 (k + 1) y0 y1 y2)) ∧ (∀ y0 y1 y2 y3 y4, LeO (spec_waGood.l0 k y0 y1 y2 y3 y4) (spec_waGood.l0 (k + 1) y0 y1 y2 y3 y4))
 | 0 => ⟨fun _ _ _ r h => by simp [spec_waGood.j0] at h, fun _ _ _ _ _ r h => by simp [spec_waGood.l0] at h⟩
 | k + 1 => by
  obtain ⟨ih0, ih1⟩ := spec_waGood.mono_l k
  refine ⟨?_, ?_⟩
  all_goals intros
  all_goals (first | unfold spec_waGood.j0 | unfold spec_waGood.l0)
  all_goals (repeat' first | (with_reducible first | exact ih0 _ _ _ | exact ih1 _ _ _ _ _ | exact spec_l1All.mono _ _ _ _ | exact spec_l1Has.mono _ _ _ | exact spec_waHeights.mono _ _ | exact LeO.refl _ | exact LeO.none _ | refine LeO.ite ?_ ?_ | refine LeO.bind ?_ (fun _ => ?_)) | exact LeO.none _ | refine LeO.ite ?_ ?_ | refine LeO.bind ?_ (fun _ => ?_))
theorem spec_waGood.mono : ∀ a0 a1 k, LeO (spec_waGood.f k a0 a1) (spec_waGood.f (k + 1) a0 a1) := by
 intro a0 a1 k
 obtain ⟨ih0, ih1⟩ := spec_waGood.mono_l k
 unfold spec_waGood.f
 repeat' first | (with_reducible first | exact ih0 _ _ _ | exact ih1 _ _ _ _ _ | exact spec_l1All.mono _ _ _ _ | exact spec_l1Has.mono _ _ _ | exact spec_waHeights.mono _ _ | exact LeO.refl _ | exact LeO.none _ | refine LeO.ite ?_ ?_ | refine LeO.bind ?_ (fun _ => ?_)) | exact LeO.none _ | refine LeO.ite ?_ ?_ | refine LeO.bind ?_ (fun _ => ?_)
def spec_waGood.T7 : Bool × List (List Nat × List Nat) := (true, [([], []), ([0], [0]), ([], []), ([1, 2], [1, 2]), ([], []), ([3, 4], [3, 4]), ([5, 5], [5]), ([6], [6]), ([7, 6], [6, 7]), ([8, 6, 6], [6, 8]), ([9], [9]), ([10, 9], [9, 10]), ([9], [9]), ([11, 12, 9], [9, 11, 12]), ([13, 9], [9, 13]), ([9], [9]), ([15, 9], [9, 15]), ([9], [9]), ([17, 9], [9, 17]), ([16, 18, 9], [9, 16, 18]), ([19, 9], [9, 19]), ([20, 9], [9, 20]), ([14, 21, 9], [9, 14, 21]), ([9, 22, 6], [6, 9, 22]), ([23, 9, 6], [6, 23]), ([24], [24]), ([25, 24], [24, 25]), ([24], [24]), ([27, 24], [24, 27]), ([26, 28, 24], [24, 26, 28]), ([29, 24], [24, 29]), ([24], [24]), ([30, 31, 24], [24, 30, 31]), ([24, 32, 6], [6, 24, 32]), ([6, 33], [6, 33])])
def spec_waGood.B7 : List Nat := [0, 1, 0, 7, 0, 31, 63, 127, 255, 511, 1023, 2047, 1023, 8191, 16383, 1023, 33791, 1023, 132095, 492543, 1016831, 2065407, 4194303, 8388607, 16777215, 33554431, 67108863, 33554431, 167772159, 536870911, 1073741823, 33554431, 4294967295, 8589934591, 17179869183]
theorem spec_waGood.tab7 : rtab .any (opsOf Tryz.f42 7) = spec_waGood.T7 := by kernel_rfl
theorem spec_waGood.bits7 : waitsOk spec_waGood.T7.2 spec_waGood.B7 = true := by kernel_rfl
set_option maxHeartbeats 8000000 in
set_option maxRecDepth 100000 in
theorem spec_waGood.calls (k : Nat) (A0_0 : Option Addr) (c0_0 : Nat) (l0_0 : List Int) (A0_1 : Option Addr) (c0_1 : Nat) (l0_1 : List Int) (r : Bool) (w : World) (hr0_0 : Kd.C (Kd.int .i64) w A0_0 l0_0.length l0_0) (hc0_0 : l0_0.length ≤ c0_0) (hr0_1 : Kd.C (Kd.int .i64) w A0_1 l0_1.length l0_1) (hc0_1 : l0_1.length ≤ c0_1) (h : spec_waGood.f k l0_0 l0_1 = some r) :
  Calls Tryz.prog 42 #[.agg #[.slice A0_0 l0_0.length c0_0, .slice A0_1 l0_1.length c0_1]] w fun e w' => e = .returned (.bool r) ∧ Below w.heap.size w w' := by
 have hu24 := Tryz.underlying24
 have HR0_0 := Aside0.mk hr0_0
 have HC0_0 := Aside0.mk hc0_0
 clear hr0_0 hc0_0
 have HR0_1 := Aside0.mk hr0_1
 have HC0_1 := Aside0.mk hc0_1
 clear hr0_1 hc0_1
 have HB := Aside0.mk (Below.refl w.heap.size w)
 have H : ((spec_waHeights.f k l0_0).bind fun t122 => (if t122 = true then (if (l0_1.length : Int) = (l0_0.length : Int) then ((spec_l1All.f k l0_1 0 (wrap64 ((l0_0.length : Int) - 1))).bind fun t123 => (spec_waGood.j0 k (!t123) l0_0 l0_1)) else (spec_waGood.j0 k true l0_0 l0_1)) else (spec_waGood.j0 k true l0_0 l0_1))) = some r := h
 clear h
 have HC2 := Aside0.mk H
 clear H
 go_enter Tryz.func42, Tryz.ntmps42
 go_upto_region 2 with (first | ((with_reducible refine gate_dst (N := 1) rfl ?_); (try (refine gate_guard (by rfl) ?_; dsimp only)); refine box_event ?hg (N := 1) ?hd (cs := #[.slice A0_0 l0_0.length c0_0, .slice A0_1 l0_1.length c0_1]) (t := 24) ?hr ?_; (case hd => rfl); (case hg => rfl); (case hr => first | (go_simp; done) | (go_simp; rfl)); intro gb121 hg w3 hbox hb; have n0_ := Aside0.mk (below_step (nbW HB.out) hb); have n1_ := Aside0.mk (hbox); have n2_ := Aside0.mk ((by rw [hg]; exact (below_size (nbW HB.out)) : w.heap.size ≤ gb121)); have n3_ := Aside0.mk ((by rw [hg]; exact (below_size (nbW HB.out)) : w.heap.size ≤ gb121)); clear HB; have HB := n0_; have BK121 := n1_; have GW121 := n2_; have GE121 := n3_; clear n0_ n1_ n2_ n3_; clear hb hbox hg; have hcz4_0 : w3.cell? ⟨gb121, 0, none⟩ = some (.slice A0_0 l0_0.length c0_0) := (blk_cell BK121.out 0).trans rfl; have hcz4_1 : w3.cell? ⟨gb121, 1, none⟩ = some (.slice A0_1 l0_1.length c0_1) := (blk_cell BK121.out 1).trans rfl; have hfz4_0 := blk_frozen BK121.out 0; have hfz4_1 := blk_frozen BK121.out 1))
 (try simp only [Act.put, List.setIfInBounds_toArray, List.set_cons_zero, List.set_cons_succ])
 go_cut [27] (fun v27 wc => ∃ (kq : Nat) (x27_1 : Bool), v27 = .bool x27_1 ∧ Aside0 (spec_waGood.j0 kq x27_1 l0_0 l0_1 = some r) ∧ Aside0 (kq ≤ k) ∧ Aside0 (wc.heap[gb121]? = some (.cells #[(.slice A0_0 l0_0.length c0_0), (.slice A0_1 l0_1.length c0_1)] 24 (0, 0))) ∧ Aside0 (Below w.heap.size w wc))
 case first =>
  have H := HC2.out
  clear HC2
  replace H := Option.bind_eq_some_iff.mp H
  obtain ⟨t122, A50, H⟩ := H
  (try dsimp -simprocs only at H)
  have A5 := Aside0.mk A50
  clear A50
  by_cases c6 : t122 = true
  ·subst c6
   rw [if_pos rfl] at H
   by_cases c7 : (l0_1.length : Int) = (l0_0.length : Int)
   ·rw [if_pos c7] at H
    have c7b0 : ((l0_1.length : Int) == (l0_0.length : Int)) = true := beq_iff_eq.mpr c7
    have c7b1 : ((l0_1.length : Int) != (l0_0.length : Int)) = false := bne_eq_false_iff_eq.mpr c7
    have c7b2 : (l0_1.length == l0_0.length) = true := by first | simpa using c7 | (simp at c7 ⊢; omega)
    clear c7
    (first | rw [c7b0] | (simp only [i64_w, i32_w]; rw [c7b0]) | rw [c7b1] | skip)
    replace H := Option.bind_eq_some_iff.mp H
    obtain ⟨t123, A80, H⟩ := H
    (try dsimp -simprocs only at H)
    have A8 := Aside0.mk A80
    clear A80
    have H' := Aside0.mk H
    clear H
    have hcz9_0 : w3.cell? ⟨gb121, 0, none⟩ = some (.slice A0_0 l0_0.length c0_0) := (blk_cell BK121.out 0).trans rfl
    have hcz9_1 : w3.cell? ⟨gb121, 1, none⟩ = some (.slice A0_1 l0_1.length c0_1) := (blk_cell BK121.out 1).trans rfl
    have hfz9_0 := blk_frozen BK121.out 0
    have hfz9_1 := blk_frozen BK121.out 1
    go_wp2_with (first | ((with_reducible refine gate_callee (f := 72) rfl ?_); refine gcW 11 Tryz.func72 #[.slice A0_0 l0_0.length c0_0] rfl ?_; (with_reducible refine (spec_waHeights.calls k _ _ l0_0 true _ ?side1 ?side2 A5.out).mono ?_); (case side1 => exact cbW (Kd.C_below HR0_0.out HB.out)); (case side2 => exact HC0_0.out); rintro e w' ⟨rfl, ⟨nd, rfl⟩⟩; refine ⟨_, rfl, ?_⟩) | (go_at_call 75; (with_reducible refine (spec_l1All.calls k _ _ l0_1 0 (wrap64 ((l0_0.length : Int) - 1)) t123 _ ?side1 ?side2 A8.out).mono ?_); (case side1 => repeat (first | exact (Kd.C_below HR0_1.out (by repeat (first | exact nbW HB.out | refine nbW (below_set ?_ GE121.out)))) | (with_reducible refine Kd.C_alloc ?_ _) | (with_reducible refine Kd.C_drewN ?_ _) | (with_reducible refine Kd.C_drew ?_))); (case side2 => exact HC0_1.out); rintro e w' ⟨rfl, ⟨nd, rfl⟩⟩))
    go_meet
    case rel => exact ⟨_, (!t123), (by first | rfl | (simp; done) | (simp [*]; done)), H', ⟨by first | omega | exact Nat.le_refl _⟩, ⟨by apply kbW; exact BK121.out⟩, ⟨by repeat (first | exact nbW HB.out | refine nbW (below_set ?_ GE121.out))⟩⟩
   ·rw [if_neg c7] at H
    have c7b0 : ((l0_1.length : Int) == (l0_0.length : Int)) = false := beq_eq_false_iff_ne.mpr c7
    have c7b1 : ((l0_1.length : Int) != (l0_0.length : Int)) = true := bne_iff_ne.mpr c7
    have c7b2 : (l0_1.length == l0_0.length) = false := by first | simpa using c7 | (simp at c7 ⊢; omega)
    (first | rw [c7b0] | (simp only [i64_w, i32_w]; rw [c7b0]) | rw [c7b1] | skip)
    have H' := Aside0.mk H
    clear H
    have hcz10_0 : w3.cell? ⟨gb121, 0, none⟩ = some (.slice A0_0 l0_0.length c0_0) := (blk_cell BK121.out 0).trans rfl
    have hcz10_1 : w3.cell? ⟨gb121, 1, none⟩ = some (.slice A0_1 l0_1.length c0_1) := (blk_cell BK121.out 1).trans rfl
    have hfz10_0 := blk_frozen BK121.out 0
    have hfz10_1 := blk_frozen BK121.out 1
    go_wp2_with (first | ((with_reducible refine gate_callee (f := 72) rfl ?_); refine gcW 11 Tryz.func72 #[.slice A0_0 l0_0.length c0_0] rfl ?_; (with_reducible refine (spec_waHeights.calls k _ _ l0_0 true _ ?side1 ?side2 A5.out).mono ?_); (case side1 => exact cbW (Kd.C_below HR0_0.out HB.out)); (case side2 => exact HC0_0.out); rintro e w' ⟨rfl, ⟨nd, rfl⟩⟩; refine ⟨_, rfl, ?_⟩))
    go_meet
    case rel => exact ⟨_, (true), (by first | rfl | (simp; done) | (simp [*]; done)), H', ⟨by first | omega | exact Nat.le_refl _⟩, ⟨by apply kbW; exact BK121.out⟩, ⟨by repeat (first | exact nbW HB.out | refine nbW (below_set ?_ GE121.out))⟩⟩
  ·replace c6 := Bool.eq_false_iff.mpr c6
   subst c6
   rw [if_neg (show ¬ (false = true) by decide)] at H
   have H' := Aside0.mk H
   clear H
   have hcz11_0 : w3.cell? ⟨gb121, 0, none⟩ = some (.slice A0_0 l0_0.length c0_0) := (blk_cell BK121.out 0).trans rfl
   have hcz11_1 : w3.cell? ⟨gb121, 1, none⟩ = some (.slice A0_1 l0_1.length c0_1) := (blk_cell BK121.out 1).trans rfl
   have hfz11_0 := blk_frozen BK121.out 0
   have hfz11_1 := blk_frozen BK121.out 1
   go_wp2_with (first | ((with_reducible refine gate_callee (f := 72) rfl ?_); refine gcW 11 Tryz.func72 #[.slice A0_0 l0_0.length c0_0] rfl ?_; (with_reducible refine (spec_waHeights.calls k _ _ l0_0 false _ ?side1 ?side2 A5.out).mono ?_); (case side1 => exact cbW (Kd.C_below HR0_0.out HB.out)); (case side2 => exact HC0_0.out); rintro e w' ⟨rfl, ⟨nd, rfl⟩⟩; refine ⟨_, rfl, ?_⟩))
   go_meet
   case rel => exact ⟨_, (true), (by first | rfl | (simp; done) | (simp [*]; done)), H', ⟨by first | omega | exact Nat.le_refl _⟩, ⟨by apply kbW; exact BK121.out⟩, ⟨by repeat (first | exact nbW HB.out | refine nbW (below_set ?_ GE121.out))⟩⟩
 case rest =>
  clear HC2
  try clear p2
  try clear c4
  try clear c6
  try clear p6
  try clear c7
  try clear c7b0
  try clear c7b1
  try clear c7b2
  try clear hcz10_0
  try clear hcz10_1
  try clear hcz11_0
  try clear hcz11_1
  try clear hcz4_0
  try clear hcz4_1
  try clear hcz9_0
  try clear hcz9_1
  try clear hfz10_0
  try clear hfz10_1
  try clear hfz11_0
  try clear hfz11_1
  try clear hfz4_0
  try clear hfz4_1
  try clear hfz9_0
  try clear hfz9_1
  obtain ⟨kq, x27_1, rfl, HA, HJ1, BK121, HB⟩ := hcut
  cases kq with
  | zero => exact absurd HA.out (by simp [spec_waGood.j0])
  | succ kj1 =>
   have H := HA.out
   clear HA
   simp only [spec_waGood.j0] at H
   by_cases c12 : x27_1 = true
   ·subst c12
    rw [if_pos rfl] at H
    obtain rfl := Option.some.inj H
    go_wp2
    go_ret
    exact ⟨by first | rfl | (simp [errW_none, errW_some] <;> rfl) | (simp [*, errW_none, errW_some] <;> rfl), by repeat (first | exact nbW HB.out | refine nbW (below_set ?_ GE121.out))⟩
   ·replace c12 := Bool.eq_false_iff.mpr c12
    subst c12
    rw [if_neg (show ¬ (false = true) by decide)] at H
    have H' := Aside0.mk H
    clear H
    have hcz13_0 : wc.cell? ⟨gb121, 0, none⟩ = some (.slice A0_0 l0_0.length c0_0) := (blk_cell BK121.out 0).trans rfl
    have hcz13_1 : wc.cell? ⟨gb121, 1, none⟩ = some (.slice A0_1 l0_1.length c0_1) := (blk_cell BK121.out 1).trans rfl
    have hfz13_0 := blk_frozen BK121.out 0
    have hfz13_1 := blk_frozen BK121.out 1
    go_wp2
    go_loopg [31] kj1 (fun kq v31 w' => ∃ (x31_2 : Int), v31 = .int .i64 x31_2 ∧ Aside0 (spec_waGood.l0 kq l0_1 (l0_1.length : Int) x31_2 l0_0 l0_1 = some r) ∧ Aside0 (kq ≤ kj1) ∧ Aside0 (w'.heap[gb121]? = some (.cells #[(.slice A0_0 l0_0.length c0_0), (.slice A0_1 l0_1.length c0_1)] 24 (0, 0))) ∧ Aside0 (Below w.heap.size w w'))
    case atStart => exact ⟨(0), (by first | rfl | (simp; done) | (simp [*]; done)), H', ⟨Nat.le_refl _⟩, ⟨by apply kbW; exact BK121.out⟩, ⟨by repeat (first | exact nbW HB.out | refine nbW (below_set ?_ GE121.out))⟩⟩
    case round =>
     clear H'
     try clear c1
     try clear p2
     try clear c4
     try clear c6
     try clear p6
     try clear c7
     try clear c7b0
     try clear c7b1
     try clear c7b2
     try clear c12
     try clear hcz10_0
     try clear hcz10_1
     try clear hcz11_0
     try clear hcz11_1
     try clear hcz13_0
     try clear hcz13_1
     try clear hcz4_0
     try clear hcz4_1
     try clear hcz9_0
     try clear hcz9_1
     try clear hfz10_0
     try clear hfz10_1
     try clear hfz11_0
     try clear hfz11_1
     try clear hfz13_0
     try clear hfz13_1
     try clear hfz4_0
     try clear hfz4_1
     try clear hfz9_0
     try clear hfz9_1
     try clear p2
     try clear p6
     obtain ⟨x31_2, rfl, HA, HK2, BK121, HB⟩ := hrel
     cases gk with
     | zero => exact absurd HA.out (by simp [spec_waGood.l0])
     | succ k2 =>
      have H := HA.out
      clear HA
      simp only [spec_waGood.l0] at H
      by_cases c14 : x31_2 < (l0_1.length : Int)
      ·rw [if_pos c14] at H
       have c14b0 := decide_eq_true c14
       clear c14
       by_cases c15 : 0 ≤ x31_2
       ·rw [if_pos c15] at H
        have c15b0 := decide_eq_true c15
        clear c15
        by_cases c16 : x31_2 < (l0_1.length : Int)
        ·rw [if_pos c16] at H
         have c16b0 := decide_eq_true c16
         clear c16
         have c17b0 := eq_true (of_decide_eq_true (by first | (with_reducible assumption) | assumption) : 0 ≤ x31_2)
         by_cases c18 : x31_2 ≤ (l0_1.length : Int)
         ·rw [if_pos c18] at H
          have c18b0 := eq_true c18
          have c18b1 := decide_eq_true c18
          clear c18
          replace H := Option.bind_eq_some_iff.mp H
          obtain ⟨t126, A190, H⟩ := H
          (try dsimp -simprocs only at H)
          have A19 := Aside0.mk A190
          clear A190
          by_cases c20 : t126 = true
          ·subst c20
           rw [if_pos rfl] at H
           obtain rfl := Option.some.inj H
           have p124 : 0 ≤ (x31_2 : Int) := of_decide_eq_true (by first | (with_reducible assumption) | assumption)
           have q124 : x31_2 < (l0_1.length : Int) := of_decide_eq_true (by first | (with_reducible assumption) | assumption)
           obtain ⟨ad124, e124, hx124_0⟩ := Kd.at_int HR0_1.out x31_2 p124 q124
           cases e124
           replace hx124_0 := (HB.out.cell (World.block_lt_of_cell? w _ hx124_0)).trans hx124_0
           replace p124 := eq_true p124
           replace q124 := eq_true q124
           try go_wp2
           have n0_ := Aside0.mk (blk_drew BK121.out)
           have n1_ := Aside0.mk (below_drew1 HB.out)
           clear BK121
           clear HB
           have BK121 := n0_
           have HB := n1_
           clear n0_ n1_
           obtain ⟨i022, hi022, _, hsz22, _⟩ := info_parts info3
           obtain ⟨hcut22, hA22, hC22⟩ := print_take_of (P := Tryz.prog) (Value.int .i64) 0 22 3 .i64 Tryz.underlying22 hi022 hsz22 (some ad124) c0_1 l0_1 x31_2 (of_decide_eq_true (by first | (with_reducible assumption) | assumption)) (of_decide_eq_true (by first | (with_reducible assumption) | assumption)) HC0_1.out
           have HR125 := Aside0.mk (Kd.C_of_reads (h1 := fun _ => rfl) (hA22 _ (Kd.reads_of_C HR0_1.out)))
           have HC125 := Aside0.mk hC22
           clear hA22 hC22 hi022 hsz22
           refine start_ (n := 35) (S := fun w' => w'.cell? ⟨gb121, 0, none⟩ = some (.slice A0_0 l0_0.length c0_0) ∧ w'.cell? ⟨gb121, 1, none⟩ = some (.slice (some ad124) l0_1.length c0_1)) (ds := []) #[false, false, false, false, false, false, false, false, false, false, false, false, false, false, false, false, false, false, false, false, false, false, false, false, false, false, false, false, false, false, false, false, false, false, false] (by kernel_rfl) rfl rfl ⟨(blk_cell BK121.out 0).trans rfl, (blk_cell BK121.out 1).trans rfl⟩ (fun hHeld => ?_); refine with_tabW spec_waGood.tab7 spec_waGood.bits7 (fun HT_ HW_ => ?_)
           generalize wr.drew = w21 at BK121 HB HR125 hHeld ⊢
           refine puW 0 36 HT_.out ?_
           refine puW 2 38 HT_.out ?_
           refine puW 4 40 HT_.out ?_
           refine taW 1 37 HT_.out HW_.out hHeld rfl (by rintro w' ⟨s0, s1⟩; go_simp; with_reducible rfl) ?_
           refine puW 3 39 HT_.out ?_
           refine one_ (i := 5) (N := some 41) #[true, true, true, true, true, true, false, false, false, false, false, false, false, false, false, false, false, false, false, false, false, false, false, false, false, false, false, false, false, false, false, false, false, false, false] rfl rfl (one_of HT_.out (by kernel_rfl)) (by decide) (fun K hK => ?_)
           refine goes_ Tryz.func76 (by kernel_rfl) rfl #[.slice (some ad124) (l0_1.take (x31_2 : Int).toNat).length c0_1, .int .i64 (rd l0_1 x31_2)] (by rfl) rfl rfl (by (try simp only [List.map_toArray, List.map_cons, List.map_nil]); first | done | (rw [show (l0_1.take (x31_2 : Int).toNat).length = x31_2.toNat from (by rw [List.length_take]; have h_ : (x31_2 : Int) ≤ (l0_1.length : Int) := of_decide_eq_true (by first | (with_reducible assumption) | assumption); omega)] <;> rfl) | rfl | (simp only [List.length_drop, List.length_take]; rfl)) ?_
           with_reducible refine (spec_l1Has.calls k2 _ _ (l0_1.take (x31_2 : Int).toNat) (rd l0_1 x31_2) true _ ?side1 ?side2 A19.out).mono ?_
           (case side1 => exact cbW (Kd.C_below HR125.out HB.out))
           (case side2 => exact HC125.out)
           rintro e w' ⟨rfl, ⟨nd, rfl⟩⟩
           refine ⟨_, rfl, ?_⟩
           refine hK.out _ _ ⟨(blk_cell BK121.out 0).trans rfl, (blk_cell BK121.out 1).trans rfl⟩ (fun hHeld => ?_)
           clear hK K
           refine noW ?_
           refine puW 6 42 HT_.out ?_
           refine ofW 7 43 HT_.out ?_
           refine ofW 8 44 HT_.out ?_
           refine ofW 9 45 HT_.out ?_
           refine ofW 10 46 HT_.out ?_
           refine ofW 11 47 HT_.out ?_
           refine ofW 12 48 HT_.out ?_
           refine ofW 13 49 HT_.out ?_
           refine ofW 14 50 HT_.out ?_
           refine ofW 15 51 HT_.out ?_
           refine ofW 16 52 HT_.out ?_
           refine ofW 17 53 HT_.out ?_
           refine ofW 18 54 HT_.out ?_
           refine ofW 19 55 HT_.out ?_
           refine ofW 20 56 HT_.out ?_
           refine ofW 21 57 HT_.out ?_
           refine ofW 22 58 HT_.out ?_
           refine ofW 23 59 HT_.out ?_
           refine ofW 24 60 HT_.out ?_
           refine ofW 25 61 HT_.out ?_
           refine ofW 26 62 HT_.out ?_
           refine ofW 27 63 HT_.out ?_
           refine ofW 28 64 HT_.out ?_
           refine ofW 29 65 HT_.out ?_
           refine ofW 30 66 HT_.out ?_
           refine ofW 31 67 HT_.out ?_
           refine ofW 32 68 HT_.out ?_
           refine ofW 33 69 HT_.out ?_
           refine puW 34 70 HT_.out ?_
           refine done_ (done_of HT_.out (by kernel_rfl)) ?_
           try go_wp2
           go_ret
           exact ⟨by first | rfl | (simp [errW_none, errW_some] <;> rfl) | (simp [*, errW_none, errW_some] <;> rfl), by repeat (first | exact nbW HB.out | refine nbW (below_set ?_ GE121.out))⟩
          ·replace c20 := Bool.eq_false_iff.mpr c20
           subst c20
           rw [if_neg (show ¬ (false = true) by decide)] at H
           by_cases c23 : x31_2 > 0
           ·rw [if_pos c23] at H
            have c23b0 := decide_eq_true c23
            clear c23
            by_cases c24 : x31_2 < (l0_0.length : Int)
            ·rw [if_pos c24] at H
             have c24b0 := decide_eq_true c24
             clear c24
             obtain ⟨ji25, hji25⟩ : ∃ j_ : Int, (wrap64 (x31_2 - 1)) = j_ := ⟨_, rfl⟩
             replace H : (if 0 ≤ (ji25) then (if (ji25) < (l0_0.length : Int) then (if (rd l0_0 x31_2) = (wrap64 ((rd l0_0 (ji25)) + 1)) then (if (ji25) < (l0_1.length : Int) then (if (rd l0_1 (ji25)) > (rd l0_1 x31_2) then (some false) else (spec_waGood.l0 k2 l0_1 (l0_1.length : Int) (wrap64 (x31_2 + 1)) l0_0 l0_1)) else (none)) else (spec_waGood.l0 k2 l0_1 (l0_1.length : Int) (wrap64 (x31_2 + 1)) l0_0 l0_1)) else (none)) else (none)) = some r := by first | (rw [hji25] at H; exact H) | (simp only [hji25] at H ⊢; exact H)
             (try rw [hji25] at A19)
             have hji25w : (IntKind.i64.wrap (x31_2 - 1)) = ji25 := (i64_w _).trans hji25
             by_cases c26 : 0 ≤ (ji25)
             ·rw [if_pos c26] at H
              have c26b0 := decide_eq_true c26
              clear c26
              by_cases c27 : (ji25) < (l0_0.length : Int)
              ·rw [if_pos c27] at H
               have c27b0 := decide_eq_true c27
               clear c27
               by_cases c28 : (rd l0_0 x31_2) = (wrap64 ((rd l0_0 (ji25)) + 1))
               ·rw [if_pos c28] at H
                have c28b0 : ((rd l0_0 x31_2) == (wrap64 ((rd l0_0 (ji25)) + 1))) = true := beq_iff_eq.mpr c28
                have c28b1 : ((rd l0_0 x31_2) != (wrap64 ((rd l0_0 (ji25)) + 1))) = false := bne_eq_false_iff_eq.mpr c28
                clear c28
                by_cases c29 : (ji25) < (l0_1.length : Int)
                ·rw [if_pos c29] at H
                 have c29b0 := decide_eq_true c29
                 clear c29
                 by_cases c30 : (rd l0_1 (ji25)) > (rd l0_1 x31_2)
                 ·rw [if_pos c30] at H
                  have c30b0 := decide_eq_true c30
                  clear c30
                  obtain rfl := Option.some.inj H
                  have p124 : 0 ≤ (x31_2 : Int) := of_decide_eq_true (by first | (with_reducible assumption) | assumption)
                  have q124 : x31_2 < (l0_1.length : Int) := of_decide_eq_true (by first | (with_reducible assumption) | assumption)
                  obtain ⟨ad124, e124, hx124_0⟩ := Kd.at_int HR0_1.out x31_2 p124 q124
                  cases e124
                  replace hx124_0 := (HB.out.cell (World.block_lt_of_cell? w _ hx124_0)).trans hx124_0
                  replace p124 := eq_true p124
                  replace q124 := eq_true q124
                  try go_wp2
                  have n0_ := Aside0.mk (blk_drew BK121.out)
                  have n1_ := Aside0.mk (below_drew1 HB.out)
                  clear BK121
                  clear HB
                  have BK121 := n0_
                  have HB := n1_
                  clear n0_ n1_
                  obtain ⟨i032, hi032, _, hsz32, _⟩ := info_parts info3
                  obtain ⟨hcut32, hA32, hC32⟩ := print_take_of (P := Tryz.prog) (Value.int .i64) 0 22 3 .i64 Tryz.underlying22 hi032 hsz32 (some ad124) c0_1 l0_1 x31_2 (of_decide_eq_true (by first | (with_reducible assumption) | assumption)) (of_decide_eq_true (by first | (with_reducible assumption) | assumption)) HC0_1.out
                  have HR125 := Aside0.mk (Kd.C_of_reads (h1 := fun _ => rfl) (hA32 _ (Kd.reads_of_C HR0_1.out)))
                  have HC125 := Aside0.mk hC32
                  clear hA32 hC32 hi032 hsz32
                  have p127 : 0 ≤ (x31_2 : Int) := of_decide_eq_true (by first | (with_reducible assumption) | assumption)
                  have q127 : x31_2 < (l0_0.length : Int) := of_decide_eq_true (by first | (with_reducible assumption) | assumption)
                  obtain ⟨ad127, e127, hx127_0⟩ := Kd.at_int HR0_0.out x31_2 p127 q127
                  have hw127_0 := hx127_0
                  cases e127
                  replace hx127_0 := (HB.out.cell (World.block_lt_of_cell? w _ hx127_0)).trans hx127_0
                  replace p127 := eq_true p127
                  replace q127 := eq_true q127
                  have p128 : 0 ≤ ((ji25) : Int) := of_decide_eq_true (by first | (with_reducible assumption) | assumption)
                  have q128 : (ji25) < (l0_0.length : Int) := of_decide_eq_true (by first | (with_reducible assumption) | assumption)
                  obtain ⟨ad128, e128, hx128_0⟩ := Kd.at_int HR0_0.out (ji25) p128 q128
                  have hw128_0 := hx128_0
                  obtain rfl : ad127 = ad128 := (by injection e128)
                  replace hx128_0 := (HB.out.cell (World.block_lt_of_cell? w _ hx128_0)).trans hx128_0
                  replace p128 := eq_true p128
                  replace q128 := eq_true q128
                  have p129 : 0 ≤ ((ji25) : Int) := of_decide_eq_true (by first | (with_reducible assumption) | assumption)
                  have q129 : (ji25) < (l0_1.length : Int) := of_decide_eq_true (by first | (with_reducible assumption) | assumption)
                  obtain ⟨ad129, e129, hx129_0⟩ := Kd.at_int HR0_1.out (ji25) p129 q129
                  have hw129_0 := hx129_0
                  obtain rfl : ad124 = ad129 := (by injection e129)
                  replace hx129_0 := (HB.out.cell (World.block_lt_of_cell? w _ hx129_0)).trans hx129_0
                  replace p129 := eq_true p129
                  replace q129 := eq_true q129
                  refine start_ (n := 35) (S := fun w' => w'.cell? ⟨gb121, 0, none⟩ = some (.slice (some ad127) l0_0.length c0_0) ∧ w'.cell? ⟨gb121, 1, none⟩ = some (.slice (some ad124) l0_1.length c0_1) ∧ w'.cell? (ad127.add (x31_2).toNat) = some (.int .i64 (rd l0_0 x31_2)) ∧ w'.cell? (ad127.add ((ji25)).toNat) = some (.int .i64 (rd l0_0 (ji25))) ∧ w'.cell? (ad124.add ((ji25)).toNat) = some (.int .i64 (rd l0_1 (ji25)))) (ds := []) #[false, false, false, false, false, false, false, false, false, false, false, false, false, false, false, false, false, false, false, false, false, false, false, false, false, false, false, false, false, false, false, false, false, false, false] (by kernel_rfl) rfl rfl ⟨(blk_cell BK121.out 0).trans rfl, (blk_cell BK121.out 1).trans rfl, ((HB.out.cell (World.block_lt_of_cell? w _ hw127_0)).trans hw127_0), ((HB.out.cell (World.block_lt_of_cell? w _ hw128_0)).trans hw128_0), ((HB.out.cell (World.block_lt_of_cell? w _ hw129_0)).trans hw129_0)⟩ (fun hHeld => ?_); refine with_tabW spec_waGood.tab7 spec_waGood.bits7 (fun HT_ HW_ => ?_)
                  generalize wr.drew = w31 at BK121 HB HR125 hx127_0 hx128_0 hx129_0 hHeld ⊢
                  refine puW 0 36 HT_.out ?_
                  refine puW 2 38 HT_.out ?_
                  refine puW 4 40 HT_.out ?_
                  refine taW 1 37 HT_.out HW_.out hHeld rfl (by rintro w' ⟨s0, s1, s2, s3, s4⟩; go_simp; with_reducible rfl) ?_
                  refine puW 3 39 HT_.out ?_
                  refine one_ (i := 5) (N := some 41) #[true, true, true, true, true, true, false, false, false, false, false, false, false, false, false, false, false, false, false, false, false, false, false, false, false, false, false, false, false, false, false, false, false, false, false] rfl rfl (one_of HT_.out (by kernel_rfl)) (by decide) (fun K hK => ?_)
                  refine goes_ Tryz.func76 (by kernel_rfl) rfl #[.slice (some ad124) (l0_1.take (x31_2 : Int).toNat).length c0_1, .int .i64 (rd l0_1 x31_2)] (by rfl) rfl rfl (by (try simp only [List.map_toArray, List.map_cons, List.map_nil]); first | done | (rw [show (l0_1.take (x31_2 : Int).toNat).length = x31_2.toNat from (by rw [List.length_take]; have h_ : (x31_2 : Int) ≤ (l0_1.length : Int) := of_decide_eq_true (by first | (with_reducible assumption) | assumption); omega)] <;> rfl) | rfl | (simp only [List.length_drop, List.length_take]; rfl)) ?_
                  with_reducible refine (spec_l1Has.calls k2 _ _ (l0_1.take (x31_2 : Int).toNat) (rd l0_1 x31_2) false _ ?side1 ?side2 A19.out).mono ?_
                  (case side1 => exact cbW (Kd.C_below HR125.out HB.out))
                  (case side2 => exact HC125.out)
                  rintro e w' ⟨rfl, ⟨nd, rfl⟩⟩
                  refine ⟨_, rfl, ?_⟩
                  refine hK.out _ _ ⟨(blk_cell BK121.out 0).trans rfl, (blk_cell BK121.out 1).trans rfl, ((HB.out.cell (World.block_lt_of_cell? w _ hw127_0)).trans hw127_0), ((HB.out.cell (World.block_lt_of_cell? w _ hw128_0)).trans hw128_0), ((HB.out.cell (World.block_lt_of_cell? w _ hw129_0)).trans hw129_0)⟩ (fun hHeld => ?_)
                  clear hK K
                  refine noW ?_
                  refine puW 6 42 HT_.out ?_
                  refine puW 7 43 HT_.out ?_
                  refine puW 8 44 HT_.out ?_
                  refine puW 9 45 HT_.out ?_
                  refine puW 10 46 HT_.out ?_
                  refine puW 12 48 HT_.out ?_
                  refine puW 15 51 HT_.out ?_
                  refine puW 17 53 HT_.out ?_
                  refine puW 18 54 HT_.out ?_
                  refine taW 11 47 HT_.out HW_.out hHeld rfl (by rintro w' ⟨s0, s1, s2, s3, s4⟩; go_simp; with_reducible rfl) ?_
                  refine puW 13 49 HT_.out ?_
                  refine taW 14 50 HT_.out HW_.out hHeld rfl (by rintro w' ⟨s0, s1, s2, s3, s4⟩; go_simp; with_reducible rfl) ?_
                  refine taW 16 52 HT_.out HW_.out hHeld rfl (by rintro w' ⟨s0, s1, s2, s3, s4⟩; go_simp; with_reducible rfl) ?_
                  refine puW 19 55 HT_.out ?_
                  refine taW 20 56 HT_.out HW_.out hHeld rfl (by rintro w' ⟨s0, s1, s2, s3, s4⟩; go_simp; with_reducible rfl) ?_
                  refine puW 21 57 HT_.out ?_
                  refine puW 22 58 HT_.out ?_
                  refine puW 23 59 HT_.out ?_
                  refine puW 24 60 HT_.out ?_
                  refine puW 25 61 HT_.out ?_
                  refine puW 27 63 HT_.out ?_
                  refine puW 28 64 HT_.out ?_
                  refine puW 31 67 HT_.out ?_
                  refine taW 26 62 HT_.out HW_.out hHeld rfl (by rintro w' ⟨s0, s1, s2, s3, s4⟩; go_simp; with_reducible rfl) ?_
                  refine puW 29 65 HT_.out ?_
                  refine taW 30 66 HT_.out HW_.out hHeld rfl (by rintro w' ⟨s0, s1, s2, s3, s4⟩; go_simp; with_reducible rfl) ?_
                  refine puW 32 68 HT_.out ?_
                  refine puW 33 69 HT_.out ?_
                  refine puW 34 70 HT_.out ?_
                  refine done_ (done_of HT_.out (by kernel_rfl)) ?_
                  try go_wp2
                  go_ret
                  exact ⟨by first | rfl | (simp [errW_none, errW_some] <;> rfl) | (simp only [← hji25]; first | rfl | (simp [errW_none, errW_some] <;> rfl)) | (simp [*, errW_none, errW_some] <;> rfl), by repeat (first | exact nbW HB.out | refine nbW (below_set ?_ GE121.out))⟩
                 ·rw [if_neg c30] at H
                  have c30b0 := decide_eq_false c30
                  clear c30
                  have H' := Aside0.mk H
                  clear H
                  have p124 : 0 ≤ (x31_2 : Int) := of_decide_eq_true (by first | (with_reducible assumption) | assumption)
                  have q124 : x31_2 < (l0_1.length : Int) := of_decide_eq_true (by first | (with_reducible assumption) | assumption)
                  obtain ⟨ad124, e124, hx124_0⟩ := Kd.at_int HR0_1.out x31_2 p124 q124
                  cases e124
                  replace hx124_0 := (HB.out.cell (World.block_lt_of_cell? w _ hx124_0)).trans hx124_0
                  replace p124 := eq_true p124
                  replace q124 := eq_true q124
                  try go_wp2
                  have n0_ := Aside0.mk (blk_drew BK121.out)
                  have n1_ := Aside0.mk (below_drew1 HB.out)
                  clear BK121
                  clear HB
                  have BK121 := n0_
                  have HB := n1_
                  clear n0_ n1_
                  obtain ⟨i034, hi034, _, hsz34, _⟩ := info_parts info3
                  obtain ⟨hcut34, hA34, hC34⟩ := print_take_of (P := Tryz.prog) (Value.int .i64) 0 22 3 .i64 Tryz.underlying22 hi034 hsz34 (some ad124) c0_1 l0_1 x31_2 (of_decide_eq_true (by first | (with_reducible assumption) | assumption)) (of_decide_eq_true (by first | (with_reducible assumption) | assumption)) HC0_1.out
                  have HR125 := Aside0.mk (Kd.C_of_reads (h1 := fun _ => rfl) (hA34 _ (Kd.reads_of_C HR0_1.out)))
                  have HC125 := Aside0.mk hC34
                  clear hA34 hC34 hi034 hsz34
                  have p127 : 0 ≤ (x31_2 : Int) := of_decide_eq_true (by first | (with_reducible assumption) | assumption)
                  have q127 : x31_2 < (l0_0.length : Int) := of_decide_eq_true (by first | (with_reducible assumption) | assumption)
                  obtain ⟨ad127, e127, hx127_0⟩ := Kd.at_int HR0_0.out x31_2 p127 q127
                  have hw127_0 := hx127_0
                  cases e127
                  replace hx127_0 := (HB.out.cell (World.block_lt_of_cell? w _ hx127_0)).trans hx127_0
                  replace p127 := eq_true p127
                  replace q127 := eq_true q127
                  have p128 : 0 ≤ ((ji25) : Int) := of_decide_eq_true (by first | (with_reducible assumption) | assumption)
                  have q128 : (ji25) < (l0_0.length : Int) := of_decide_eq_true (by first | (with_reducible assumption) | assumption)
                  obtain ⟨ad128, e128, hx128_0⟩ := Kd.at_int HR0_0.out (ji25) p128 q128
                  have hw128_0 := hx128_0
                  obtain rfl : ad127 = ad128 := (by injection e128)
                  replace hx128_0 := (HB.out.cell (World.block_lt_of_cell? w _ hx128_0)).trans hx128_0
                  replace p128 := eq_true p128
                  replace q128 := eq_true q128
                  have p129 : 0 ≤ ((ji25) : Int) := of_decide_eq_true (by first | (with_reducible assumption) | assumption)
                  have q129 : (ji25) < (l0_1.length : Int) := of_decide_eq_true (by first | (with_reducible assumption) | assumption)
                  obtain ⟨ad129, e129, hx129_0⟩ := Kd.at_int HR0_1.out (ji25) p129 q129
                  have hw129_0 := hx129_0
                  obtain rfl : ad124 = ad129 := (by injection e129)
                  replace hx129_0 := (HB.out.cell (World.block_lt_of_cell? w _ hx129_0)).trans hx129_0
                  replace p129 := eq_true p129
                  replace q129 := eq_true q129
                  refine start_ (n := 35) (S := fun w' => w'.cell? ⟨gb121, 0, none⟩ = some (.slice (some ad127) l0_0.length c0_0) ∧ w'.cell? ⟨gb121, 1, none⟩ = some (.slice (some ad124) l0_1.length c0_1) ∧ w'.cell? (ad127.add (x31_2).toNat) = some (.int .i64 (rd l0_0 x31_2)) ∧ w'.cell? (ad127.add ((ji25)).toNat) = some (.int .i64 (rd l0_0 (ji25))) ∧ w'.cell? (ad124.add ((ji25)).toNat) = some (.int .i64 (rd l0_1 (ji25)))) (ds := []) #[false, false, false, false, false, false, false, false, false, false, false, false, false, false, false, false, false, false, false, false, false, false, false, false, false, false, false, false, false, false, false, false, false, false, false] (by kernel_rfl) rfl rfl ⟨(blk_cell BK121.out 0).trans rfl, (blk_cell BK121.out 1).trans rfl, ((HB.out.cell (World.block_lt_of_cell? w _ hw127_0)).trans hw127_0), ((HB.out.cell (World.block_lt_of_cell? w _ hw128_0)).trans hw128_0), ((HB.out.cell (World.block_lt_of_cell? w _ hw129_0)).trans hw129_0)⟩ (fun hHeld => ?_); refine with_tabW spec_waGood.tab7 spec_waGood.bits7 (fun HT_ HW_ => ?_)
                  generalize wr.drew = w33 at BK121 HB HR125 hx127_0 hx128_0 hx129_0 hHeld ⊢
                  refine puW 0 36 HT_.out ?_
                  refine puW 2 38 HT_.out ?_
                  refine puW 4 40 HT_.out ?_
                  refine taW 1 37 HT_.out HW_.out hHeld rfl (by rintro w' ⟨s0, s1, s2, s3, s4⟩; go_simp; with_reducible rfl) ?_
                  refine puW 3 39 HT_.out ?_
                  refine one_ (i := 5) (N := some 41) #[true, true, true, true, true, true, false, false, false, false, false, false, false, false, false, false, false, false, false, false, false, false, false, false, false, false, false, false, false, false, false, false, false, false, false] rfl rfl (one_of HT_.out (by kernel_rfl)) (by decide) (fun K hK => ?_)
                  refine goes_ Tryz.func76 (by kernel_rfl) rfl #[.slice (some ad124) (l0_1.take (x31_2 : Int).toNat).length c0_1, .int .i64 (rd l0_1 x31_2)] (by rfl) rfl rfl (by (try simp only [List.map_toArray, List.map_cons, List.map_nil]); first | done | (rw [show (l0_1.take (x31_2 : Int).toNat).length = x31_2.toNat from (by rw [List.length_take]; have h_ : (x31_2 : Int) ≤ (l0_1.length : Int) := of_decide_eq_true (by first | (with_reducible assumption) | assumption); omega)] <;> rfl) | rfl | (simp only [List.length_drop, List.length_take]; rfl)) ?_
                  with_reducible refine (spec_l1Has.calls k2 _ _ (l0_1.take (x31_2 : Int).toNat) (rd l0_1 x31_2) false _ ?side1 ?side2 A19.out).mono ?_
                  (case side1 => exact cbW (Kd.C_below HR125.out HB.out))
                  (case side2 => exact HC125.out)
                  rintro e w' ⟨rfl, ⟨nd, rfl⟩⟩
                  refine ⟨_, rfl, ?_⟩
                  refine hK.out _ _ ⟨(blk_cell BK121.out 0).trans rfl, (blk_cell BK121.out 1).trans rfl, ((HB.out.cell (World.block_lt_of_cell? w _ hw127_0)).trans hw127_0), ((HB.out.cell (World.block_lt_of_cell? w _ hw128_0)).trans hw128_0), ((HB.out.cell (World.block_lt_of_cell? w _ hw129_0)).trans hw129_0)⟩ (fun hHeld => ?_)
                  clear hK K
                  refine noW ?_
                  refine puW 6 42 HT_.out ?_
                  refine puW 7 43 HT_.out ?_
                  refine puW 8 44 HT_.out ?_
                  refine puW 9 45 HT_.out ?_
                  refine puW 10 46 HT_.out ?_
                  refine puW 12 48 HT_.out ?_
                  refine puW 15 51 HT_.out ?_
                  refine puW 17 53 HT_.out ?_
                  refine puW 18 54 HT_.out ?_
                  refine taW 11 47 HT_.out HW_.out hHeld rfl (by rintro w' ⟨s0, s1, s2, s3, s4⟩; go_simp; with_reducible rfl) ?_
                  refine puW 13 49 HT_.out ?_
                  refine taW 14 50 HT_.out HW_.out hHeld rfl (by rintro w' ⟨s0, s1, s2, s3, s4⟩; go_simp; with_reducible rfl) ?_
                  refine taW 16 52 HT_.out HW_.out hHeld rfl (by rintro w' ⟨s0, s1, s2, s3, s4⟩; go_simp; with_reducible rfl) ?_
                  refine puW 19 55 HT_.out ?_
                  refine taW 20 56 HT_.out HW_.out hHeld rfl (by rintro w' ⟨s0, s1, s2, s3, s4⟩; go_simp; with_reducible rfl) ?_
                  refine puW 21 57 HT_.out ?_
                  refine puW 22 58 HT_.out ?_
                  refine puW 23 59 HT_.out ?_
                  refine puW 24 60 HT_.out ?_
                  refine puW 25 61 HT_.out ?_
                  refine puW 27 63 HT_.out ?_
                  refine puW 28 64 HT_.out ?_
                  refine puW 31 67 HT_.out ?_
                  refine taW 26 62 HT_.out HW_.out hHeld rfl (by rintro w' ⟨s0, s1, s2, s3, s4⟩; go_simp; with_reducible rfl) ?_
                  refine puW 29 65 HT_.out ?_
                  refine taW 30 66 HT_.out HW_.out hHeld rfl (by rintro w' ⟨s0, s1, s2, s3, s4⟩; go_simp; with_reducible rfl) ?_
                  refine puW 32 68 HT_.out ?_
                  refine puW 33 69 HT_.out ?_
                  refine puW 34 70 HT_.out ?_
                  refine done_ (done_of HT_.out (by kernel_rfl)) ?_
                  try go_wp2
                  go_roundg k2
                  case measure => have := HJ1.out; have := HK2.out; omega
                  case rel => exact ⟨(wrap64 (x31_2 + 1)), (by first | rfl | (simp; done) | (simp [*]; done)), H', ⟨by have := HJ1.out; have := HK2.out; omega⟩, ⟨by apply kbW; exact BK121.out⟩, ⟨by repeat (first | exact nbW HB.out | refine nbW (below_set ?_ GE121.out))⟩⟩
                ·rw [if_neg c29] at H
                 exact absurd H (by simp)
               ·rw [if_neg c28] at H
                have c28b0 : ((rd l0_0 x31_2) == (wrap64 ((rd l0_0 (ji25)) + 1))) = false := beq_eq_false_iff_ne.mpr c28
                have c28b1 : ((rd l0_0 x31_2) != (wrap64 ((rd l0_0 (ji25)) + 1))) = true := bne_iff_ne.mpr c28
                have H' := Aside0.mk H
                clear H
                have p124 : 0 ≤ (x31_2 : Int) := of_decide_eq_true (by first | (with_reducible assumption) | assumption)
                have q124 : x31_2 < (l0_1.length : Int) := of_decide_eq_true (by first | (with_reducible assumption) | assumption)
                obtain ⟨ad124, e124, hx124_0⟩ := Kd.at_int HR0_1.out x31_2 p124 q124
                cases e124
                replace hx124_0 := (HB.out.cell (World.block_lt_of_cell? w _ hx124_0)).trans hx124_0
                replace p124 := eq_true p124
                replace q124 := eq_true q124
                try go_wp2
                have n0_ := Aside0.mk (blk_drew BK121.out)
                have n1_ := Aside0.mk (below_drew1 HB.out)
                clear BK121
                clear HB
                have BK121 := n0_
                have HB := n1_
                clear n0_ n1_
                obtain ⟨i036, hi036, _, hsz36, _⟩ := info_parts info3
                obtain ⟨hcut36, hA36, hC36⟩ := print_take_of (P := Tryz.prog) (Value.int .i64) 0 22 3 .i64 Tryz.underlying22 hi036 hsz36 (some ad124) c0_1 l0_1 x31_2 (of_decide_eq_true (by first | (with_reducible assumption) | assumption)) (of_decide_eq_true (by first | (with_reducible assumption) | assumption)) HC0_1.out
                have HR125 := Aside0.mk (Kd.C_of_reads (h1 := fun _ => rfl) (hA36 _ (Kd.reads_of_C HR0_1.out)))
                have HC125 := Aside0.mk hC36
                clear hA36 hC36 hi036 hsz36
                have p127 : 0 ≤ (x31_2 : Int) := of_decide_eq_true (by first | (with_reducible assumption) | assumption)
                have q127 : x31_2 < (l0_0.length : Int) := of_decide_eq_true (by first | (with_reducible assumption) | assumption)
                obtain ⟨ad127, e127, hx127_0⟩ := Kd.at_int HR0_0.out x31_2 p127 q127
                have hw127_0 := hx127_0
                cases e127
                replace hx127_0 := (HB.out.cell (World.block_lt_of_cell? w _ hx127_0)).trans hx127_0
                replace p127 := eq_true p127
                replace q127 := eq_true q127
                have p128 : 0 ≤ ((ji25) : Int) := of_decide_eq_true (by first | (with_reducible assumption) | assumption)
                have q128 : (ji25) < (l0_0.length : Int) := of_decide_eq_true (by first | (with_reducible assumption) | assumption)
                obtain ⟨ad128, e128, hx128_0⟩ := Kd.at_int HR0_0.out (ji25) p128 q128
                have hw128_0 := hx128_0
                obtain rfl : ad127 = ad128 := (by injection e128)
                replace hx128_0 := (HB.out.cell (World.block_lt_of_cell? w _ hx128_0)).trans hx128_0
                replace p128 := eq_true p128
                replace q128 := eq_true q128
                refine start_ (n := 35) (S := fun w' => w'.cell? ⟨gb121, 0, none⟩ = some (.slice (some ad127) l0_0.length c0_0) ∧ w'.cell? ⟨gb121, 1, none⟩ = some (.slice (some ad124) l0_1.length c0_1) ∧ w'.cell? (ad127.add (x31_2).toNat) = some (.int .i64 (rd l0_0 x31_2)) ∧ w'.cell? (ad127.add ((ji25)).toNat) = some (.int .i64 (rd l0_0 (ji25)))) (ds := []) #[false, false, false, false, false, false, false, false, false, false, false, false, false, false, false, false, false, false, false, false, false, false, false, false, false, false, false, false, false, false, false, false, false, false, false] (by kernel_rfl) rfl rfl ⟨(blk_cell BK121.out 0).trans rfl, (blk_cell BK121.out 1).trans rfl, ((HB.out.cell (World.block_lt_of_cell? w _ hw127_0)).trans hw127_0), ((HB.out.cell (World.block_lt_of_cell? w _ hw128_0)).trans hw128_0)⟩ (fun hHeld => ?_); refine with_tabW spec_waGood.tab7 spec_waGood.bits7 (fun HT_ HW_ => ?_)
                generalize wr.drew = w35 at BK121 HB HR125 hx127_0 hx128_0 hHeld ⊢
                refine puW 0 36 HT_.out ?_
                refine puW 2 38 HT_.out ?_
                refine puW 4 40 HT_.out ?_
                refine taW 1 37 HT_.out HW_.out hHeld rfl (by rintro w' ⟨s0, s1, s2, s3⟩; go_simp; with_reducible rfl) ?_
                refine puW 3 39 HT_.out ?_
                refine one_ (i := 5) (N := some 41) #[true, true, true, true, true, true, false, false, false, false, false, false, false, false, false, false, false, false, false, false, false, false, false, false, false, false, false, false, false, false, false, false, false, false, false] rfl rfl (one_of HT_.out (by kernel_rfl)) (by decide) (fun K hK => ?_)
                refine goes_ Tryz.func76 (by kernel_rfl) rfl #[.slice (some ad124) (l0_1.take (x31_2 : Int).toNat).length c0_1, .int .i64 (rd l0_1 x31_2)] (by rfl) rfl rfl (by (try simp only [List.map_toArray, List.map_cons, List.map_nil]); first | done | (rw [show (l0_1.take (x31_2 : Int).toNat).length = x31_2.toNat from (by rw [List.length_take]; have h_ : (x31_2 : Int) ≤ (l0_1.length : Int) := of_decide_eq_true (by first | (with_reducible assumption) | assumption); omega)] <;> rfl) | rfl | (simp only [List.length_drop, List.length_take]; rfl)) ?_
                with_reducible refine (spec_l1Has.calls k2 _ _ (l0_1.take (x31_2 : Int).toNat) (rd l0_1 x31_2) false _ ?side1 ?side2 A19.out).mono ?_
                (case side1 => exact cbW (Kd.C_below HR125.out HB.out))
                (case side2 => exact HC125.out)
                rintro e w' ⟨rfl, ⟨nd, rfl⟩⟩
                refine ⟨_, rfl, ?_⟩
                refine hK.out _ _ ⟨(blk_cell BK121.out 0).trans rfl, (blk_cell BK121.out 1).trans rfl, ((HB.out.cell (World.block_lt_of_cell? w _ hw127_0)).trans hw127_0), ((HB.out.cell (World.block_lt_of_cell? w _ hw128_0)).trans hw128_0)⟩ (fun hHeld => ?_)
                clear hK K
                refine noW ?_
                refine puW 6 42 HT_.out ?_
                refine puW 7 43 HT_.out ?_
                refine puW 8 44 HT_.out ?_
                refine puW 9 45 HT_.out ?_
                refine puW 10 46 HT_.out ?_
                refine puW 12 48 HT_.out ?_
                refine puW 15 51 HT_.out ?_
                refine puW 17 53 HT_.out ?_
                refine puW 18 54 HT_.out ?_
                refine taW 11 47 HT_.out HW_.out hHeld rfl (by rintro w' ⟨s0, s1, s2, s3⟩; go_simp; with_reducible rfl) ?_
                refine puW 13 49 HT_.out ?_
                refine taW 14 50 HT_.out HW_.out hHeld rfl (by rintro w' ⟨s0, s1, s2, s3⟩; go_simp; with_reducible rfl) ?_
                refine taW 16 52 HT_.out HW_.out hHeld rfl (by rintro w' ⟨s0, s1, s2, s3⟩; go_simp; with_reducible rfl) ?_
                refine puW 19 55 HT_.out ?_
                refine taW 20 56 HT_.out HW_.out hHeld rfl (by rintro w' ⟨s0, s1, s2, s3⟩; go_simp; with_reducible rfl) ?_
                refine puW 21 57 HT_.out ?_
                refine puW 22 58 HT_.out ?_
                refine puW 23 59 HT_.out ?_
                refine puW 24 60 HT_.out ?_
                refine ofW 25 61 HT_.out ?_
                refine ofW 26 62 HT_.out ?_
                refine ofW 27 63 HT_.out ?_
                refine ofW 28 64 HT_.out ?_
                refine ofW 29 65 HT_.out ?_
                refine ofW 30 66 HT_.out ?_
                refine ofW 31 67 HT_.out ?_
                refine ofW 32 68 HT_.out ?_
                refine puW 33 69 HT_.out ?_
                refine puW 34 70 HT_.out ?_
                refine done_ (done_of HT_.out (by kernel_rfl)) ?_
                try go_wp2
                go_roundg k2
                case measure => have := HJ1.out; have := HK2.out; omega
                case rel => exact ⟨(wrap64 (x31_2 + 1)), (by first | rfl | (simp; done) | (simp [*]; done)), H', ⟨by have := HJ1.out; have := HK2.out; omega⟩, ⟨by apply kbW; exact BK121.out⟩, ⟨by repeat (first | exact nbW HB.out | refine nbW (below_set ?_ GE121.out))⟩⟩
              ·rw [if_neg c27] at H
               exact absurd H (by simp)
             ·rw [if_neg c26] at H
              exact absurd H (by simp)
            ·rw [if_neg c24] at H
             exact absurd H (by simp)
           ·rw [if_neg c23] at H
            have c23b0 := decide_eq_false c23
            clear c23
            have H' := Aside0.mk H
            clear H
            have p124 : 0 ≤ (x31_2 : Int) := of_decide_eq_true (by first | (with_reducible assumption) | assumption)
            have q124 : x31_2 < (l0_1.length : Int) := of_decide_eq_true (by first | (with_reducible assumption) | assumption)
            obtain ⟨ad124, e124, hx124_0⟩ := Kd.at_int HR0_1.out x31_2 p124 q124
            cases e124
            replace hx124_0 := (HB.out.cell (World.block_lt_of_cell? w _ hx124_0)).trans hx124_0
            replace p124 := eq_true p124
            replace q124 := eq_true q124
            try go_wp2
            have n0_ := Aside0.mk (blk_drew BK121.out)
            have n1_ := Aside0.mk (below_drew1 HB.out)
            clear BK121
            clear HB
            have BK121 := n0_
            have HB := n1_
            clear n0_ n1_
            obtain ⟨i038, hi038, _, hsz38, _⟩ := info_parts info3
            obtain ⟨hcut38, hA38, hC38⟩ := print_take_of (P := Tryz.prog) (Value.int .i64) 0 22 3 .i64 Tryz.underlying22 hi038 hsz38 (some ad124) c0_1 l0_1 x31_2 (of_decide_eq_true (by first | (with_reducible assumption) | assumption)) (of_decide_eq_true (by first | (with_reducible assumption) | assumption)) HC0_1.out
            have HR125 := Aside0.mk (Kd.C_of_reads (h1 := fun _ => rfl) (hA38 _ (Kd.reads_of_C HR0_1.out)))
            have HC125 := Aside0.mk hC38
            clear hA38 hC38 hi038 hsz38
            refine start_ (n := 35) (S := fun w' => w'.cell? ⟨gb121, 0, none⟩ = some (.slice A0_0 l0_0.length c0_0) ∧ w'.cell? ⟨gb121, 1, none⟩ = some (.slice (some ad124) l0_1.length c0_1)) (ds := []) #[false, false, false, false, false, false, false, false, false, false, false, false, false, false, false, false, false, false, false, false, false, false, false, false, false, false, false, false, false, false, false, false, false, false, false] (by kernel_rfl) rfl rfl ⟨(blk_cell BK121.out 0).trans rfl, (blk_cell BK121.out 1).trans rfl⟩ (fun hHeld => ?_); refine with_tabW spec_waGood.tab7 spec_waGood.bits7 (fun HT_ HW_ => ?_)
            generalize wr.drew = w37 at BK121 HB HR125 hHeld ⊢
            refine puW 0 36 HT_.out ?_
            refine puW 2 38 HT_.out ?_
            refine puW 4 40 HT_.out ?_
            refine taW 1 37 HT_.out HW_.out hHeld rfl (by rintro w' ⟨s0, s1⟩; go_simp; with_reducible rfl) ?_
            refine puW 3 39 HT_.out ?_
            refine one_ (i := 5) (N := some 41) #[true, true, true, true, true, true, false, false, false, false, false, false, false, false, false, false, false, false, false, false, false, false, false, false, false, false, false, false, false, false, false, false, false, false, false] rfl rfl (one_of HT_.out (by kernel_rfl)) (by decide) (fun K hK => ?_)
            refine goes_ Tryz.func76 (by kernel_rfl) rfl #[.slice (some ad124) (l0_1.take (x31_2 : Int).toNat).length c0_1, .int .i64 (rd l0_1 x31_2)] (by rfl) rfl rfl (by (try simp only [List.map_toArray, List.map_cons, List.map_nil]); first | done | (rw [show (l0_1.take (x31_2 : Int).toNat).length = x31_2.toNat from (by rw [List.length_take]; have h_ : (x31_2 : Int) ≤ (l0_1.length : Int) := of_decide_eq_true (by first | (with_reducible assumption) | assumption); omega)] <;> rfl) | rfl | (simp only [List.length_drop, List.length_take]; rfl)) ?_
            with_reducible refine (spec_l1Has.calls k2 _ _ (l0_1.take (x31_2 : Int).toNat) (rd l0_1 x31_2) false _ ?side1 ?side2 A19.out).mono ?_
            (case side1 => exact cbW (Kd.C_below HR125.out HB.out))
            (case side2 => exact HC125.out)
            rintro e w' ⟨rfl, ⟨nd, rfl⟩⟩
            refine ⟨_, rfl, ?_⟩
            refine hK.out _ _ ⟨(blk_cell BK121.out 0).trans rfl, (blk_cell BK121.out 1).trans rfl⟩ (fun hHeld => ?_)
            clear hK K
            refine noW ?_
            refine puW 6 42 HT_.out ?_
            refine puW 7 43 HT_.out ?_
            refine puW 8 44 HT_.out ?_
            refine puW 9 45 HT_.out ?_
            refine ofW 10 46 HT_.out ?_
            refine ofW 11 47 HT_.out ?_
            refine ofW 12 48 HT_.out ?_
            refine ofW 13 49 HT_.out ?_
            refine ofW 14 50 HT_.out ?_
            refine ofW 15 51 HT_.out ?_
            refine ofW 16 52 HT_.out ?_
            refine ofW 17 53 HT_.out ?_
            refine ofW 18 54 HT_.out ?_
            refine ofW 19 55 HT_.out ?_
            refine ofW 20 56 HT_.out ?_
            refine ofW 21 57 HT_.out ?_
            refine ofW 22 58 HT_.out ?_
            refine puW 23 59 HT_.out ?_
            refine puW 24 60 HT_.out ?_
            refine ofW 25 61 HT_.out ?_
            refine ofW 26 62 HT_.out ?_
            refine ofW 27 63 HT_.out ?_
            refine ofW 28 64 HT_.out ?_
            refine ofW 29 65 HT_.out ?_
            refine ofW 30 66 HT_.out ?_
            refine ofW 31 67 HT_.out ?_
            refine ofW 32 68 HT_.out ?_
            refine puW 33 69 HT_.out ?_
            refine puW 34 70 HT_.out ?_
            refine done_ (done_of HT_.out (by kernel_rfl)) ?_
            try go_wp2
            go_roundg k2
            case measure => have := HJ1.out; have := HK2.out; omega
            case rel => exact ⟨(wrap64 (x31_2 + 1)), (by first | rfl | (simp; done) | (simp [*]; done)), H', ⟨by have := HJ1.out; have := HK2.out; omega⟩, ⟨by apply kbW; exact BK121.out⟩, ⟨by repeat (first | exact nbW HB.out | refine nbW (below_set ?_ GE121.out))⟩⟩
         ·rw [if_neg c18] at H
          exact absurd H (by simp)
        ·rw [if_neg c16] at H
         exact absurd H (by simp)
       ·rw [if_neg c15] at H
        exact absurd H (by simp)
      ·rw [if_neg c14] at H
       have c14b0 := decide_eq_false c14
       clear c14
       obtain rfl := Option.some.inj H
       go_wp2
       go_ret
       exact ⟨by first | rfl | (simp [errW_none, errW_some] <;> rfl) | (simp [*, errW_none, errW_some] <;> rfl), by repeat (first | exact nbW HB.out | refine nbW (below_set ?_ GE121.out))⟩

end Go.Proofs.YtlknoidcopkmfaaGreatDoor.PFnWalkTexts
