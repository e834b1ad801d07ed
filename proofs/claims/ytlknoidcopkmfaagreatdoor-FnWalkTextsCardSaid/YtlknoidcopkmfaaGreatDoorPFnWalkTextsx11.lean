-- Written by a program of this session for this claim (its own turn of the print).
import Derived.Test.YtlknoidcopkmfaaGreatDoorPFnWalkTextsx0
import Derived.Test.YtlknoidcopkmfaaGreatDoorPFnWalkTextsx3
import Derived.Test.YtlknoidcopkmfaaGreatDoorPFnWalkTextsx4
import Derived.Test.YtlknoidcopkmfaaGreatDoorPFnWalkTextsx7
import Derived.Test.YtlknoidcopkmfaaGreatDoorPFnWalkTextsx8
import Derived.Test.YtlknoidcopkmfaaGreatDoorPFnWalkTextsx10
namespace Go.Proofs.YtlknoidcopkmfaaGreatDoor.PFnWalkTexts
open Go.RowKit Go.Proofs.YtlknoidcopkmfaaGreatDoorW.PrintWords Go.Proofs.YtlknoidcopkmfaaGreatDoorW.PrintLast Go.Proofs.YtlknoidcopkmfaaGreatDoorW.PrintMore
attribute [local go_sem] max2_int min2_int max_two min_two max_three min_three max_four min_four   -- for this text's walks alone
set_option linter.unusedVariables false
set_option linter.unusedSimpArgs false

/-! ### spec_WalkText: function 30 -/
def spec_WalkText.f (k : Nat) (l0_0 : List Int) (l0_1 : List Int) : Option (ByteArray × Bool) := (spec_waGood.f k l0_0 l0_1).bind fun t396 => (if t396 = true then ((spec_waText.f k l0_0 l0_1).bind fun t397 => (some (t397, true))) else (some ((⟨#[]⟩ : ByteArray), false)))
theorem spec_WalkText.mono : ∀ a0 a1 k, LeO (spec_WalkText.f k a0 a1) (spec_WalkText.f (k + 1) a0 a1) := by
 intro a0 a1 k
 unfold spec_WalkText.f
 repeat' first | (with_reducible first | exact spec_waGood.mono _ _ _ | exact spec_waText.mono _ _ _ | exact LeO.refl _ | exact LeO.none _ | refine LeO.ite ?_ ?_ | refine LeO.bind ?_ (fun _ => ?_)) | exact LeO.none _ | refine LeO.ite ?_ ?_ | refine LeO.bind ?_ (fun _ => ?_)
set_option maxHeartbeats 8000000 in
set_option maxRecDepth 100000 in
theorem spec_WalkText.calls (k : Nat) (A0_0 : Option Addr) (c0_0 : Nat) (l0_0 : List Int) (A0_1 : Option Addr) (c0_1 : Nat) (l0_1 : List Int) (r1 : ByteArray) (r2 : Bool) (w : World) (hr0_0 : Kd.C (Kd.int .i64) w A0_0 l0_0.length l0_0) (hc0_0 : l0_0.length ≤ c0_0) (hr0_1 : Kd.C (Kd.int .i64) w A0_1 l0_1.length l0_1) (hc0_1 : l0_1.length ≤ c0_1) (h : spec_WalkText.f k l0_0 l0_1 = some (r1, r2)) :
  Calls Tryz.prog 30 #[.agg #[.slice A0_0 l0_0.length c0_0, .slice A0_1 l0_1.length c0_1]] w fun e w' => e = .returned (.tuple #[.string r1, .bool r2]) ∧ Below w.heap.size w w' := by
 have hu24 := Tryz.underlying24
 have HR0_0 := Aside0.mk hr0_0
 have HC0_0 := Aside0.mk hc0_0
 clear hr0_0 hc0_0
 have HR0_1 := Aside0.mk hr0_1
 have HC0_1 := Aside0.mk hc0_1
 clear hr0_1 hc0_1
 have HB := Aside0.mk (Below.refl w.heap.size w)
 have H : ((spec_waGood.f k l0_0 l0_1).bind fun t396 => (if t396 = true then ((spec_waText.f k l0_0 l0_1).bind fun t397 => (some (t397, true))) else (some ((⟨#[]⟩ : ByteArray), false)))) = some (r1, r2) := h
 clear h
 replace H := Option.bind_eq_some_iff.mp H
 obtain ⟨t396, A20, H⟩ := H
 (try dsimp -simprocs only at H)
 have A2 := Aside0.mk A20
 clear A20
 by_cases c3 : t396 = true
 ·subst c3
  rw [if_pos rfl] at H
  replace H := Option.bind_eq_some_iff.mp H
  obtain ⟨t397, A40, H⟩ := H
  (try dsimp -simprocs only at H)
  have A4 := Aside0.mk A40
  clear A40
  simp only [Option.some.injEq, Prod.mk.injEq] at H
  obtain ⟨rfl, rfl⟩ := H
  go_enter Tryz.func30, Tryz.ntmps30
  go_wp2_with (first | ((with_reducible refine gate_dst (N := 1) rfl ?_); refine box_event ?hg (N := 1) ?hd (cs := #[.slice A0_0 l0_0.length c0_0, .slice A0_1 l0_1.length c0_1]) (t := 24) ?hr ?_; (case hd => rfl); (case hg => rfl); (case hr => first | (go_simp; done) | (go_simp; rfl)); intro gb395 hg w5 hbox hb; have n0_ := Aside0.mk (below_step (nbW HB.out) hb); have n1_ := Aside0.mk (hbox); have n2_ := Aside0.mk ((by rw [hg]; exact (below_size (nbW HB.out)) : w.heap.size ≤ gb395)); have n3_ := Aside0.mk ((by rw [hg]; exact (below_size (nbW HB.out)) : w.heap.size ≤ gb395)); clear HB; have HB := n0_; have BK395 := n1_; have GW395 := n2_; have GE395 := n3_; clear n0_ n1_ n2_ n3_; clear hb hbox hg; have hcz6_0 : w5.cell? ⟨gb395, 0, none⟩ = some (.slice A0_0 l0_0.length c0_0) := (blk_cell BK395.out 0).trans rfl; have hcz6_1 : w5.cell? ⟨gb395, 1, none⟩ = some (.slice A0_1 l0_1.length c0_1) := (blk_cell BK395.out 1).trans rfl; have hfz6_0 := blk_frozen BK395.out 0; have hfz6_1 := blk_frozen BK395.out 1) | ((with_reducible refine gate_callee (f := 42) rfl ?_); refine gcW 5 Tryz.func42 #[.agg #[.slice A0_0 l0_0.length c0_0, .slice A0_1 l0_1.length c0_1]] rfl ?_; (with_reducible refine (spec_waGood.calls k _ _ l0_0 _ _ l0_1 true _ ?side1 ?side2 ?side3 ?side4 A2.out).mono ?_); (case side1 => exact cbW (Kd.C_below HR0_0.out HB.out)); (case side2 => exact HC0_0.out); (case side3 => exact cbW (Kd.C_below HR0_1.out HB.out)); (case side4 => exact HC0_1.out); rintro e w7 ⟨rfl, hb⟩; refine ⟨_, rfl, ?_⟩; have n0_ := Aside0.mk (blk_below (kbW BK395.out) hb); have n1_ := Aside0.mk (below_step (by repeat (first | exact nbW HB.out | refine nbW (below_set ?_ GE395.out))) hb); clear BK395; clear HB; have BK395 := n0_; have HB := n1_; clear n0_ n1_; (try clear hb); (try clear hb2); (try clear hk); (try clear hi); have hcz8_0 : w7.cell? ⟨gb395, 0, none⟩ = some (.slice A0_0 l0_0.length c0_0) := (blk_cell BK395.out 0).trans rfl; have hcz8_1 : w7.cell? ⟨gb395, 1, none⟩ = some (.slice A0_1 l0_1.length c0_1) := (blk_cell BK395.out 1).trans rfl; have hfz8_0 := blk_frozen BK395.out 0; have hfz8_1 := blk_frozen BK395.out 1) | ((with_reducible refine gate_callee (f := 43) rfl ?_); refine gcW 8 Tryz.func43 #[.agg #[.slice A0_0 l0_0.length c0_0, .slice A0_1 l0_1.length c0_1]] rfl ?_; (with_reducible refine (spec_waText.calls k _ _ l0_0 _ _ l0_1 t397 _ ?side1 ?side2 ?side3 ?side4 A4.out).mono ?_); (case side1 => exact cbW (Kd.C_below HR0_0.out HB.out)); (case side2 => exact HC0_0.out); (case side3 => exact cbW (Kd.C_below HR0_1.out HB.out)); (case side4 => exact HC0_1.out); rintro e w9 ⟨rfl, hb⟩; refine ⟨_, rfl, ?_⟩; have n0_ := Aside0.mk (blk_below (kbW BK395.out) hb); have n1_ := Aside0.mk (below_step (by repeat (first | exact nbW HB.out | refine nbW (below_set ?_ GE395.out))) hb); clear BK395; clear HB; have BK395 := n0_; have HB := n1_; clear n0_ n1_; (try clear hb); (try clear hb2); (try clear hk); (try clear hi)))
  go_ret2
  exact ⟨by first | rfl | (simp [errW_none, errW_some] <;> rfl) | (simp [*, errW_none, errW_some] <;> rfl), by repeat (first | exact nbW HB.out | refine nbW (below_set ?_ GE395.out))⟩
 ·replace c3 := Bool.eq_false_iff.mpr c3
  subst c3
  rw [if_neg (show ¬ (false = true) by decide)] at H
  simp only [Option.some.injEq, Prod.mk.injEq] at H
  obtain ⟨rfl, rfl⟩ := H
  go_enter Tryz.func30, Tryz.ntmps30
  go_wp2_with (first | ((with_reducible refine gate_dst (N := 1) rfl ?_); refine box_event ?hg (N := 1) ?hd (cs := #[.slice A0_0 l0_0.length c0_0, .slice A0_1 l0_1.length c0_1]) (t := 24) ?hr ?_; (case hd => rfl); (case hg => rfl); (case hr => first | (go_simp; done) | (go_simp; rfl)); intro gb395 hg w10 hbox hb; have n0_ := Aside0.mk (below_step (nbW HB.out) hb); have n1_ := Aside0.mk (hbox); have n2_ := Aside0.mk ((by rw [hg]; exact (below_size (nbW HB.out)) : w.heap.size ≤ gb395)); have n3_ := Aside0.mk ((by rw [hg]; exact (below_size (nbW HB.out)) : w.heap.size ≤ gb395)); clear HB; have HB := n0_; have BK395 := n1_; have GW395 := n2_; have GE395 := n3_; clear n0_ n1_ n2_ n3_; clear hb hbox hg; have hcz11_0 : w10.cell? ⟨gb395, 0, none⟩ = some (.slice A0_0 l0_0.length c0_0) := (blk_cell BK395.out 0).trans rfl; have hcz11_1 : w10.cell? ⟨gb395, 1, none⟩ = some (.slice A0_1 l0_1.length c0_1) := (blk_cell BK395.out 1).trans rfl; have hfz11_0 := blk_frozen BK395.out 0; have hfz11_1 := blk_frozen BK395.out 1) | ((with_reducible refine gate_callee (f := 42) rfl ?_); refine gcW 5 Tryz.func42 #[.agg #[.slice A0_0 l0_0.length c0_0, .slice A0_1 l0_1.length c0_1]] rfl ?_; (with_reducible refine (spec_waGood.calls k _ _ l0_0 _ _ l0_1 false _ ?side1 ?side2 ?side3 ?side4 A2.out).mono ?_); (case side1 => exact cbW (Kd.C_below HR0_0.out HB.out)); (case side2 => exact HC0_0.out); (case side3 => exact cbW (Kd.C_below HR0_1.out HB.out)); (case side4 => exact HC0_1.out); rintro e w12 ⟨rfl, hb⟩; refine ⟨_, rfl, ?_⟩; have n0_ := Aside0.mk (blk_below (kbW BK395.out) hb); have n1_ := Aside0.mk (below_step (by repeat (first | exact nbW HB.out | refine nbW (below_set ?_ GE395.out))) hb); clear BK395; clear HB; have BK395 := n0_; have HB := n1_; clear n0_ n1_; (try clear hb); (try clear hb2); (try clear hk); (try clear hi)))
  go_ret2
  exact ⟨by first | rfl | (simp [errW_none, errW_some] <;> rfl) | (simp [*, errW_none, errW_some] <;> rfl), by repeat (first | exact nbW HB.out | refine nbW (below_set ?_ GE395.out))⟩

/-! ### impl_IsWalk: function 31 -/
def impl_IsWalk.f (k : Nat) (l0_0 : List Int) (l0_1 : List Int) : Option (Bool) := (impl_isWalk.f k l0_0 l0_1).bind fun t399 => (some t399)
theorem impl_IsWalk.mono : ∀ a0 a1 k, LeO (impl_IsWalk.f k a0 a1) (impl_IsWalk.f (k + 1) a0 a1) := by
 intro a0 a1 k
 unfold impl_IsWalk.f
 repeat' first | (with_reducible first | exact impl_isWalk.mono _ _ _ | exact LeO.refl _ | exact LeO.none _ | refine LeO.ite ?_ ?_ | refine LeO.bind ?_ (fun _ => ?_)) | exact LeO.none _ | refine LeO.ite ?_ ?_ | refine LeO.bind ?_ (fun _ => ?_)
set_option maxHeartbeats 8000000 in
set_option maxRecDepth 100000 in
theorem impl_IsWalk.calls (k : Nat) (A0_0 : Option Addr) (c0_0 : Nat) (l0_0 : List Int) (A0_1 : Option Addr) (c0_1 : Nat) (l0_1 : List Int) (r : Bool) (w : World) (hr0_0 : Kd.C (Kd.int .i64) w A0_0 l0_0.length l0_0) (hc0_0 : l0_0.length ≤ c0_0) (hr0_1 : Kd.C (Kd.int .i64) w A0_1 l0_1.length l0_1) (hc0_1 : l0_1.length ≤ c0_1) (h : impl_IsWalk.f k l0_0 l0_1 = some r) :
  Calls Tryz.prog 31 #[.agg #[.slice A0_0 l0_0.length c0_0, .slice A0_1 l0_1.length c0_1]] w fun e w' => e = .returned (.bool r) ∧ Below w.heap.size w w' := by
 have hu24 := Tryz.underlying24
 have HR0_0 := Aside0.mk hr0_0
 have HC0_0 := Aside0.mk hc0_0
 clear hr0_0 hc0_0
 have HR0_1 := Aside0.mk hr0_1
 have HC0_1 := Aside0.mk hc0_1
 clear hr0_1 hc0_1
 have HB := Aside0.mk (Below.refl w.heap.size w)
 have H : ((impl_isWalk.f k l0_0 l0_1).bind fun t399 => (some t399)) = some r := h
 clear h
 replace H := Option.bind_eq_some_iff.mp H
 obtain ⟨t399, A20, H⟩ := H
 (try dsimp -simprocs only at H)
 have A2 := Aside0.mk A20
 clear A20
 obtain rfl := Option.some.inj H
 go_enter Tryz.func31, Tryz.ntmps31
 go_wp2_with (first | ((with_reducible refine gate_dst (N := 1) rfl ?_); refine box_event ?hg (N := 1) ?hd (cs := #[.slice A0_0 l0_0.length c0_0, .slice A0_1 l0_1.length c0_1]) (t := 24) ?hr ?_; (case hd => rfl); (case hg => rfl); (case hr => first | (go_simp; done) | (go_simp; rfl)); intro gb398 hg w3 hbox hb; have n0_ := Aside0.mk (below_step (nbW HB.out) hb); have n1_ := Aside0.mk (hbox); have n2_ := Aside0.mk ((by rw [hg]; exact (below_size (nbW HB.out)) : w.heap.size ≤ gb398)); have n3_ := Aside0.mk ((by rw [hg]; exact (below_size (nbW HB.out)) : w.heap.size ≤ gb398)); clear HB; have HB := n0_; have BK398 := n1_; have GW398 := n2_; have GE398 := n3_; clear n0_ n1_ n2_ n3_; clear hb hbox hg; have hcz4_0 : w3.cell? ⟨gb398, 0, none⟩ = some (.slice A0_0 l0_0.length c0_0) := (blk_cell BK398.out 0).trans rfl; have hcz4_1 : w3.cell? ⟨gb398, 1, none⟩ = some (.slice A0_1 l0_1.length c0_1) := (blk_cell BK398.out 1).trans rfl; have hfz4_0 := blk_frozen BK398.out 0; have hfz4_1 := blk_frozen BK398.out 1) | ((with_reducible refine gate_callee (f := 46) rfl ?_); refine gcW 4 Tryz.func46 #[.agg #[.slice A0_0 l0_0.length c0_0, .slice A0_1 l0_1.length c0_1]] rfl ?_; (with_reducible refine (impl_isWalk.calls k _ _ l0_0 _ _ l0_1 t399 _ ?side1 ?side2 ?side3 ?side4 A2.out).mono ?_); (case side1 => exact cbW (Kd.C_below HR0_0.out HB.out)); (case side2 => exact HC0_0.out); (case side3 => exact cbW (Kd.C_below HR0_1.out HB.out)); (case side4 => exact HC0_1.out); rintro e w5 ⟨rfl, hb⟩; refine ⟨_, rfl, ?_⟩; have n0_ := Aside0.mk (blk_below (kbW BK398.out) hb); have n1_ := Aside0.mk (below_step (by repeat (first | exact nbW HB.out | refine nbW (below_set ?_ GE398.out))) hb); clear BK398; clear HB; have BK398 := n0_; have HB := n1_; clear n0_ n1_; (try clear hb); (try clear hb2); (try clear hk); (try clear hi)))
 go_ret
 exact ⟨by first | rfl | (simp [errW_none, errW_some] <;> rfl) | (simp [*, errW_none, errW_some] <;> rfl), by repeat (first | exact nbW HB.out | refine nbW (below_set ?_ GE398.out))⟩

/-! ### laws_wSame: function 15 -/
def laws_wSame.l0 : Nat → List Int → List Int → Int → Int → Option (Bool)
 | 0, _, _, _, _ => none
 | k + 1, x0, x1, x12, x13 => if x13 < x12 then (if 0 ≤ x13 then (if x13 < (x0.length : Int) then (if x13 < (x1.length : Int) then (if (rd x0 x13) = (rd x1 x13) then (laws_wSame.l0 k x0 x1 x12 (wrap64 (x13 + 1))) else (some false)) else (none)) else (none)) else (none)) else (some true)
def laws_wSame.f (k : Nat) (l0 : List Int) (l1 : List Int) : Option (Bool) := if (l0.length : Int) = (l1.length : Int) then (laws_wSame.l0 k l0 l1 (l0.length : Int) 0) else (some false)
theorem laws_wSame.mono_l : ∀ k, (∀ y0 y1 y2 y3, LeO (laws_wSame.l0 k y0 y1 y2 y3) (laws_wSame.l0 (k + 1) y0 y1 y2 y3))
 | 0 => fun _ _ _ _ r h => by simp [laws_wSame.l0] at h
 | k + 1 => by
  have ih0 := laws_wSame.mono_l k
  ·intro y0 y1 y2 y3
   unfold laws_wSame.l0
   repeat' first | (with_reducible first | exact ih0 _ _ _ _ | exact LeO.refl _ | exact LeO.none _ | refine LeO.ite ?_ ?_ | refine LeO.bind ?_ (fun _ => ?_)) | exact LeO.none _ | refine LeO.ite ?_ ?_ | refine LeO.bind ?_ (fun _ => ?_)
theorem laws_wSame.mono : ∀ a0 a1 k, LeO (laws_wSame.f k a0 a1) (laws_wSame.f (k + 1) a0 a1) := by
 intro a0 a1 k
 have ih0 := laws_wSame.mono_l k
 unfold laws_wSame.f
 repeat' first | (with_reducible first | exact ih0 _ _ _ _ | exact LeO.refl _ | exact LeO.none _ | refine LeO.ite ?_ ?_ | refine LeO.bind ?_ (fun _ => ?_)) | exact LeO.none _ | refine LeO.ite ?_ ?_ | refine LeO.bind ?_ (fun _ => ?_)
set_option maxHeartbeats 8000000 in
set_option maxRecDepth 100000 in
theorem laws_wSame.calls (k : Nat) (A0 : Option Addr) (c0 : Nat) (l0 : List Int) (A1 : Option Addr) (c1 : Nat) (l1 : List Int) (r : Bool) (w : World) (hr0 : Kd.C (Kd.int .i64) w A0 l0.length l0) (hc0 : l0.length ≤ c0) (hr1 : Kd.C (Kd.int .i64) w A1 l1.length l1) (hc1 : l1.length ≤ c1) (h : laws_wSame.f k l0 l1 = some r) :
  Calls Tryz.prog 15 #[.slice A0 l0.length c0, .slice A1 l1.length c1] w fun e w' => e = .returned (.bool r) ∧ Drawn0 w w' := by
 have HR0 := Aside0.mk hr0
 have HC0 := Aside0.mk hc0
 clear hr0 hc0
 have HR1 := Aside0.mk hr1
 have HC1 := Aside0.mk hc1
 clear hr1 hc1
 have H : (if (l0.length : Int) = (l1.length : Int) then (laws_wSame.l0 k l0 l1 (l0.length : Int) 0) else (some false)) = some r := h
 clear h
 by_cases c3 : (l0.length : Int) = (l1.length : Int)
 ·rw [if_pos c3] at H
  have c3b0 : ((l0.length : Int) == (l1.length : Int)) = true := beq_iff_eq.mpr c3
  have c3b1 : ((l0.length : Int) != (l1.length : Int)) = false := bne_eq_false_iff_eq.mpr c3
  have c3b2 : (l0.length == l1.length) = true := by first | simpa using c3 | (simp at c3 ⊢; omega)
  clear c3
  have H' := Aside0.mk H
  clear H
  go_enter Tryz.func15, Tryz.ntmps15
  go_wp2
  repeat (go_quiet (fail); try go_wp2)
  go_loopg [13] k (fun kq v13 w' => ∃ (x13_1 : Int), v13 = .int .i64 x13_1 ∧ Aside0 (laws_wSame.l0 kq l0 l1 (l0.length : Int) x13_1 = some r) ∧ Aside0 (kq ≤ k) ∧ Drawn0 w w')
  case atStart => exact ⟨(0), (by first | rfl | (simp; done) | (simp [*]; done)), H', ⟨Nat.le_refl _⟩, by repeat (first | exact Drawn0.refl _ | apply Drawn0.step)⟩
  case round =>
   clear H'
   try clear c1
   try clear p2
   try clear c3
   try clear c3b0
   try clear c3b1
   try clear c3b2
   obtain ⟨x13_1, rfl, HA, HK1, ⟨m1, rfl⟩⟩ := hrel
   cases gk with
   | zero => exact absurd HA.out (by simp [laws_wSame.l0])
   | succ k1 =>
    have H := HA.out
    clear HA
    simp only [laws_wSame.l0] at H
    by_cases c4 : x13_1 < (l0.length : Int)
    ·rw [if_pos c4] at H
     have c4b0 := decide_eq_true c4
     clear c4
     by_cases c5 : 0 ≤ x13_1
     ·rw [if_pos c5] at H
      have c5b0 := decide_eq_true c5
      clear c5
      by_cases c6 : x13_1 < (l0.length : Int)
      ·rw [if_pos c6] at H
       have c6b0 := decide_eq_true c6
       clear c6
       by_cases c7 : x13_1 < (l1.length : Int)
       ·rw [if_pos c7] at H
        have c7b0 := decide_eq_true c7
        clear c7
        by_cases c8 : (rd l0 x13_1) = (rd l1 x13_1)
        ·rw [if_pos c8] at H
         have c8b0 : ((rd l0 x13_1) == (rd l1 x13_1)) = true := beq_iff_eq.mpr c8
         have c8b1 : ((rd l0 x13_1) != (rd l1 x13_1)) = false := bne_eq_false_iff_eq.mpr c8
         clear c8
         have H' := Aside0.mk H
         clear H
         have p400 : 0 ≤ (x13_1 : Int) := of_decide_eq_true (by first | (with_reducible assumption) | assumption)
         have q400 : x13_1 < (l0.length : Int) := of_decide_eq_true (by first | (with_reducible assumption) | assumption)
         obtain ⟨ad400, e400, hx400_0⟩ := Kd.at_int HR0.out x13_1 p400 q400
         cases e400
         replace p400 := eq_true p400
         replace q400 := eq_true q400
         have p401 : 0 ≤ (x13_1 : Int) := of_decide_eq_true (by first | (with_reducible assumption) | assumption)
         have q401 : x13_1 < (l1.length : Int) := of_decide_eq_true (by first | (with_reducible assumption) | assumption)
         obtain ⟨ad401, e401, hx401_0⟩ := Kd.at_int HR1.out x13_1 p401 q401
         cases e401
         replace p401 := eq_true p401
         replace q401 := eq_true q401
         go_wp2
         repeat (go_quiet (fail); try go_wp2)
         go_roundg k1
         case measure => have := HK1.out; omega
         case rel => exact ⟨(wrap64 (x13_1 + 1)), (by first | rfl | (simp; done) | (simp [*]; done)), H', ⟨by have := HK1.out; omega⟩, by repeat (first | exact Drawn0.refl _ | apply Drawn0.step)⟩
        ·rw [if_neg c8] at H
         have c8b0 : ((rd l0 x13_1) == (rd l1 x13_1)) = false := beq_eq_false_iff_ne.mpr c8
         have c8b1 : ((rd l0 x13_1) != (rd l1 x13_1)) = true := bne_iff_ne.mpr c8
         obtain rfl := Option.some.inj H
         have p400 : 0 ≤ (x13_1 : Int) := of_decide_eq_true (by first | (with_reducible assumption) | assumption)
         have q400 : x13_1 < (l0.length : Int) := of_decide_eq_true (by first | (with_reducible assumption) | assumption)
         obtain ⟨ad400, e400, hx400_0⟩ := Kd.at_int HR0.out x13_1 p400 q400
         cases e400
         replace p400 := eq_true p400
         replace q400 := eq_true q400
         have p401 : 0 ≤ (x13_1 : Int) := of_decide_eq_true (by first | (with_reducible assumption) | assumption)
         have q401 : x13_1 < (l1.length : Int) := of_decide_eq_true (by first | (with_reducible assumption) | assumption)
         obtain ⟨ad401, e401, hx401_0⟩ := Kd.at_int HR1.out x13_1 p401 q401
         cases e401
         replace p401 := eq_true p401
         replace q401 := eq_true q401
         go_wp2
         repeat (go_quiet (fail); try go_wp2)
         go_ret
         exact ⟨by first | rfl | (simp; done) | (simp [*]; done), by repeat (first | exact Drawn0.refl _ | apply Drawn0.step)⟩
       ·rw [if_neg c7] at H
        exact absurd H (by simp)
      ·rw [if_neg c6] at H
       exact absurd H (by simp)
     ·rw [if_neg c5] at H
      exact absurd H (by simp)
    ·rw [if_neg c4] at H
     have c4b0 := decide_eq_false c4
     clear c4
     obtain rfl := Option.some.inj H
     go_wp2
     repeat (go_quiet (fail); try go_wp2)
     go_ret
     exact ⟨by first | rfl | (simp; done) | (simp [*]; done), by repeat (first | exact Drawn0.refl _ | apply Drawn0.step)⟩
 ·rw [if_neg c3] at H
  have c3b0 : ((l0.length : Int) == (l1.length : Int)) = false := beq_eq_false_iff_ne.mpr c3
  have c3b1 : ((l0.length : Int) != (l1.length : Int)) = true := bne_iff_ne.mpr c3
  have c3b2 : (l0.length == l1.length) = false := by first | simpa using c3 | (simp at c3 ⊢; omega)
  obtain rfl := Option.some.inj H
  go_enter Tryz.func15, Tryz.ntmps15
  go_wp2
  repeat (go_quiet (fail); try go_wp2)
  go_ret
  exact ⟨by first | rfl | (simp; done) | (simp [*]; done), by repeat (first | exact Drawn0.refl _ | apply Drawn0.step)⟩

/-! ### laws_wSameWalk: function 32 -/
def laws_wSameWalk.f (k : Nat) (l0_0 : List Int) (l0_1 : List Int) (l1_0 : List Int) (l1_1 : List Int) : Option (Bool) := (laws_wSame.f k l0_0 l1_0).bind fun t404 => (if t404 = true then ((laws_wSame.f k l0_1 l1_1).bind fun t405 => (some t405)) else (some false))
theorem laws_wSameWalk.mono : ∀ a0 a1 a2 a3 k, LeO (laws_wSameWalk.f k a0 a1 a2 a3) (laws_wSameWalk.f (k + 1) a0 a1 a2 a3) := by
 intro a0 a1 a2 a3 k
 unfold laws_wSameWalk.f
 repeat' first | (with_reducible first | exact laws_wSame.mono _ _ _ | exact LeO.refl _ | exact LeO.none _ | refine LeO.ite ?_ ?_ | refine LeO.bind ?_ (fun _ => ?_)) | exact LeO.none _ | refine LeO.ite ?_ ?_ | refine LeO.bind ?_ (fun _ => ?_)
set_option maxHeartbeats 8000000 in
set_option maxRecDepth 100000 in
theorem laws_wSameWalk.calls (k : Nat) (A0_0 : Option Addr) (c0_0 : Nat) (l0_0 : List Int) (A0_1 : Option Addr) (c0_1 : Nat) (l0_1 : List Int) (A1_0 : Option Addr) (c1_0 : Nat) (l1_0 : List Int) (A1_1 : Option Addr) (c1_1 : Nat) (l1_1 : List Int) (r : Bool) (w : World) (hr0_0 : Kd.C (Kd.int .i64) w A0_0 l0_0.length l0_0) (hc0_0 : l0_0.length ≤ c0_0) (hr0_1 : Kd.C (Kd.int .i64) w A0_1 l0_1.length l0_1) (hc0_1 : l0_1.length ≤ c0_1) (hr1_0 : Kd.C (Kd.int .i64) w A1_0 l1_0.length l1_0) (hc1_0 : l1_0.length ≤ c1_0) (hr1_1 : Kd.C (Kd.int .i64) w A1_1 l1_1.length l1_1) (hc1_1 : l1_1.length ≤ c1_1) (h : laws_wSameWalk.f k l0_0 l0_1 l1_0 l1_1 = some r) :
  Calls Tryz.prog 32 #[.agg #[.slice A0_0 l0_0.length c0_0, .slice A0_1 l0_1.length c0_1], .agg #[.slice A1_0 l1_0.length c1_0, .slice A1_1 l1_1.length c1_1]] w fun e w' => e = .returned (.bool r) ∧ Below w.heap.size w w' := by
 have hu24 := Tryz.underlying24
 have HR0_0 := Aside0.mk hr0_0
 have HC0_0 := Aside0.mk hc0_0
 clear hr0_0 hc0_0
 have HR0_1 := Aside0.mk hr0_1
 have HC0_1 := Aside0.mk hc0_1
 clear hr0_1 hc0_1
 have HR1_0 := Aside0.mk hr1_0
 have HC1_0 := Aside0.mk hc1_0
 clear hr1_0 hc1_0
 have HR1_1 := Aside0.mk hr1_1
 have HC1_1 := Aside0.mk hc1_1
 clear hr1_1 hc1_1
 have HB := Aside0.mk (Below.refl w.heap.size w)
 have H : ((laws_wSame.f k l0_0 l1_0).bind fun t404 => (if t404 = true then ((laws_wSame.f k l0_1 l1_1).bind fun t405 => (some t405)) else (some false))) = some r := h
 clear h
 replace H := Option.bind_eq_some_iff.mp H
 obtain ⟨t404, A30, H⟩ := H
 (try dsimp -simprocs only at H)
 have A3 := Aside0.mk A30
 clear A30
 by_cases c4 : t404 = true
 ·subst c4
  rw [if_pos rfl] at H
  replace H := Option.bind_eq_some_iff.mp H
  obtain ⟨t405, A50, H⟩ := H
  (try dsimp -simprocs only at H)
  have A5 := Aside0.mk A50
  clear A50
  obtain rfl := Option.some.inj H
  go_enter Tryz.func32, Tryz.ntmps32
  go_wp2_with (first | ((with_reducible refine gate_dst (N := 2) rfl ?_); refine box_event ?hg (N := 2) ?hd (cs := #[.slice A0_0 l0_0.length c0_0, .slice A0_1 l0_1.length c0_1]) (t := 24) ?hr ?_; (case hd => rfl); (case hg => rfl); (case hr => first | (go_simp; done) | (go_simp; rfl)); intro gb402 hg w6 hbox hb; have n0_ := Aside0.mk (below_step (nbW HB.out) hb); have n1_ := Aside0.mk (hbox); have n2_ := Aside0.mk ((by rw [hg]; exact (below_size (nbW HB.out)) : w.heap.size ≤ gb402)); have n3_ := Aside0.mk ((by rw [hg]; exact (below_size (nbW HB.out)) : w.heap.size ≤ gb402)); clear HB; have HB := n0_; have BK402 := n1_; have GW402 := n2_; have GE402 := n3_; clear n0_ n1_ n2_ n3_; clear hb hbox hg) | ((with_reducible refine gate_dst (N := 3) rfl ?_); refine box_event ?hg (N := 3) ?hd (cs := #[.slice A1_0 l1_0.length c1_0, .slice A1_1 l1_1.length c1_1]) (t := 24) ?hr ?_; (case hd => rfl); (case hg => rfl); (case hr => first | (go_simp; done) | (go_simp; rfl)); intro gb403 hg w7 hbox hb; have n0_ := Aside0.mk (blk_below (kbW BK402.out) hb); have n1_ := Aside0.mk (below_step (by repeat (first | exact nbW HB.out | refine nbW (below_set ?_ GE402.out))) hb); have n2_ := Aside0.mk (hbox); have n3_ := Aside0.mk ((by rw [hg]; exact (below_size (by repeat (first | exact nbW HB.out | refine nbW (below_set ?_ GE402.out)))) : w.heap.size ≤ gb403)); have n4_ := Aside0.mk ((by rw [hg]; exact (below_size (by repeat (first | exact nbW HB.out | refine nbW (below_set ?_ GE402.out)))) : w.heap.size ≤ gb403)); have n5_ := Aside0.mk ((by rw [hg]; exact Nat.ne_of_lt (blk_lt (g := gb402) (o := .cells #[.slice A0_0 l0_0.length c0_0, .slice A0_1 l0_1.length c0_1] 24 (0, 0)) (kbW BK402.out)) : gb402 ≠ gb403)); have n6_ := Aside0.mk ((by rw [hg]; exact Nat.ne_of_gt (blk_lt (g := gb402) (o := .cells #[.slice A0_0 l0_0.length c0_0, .slice A0_1 l0_1.length c0_1] 24 (0, 0)) (kbW BK402.out)) : gb403 ≠ gb402)); clear BK402; clear HB; have BK402 := n0_; have HB := n1_; have BK403 := n2_; have GW403 := n3_; have GE403 := n4_; have NB402_403 := n5_; have NB403_402 := n6_; clear n0_ n1_ n2_ n3_ n4_ n5_ n6_; clear hb hbox hg; have hnb8 := NB402_403.out; have hnc8 := NB403_402.out; have hcz9_0 : w7.cell? ⟨gb402, 0, none⟩ = some (.slice A0_0 l0_0.length c0_0) := (blk_cell BK402.out 0).trans rfl; have hcz9_1 : w7.cell? ⟨gb402, 1, none⟩ = some (.slice A0_1 l0_1.length c0_1) := (blk_cell BK402.out 1).trans rfl; have hfz9_0 := blk_frozen BK402.out 0; have hfz9_1 := blk_frozen BK402.out 1; have hcz10_0 : w7.cell? ⟨gb403, 0, none⟩ = some (.slice A1_0 l1_0.length c1_0) := (blk_cell BK403.out 0).trans rfl; have hcz10_1 : w7.cell? ⟨gb403, 1, none⟩ = some (.slice A1_1 l1_1.length c1_1) := (blk_cell BK403.out 1).trans rfl; have hfz10_0 := blk_frozen BK403.out 0; have hfz10_1 := blk_frozen BK403.out 1) | ((with_reducible refine gate_callee (f := 15) rfl ?_); refine gcW 9 Tryz.func15 #[.slice A0_0 l0_0.length c0_0, .slice A1_0 l1_0.length c1_0] rfl ?_; (with_reducible refine (laws_wSame.calls k _ _ l0_0 _ _ l1_0 true _ ?side1 ?side2 ?side3 ?side4 A3.out).mono ?_); (case side1 => exact cbW (Kd.C_below HR0_0.out HB.out)); (case side2 => exact HC0_0.out); (case side3 => exact cbW (Kd.C_below HR1_0.out HB.out)); (case side4 => exact HC1_0.out); rintro e w' ⟨rfl, ⟨nd, rfl⟩⟩; refine ⟨_, rfl, ?_⟩) | (go_at_call 15; (with_reducible refine (laws_wSame.calls k _ _ l0_1 _ _ l1_1 t405 _ ?side1 ?side2 ?side3 ?side4 A5.out).mono ?_); (case side1 => repeat (first | exact (Kd.C_below HR0_1.out (by repeat (first | exact nbW HB.out | refine nbW (below_set ?_ GE402.out) | refine nbW (below_set ?_ GE403.out)))) | (with_reducible refine Kd.C_alloc ?_ _) | (with_reducible refine Kd.C_drewN ?_ _) | (with_reducible refine Kd.C_drew ?_))); (case side2 => exact HC0_1.out); (case side3 => repeat (first | exact (Kd.C_below HR1_1.out (by repeat (first | exact nbW HB.out | refine nbW (below_set ?_ GE402.out) | refine nbW (below_set ?_ GE403.out)))) | (with_reducible refine Kd.C_alloc ?_ _) | (with_reducible refine Kd.C_drewN ?_ _) | (with_reducible refine Kd.C_drew ?_))); (case side4 => exact HC1_1.out); rintro e w' ⟨rfl, ⟨nd, rfl⟩⟩))
  go_ret
  exact ⟨by first | rfl | (simp [errW_none, errW_some] <;> rfl) | (simp [*, errW_none, errW_some] <;> rfl), by repeat (first | exact nbW HB.out | refine nbW (below_set ?_ GE402.out) | refine nbW (below_set ?_ GE403.out))⟩
 ·replace c4 := Bool.eq_false_iff.mpr c4
  subst c4
  rw [if_neg (show ¬ (false = true) by decide)] at H
  obtain rfl := Option.some.inj H
  go_enter Tryz.func32, Tryz.ntmps32
  go_wp2_with (first | ((with_reducible refine gate_dst (N := 2) rfl ?_); refine box_event ?hg (N := 2) ?hd (cs := #[.slice A0_0 l0_0.length c0_0, .slice A0_1 l0_1.length c0_1]) (t := 24) ?hr ?_; (case hd => rfl); (case hg => rfl); (case hr => first | (go_simp; done) | (go_simp; rfl)); intro gb402 hg w11 hbox hb; have n0_ := Aside0.mk (below_step (nbW HB.out) hb); have n1_ := Aside0.mk (hbox); have n2_ := Aside0.mk ((by rw [hg]; exact (below_size (nbW HB.out)) : w.heap.size ≤ gb402)); have n3_ := Aside0.mk ((by rw [hg]; exact (below_size (nbW HB.out)) : w.heap.size ≤ gb402)); clear HB; have HB := n0_; have BK402 := n1_; have GW402 := n2_; have GE402 := n3_; clear n0_ n1_ n2_ n3_; clear hb hbox hg) | ((with_reducible refine gate_dst (N := 3) rfl ?_); refine box_event ?hg (N := 3) ?hd (cs := #[.slice A1_0 l1_0.length c1_0, .slice A1_1 l1_1.length c1_1]) (t := 24) ?hr ?_; (case hd => rfl); (case hg => rfl); (case hr => first | (go_simp; done) | (go_simp; rfl)); intro gb403 hg w12 hbox hb; have n0_ := Aside0.mk (blk_below (kbW BK402.out) hb); have n1_ := Aside0.mk (below_step (by repeat (first | exact nbW HB.out | refine nbW (below_set ?_ GE402.out))) hb); have n2_ := Aside0.mk (hbox); have n3_ := Aside0.mk ((by rw [hg]; exact (below_size (by repeat (first | exact nbW HB.out | refine nbW (below_set ?_ GE402.out)))) : w.heap.size ≤ gb403)); have n4_ := Aside0.mk ((by rw [hg]; exact (below_size (by repeat (first | exact nbW HB.out | refine nbW (below_set ?_ GE402.out)))) : w.heap.size ≤ gb403)); have n5_ := Aside0.mk ((by rw [hg]; exact Nat.ne_of_lt (blk_lt (g := gb402) (o := .cells #[.slice A0_0 l0_0.length c0_0, .slice A0_1 l0_1.length c0_1] 24 (0, 0)) (kbW BK402.out)) : gb402 ≠ gb403)); have n6_ := Aside0.mk ((by rw [hg]; exact Nat.ne_of_gt (blk_lt (g := gb402) (o := .cells #[.slice A0_0 l0_0.length c0_0, .slice A0_1 l0_1.length c0_1] 24 (0, 0)) (kbW BK402.out)) : gb403 ≠ gb402)); clear BK402; clear HB; have BK402 := n0_; have HB := n1_; have BK403 := n2_; have GW403 := n3_; have GE403 := n4_; have NB402_403 := n5_; have NB403_402 := n6_; clear n0_ n1_ n2_ n3_ n4_ n5_ n6_; clear hb hbox hg; have hnb13 := NB402_403.out; have hnc13 := NB403_402.out; have hcz14_0 : w12.cell? ⟨gb402, 0, none⟩ = some (.slice A0_0 l0_0.length c0_0) := (blk_cell BK402.out 0).trans rfl; have hcz14_1 : w12.cell? ⟨gb402, 1, none⟩ = some (.slice A0_1 l0_1.length c0_1) := (blk_cell BK402.out 1).trans rfl; have hfz14_0 := blk_frozen BK402.out 0; have hfz14_1 := blk_frozen BK402.out 1; have hcz15_0 : w12.cell? ⟨gb403, 0, none⟩ = some (.slice A1_0 l1_0.length c1_0) := (blk_cell BK403.out 0).trans rfl; have hcz15_1 : w12.cell? ⟨gb403, 1, none⟩ = some (.slice A1_1 l1_1.length c1_1) := (blk_cell BK403.out 1).trans rfl; have hfz15_0 := blk_frozen BK403.out 0; have hfz15_1 := blk_frozen BK403.out 1) | ((with_reducible refine gate_callee (f := 15) rfl ?_); refine gcW 9 Tryz.func15 #[.slice A0_0 l0_0.length c0_0, .slice A1_0 l1_0.length c1_0] rfl ?_; (with_reducible refine (laws_wSame.calls k _ _ l0_0 _ _ l1_0 false _ ?side1 ?side2 ?side3 ?side4 A3.out).mono ?_); (case side1 => exact cbW (Kd.C_below HR0_0.out HB.out)); (case side2 => exact HC0_0.out); (case side3 => exact cbW (Kd.C_below HR1_0.out HB.out)); (case side4 => exact HC1_0.out); rintro e w' ⟨rfl, ⟨nd, rfl⟩⟩; refine ⟨_, rfl, ?_⟩))
  go_ret
  exact ⟨by first | rfl | (simp [errW_none, errW_some] <;> rfl) | (simp [*, errW_none, errW_some] <;> rfl), by repeat (first | exact nbW HB.out | refine nbW (below_set ?_ GE402.out) | refine nbW (below_set ?_ GE403.out))⟩

/-! ### spec_l1Cur_of: function 64 -/
def spec_l1Cur_of.f (s0_0 : List Int) (s0_1 : Int) (s0_2 : Int) (l1 : List ByteArray) : Option (ByteArray × Int × Int) := (spec_l1Cur_pick.f s0_0 s0_1 s0_2 (l1.length : Int)).bind fun bt406 => (if 0 ≤ bt406.1 then (if bt406.1 < (l1.length : Int) then (some (rdOf ByteArray.empty l1 bt406.1, bt406.2.1, bt406.2.2)) else (none)) else (none))
set_option maxHeartbeats 8000000 in
set_option maxRecDepth 100000 in
theorem spec_l1Cur_of.calls (g : Nat) (s0_0 : List Int) (s0_1 : Int) (s0_2 : Int) (A1 : Option Addr) (c1 : Nat) (l1 : List ByteArray) (r1 : ByteArray) (r2 : Int) (r3 : Int) (w0 w : World) (hI : IsS64 w0 w g s0_0 s0_1 s0_2) (hB : Below w0.heap.size w0 w) (hr1 : Kd.C Kd.string w A1 l1.length l1) (hc1 : l1.length ≤ c1) (hf1 : ∀ ad, A1 = some ad → 0 < l1.length → ad.block ≠ g) (h : spec_l1Cur_of.f s0_0 s0_1 s0_2 l1 = some (r1, r2, r3)) :
  Calls Tryz.prog 64 #[.pointer (some ⟨g, 0, none⟩), .slice A1 l1.length c1] w fun e w' => e = .returned (.string r1) ∧ IsS64 w0 w' g s0_0 r2 r3 ∧ Below w0.heap.size w0 w' ∧ KeepBut w w' g none := by
 have HR1 := Aside0.mk hr1
 have HC1 := Aside0.mk hc1
 clear hr1 hc1
 have HI0 := Aside0.mk hI
 have HK := Aside0.mk (KeepBut.refl w g none)
 have HL := Aside0.mk hB.size
 clear hI
 have HW0 := Aside0.mk hB.size
 have HB := Aside0.mk hB
 clear hB
 have H : ((spec_l1Cur_pick.f s0_0 s0_1 s0_2 (l1.length : Int)).bind fun bt406 => (if 0 ≤ bt406.1 then (if bt406.1 < (l1.length : Int) then (some (rdOf ByteArray.empty l1 bt406.1, bt406.2.1, bt406.2.2)) else (none)) else (none))) = some (r1, r2, r3) := h
 clear h
 replace H := Option.bind_eq_some_iff.mp H
 obtain ⟨⟨t406, t407, t408⟩, A30, H⟩ := H
 (try dsimp -simprocs only at H)
 have A3 := Aside0.mk A30
 clear A30
 by_cases c4 : 0 ≤ t406
 ·rw [if_pos c4] at H
  have c4b0 := decide_eq_true c4
  clear c4
  by_cases c5 : t406 < (l1.length : Int)
  ·rw [if_pos c5] at H
   have c5b0 := decide_eq_true c5
   clear c5
   simp only [Option.some.injEq, Prod.mk.injEq] at H
   obtain ⟨rfl, rfl, rfl⟩ := H
   go_enter Tryz.func64, Tryz.ntmps64
   go_wp2_with (first | ((with_reducible refine gate_callee (f := 51) rfl ?_); refine gcW 9 Tryz.func51 #[.pointer (some ⟨g, 0, none⟩), .int .i64 (l1.length : Int)] rfl ?_; (with_reducible refine (spec_l1Cur_pick.calls g s0_0 s0_1 s0_2 (l1.length : Int) t406 t407 t408 w0 _ ?side1 ?side2 A3.out).mono ?_); (case side1 => repeat (first | exact isW64 HI0.out | refine isW64 (IsS64.set_1 ?_ _) | refine isW64 (IsS64.set_2 ?_ _))); (case side2 => repeat (first | exact nbW HB.out | refine nbW (below_set ?_ (IsS64.ge HI0.out)))); rintro e w6 ⟨rfl, hi, hb, hk⟩; refine ⟨_, rfl, ?_⟩; have n0_ := Aside0.mk (KeepBut.trans (by repeat (first | exact kpW HK.out | refine kpW (KeepBut.set_ ?_ _ _))) hk (.inl rfl)); have n1_ := Aside0.mk (hb); have n2_ := Aside0.mk (hi); clear HK; clear HB; clear HI0; have HK := n0_; have HB := n1_; have HI0 := n2_; clear n0_ n1_ n2_; (try clear hb); (try clear hb2); (try clear hk); (try clear hi); have p409 : 0 ≤ (t406 : Int) := of_decide_eq_true (by first | (with_reducible assumption) | assumption); have q409 : t406 < (l1.length : Int) := of_decide_eq_true (by first | (with_reducible assumption) | assumption); obtain ⟨ad409, e409, hx409_0⟩ := Kd.at_string HR1.out t406 p409 q409; cases e409; replace hx409_0 := keep_cell HK.out hx409_0 (by first | (rw [add_block]; exact hf1 _ rfl (by omega)) | exact hf1 _ rfl (by omega) | exact hf1 ad409 rfl (by omega)); replace p409 := eq_true p409; replace q409 := eq_true q409))
   go_ret
   exact ⟨by first | rfl | (simp [errW_none, errW_some] <;> rfl) | (simp [*, errW_none, errW_some] <;> rfl), by repeat (first | exact isW64 HI0.out | refine isW64 (IsS64.set_1 ?_ _) | refine isW64 (IsS64.set_2 ?_ _)), by repeat (first | exact nbW HB.out | refine nbW (below_set ?_ (IsS64.ge HI0.out))), by repeat (first | exact kpW HK.out | refine kpW (KeepBut.set_ ?_ _ _))⟩
  ·rw [if_neg c5] at H
   exact absurd H (by simp)
 ·rw [if_neg c4] at H
  exact absurd H (by simp)

/-! ### spec_l1Cur_spoilt: function 66 -/
mutual
def spec_l1Cur_spoilt.l0 : Nat → ByteArray → ByteArray → Int → List Int → Int → Int → Option (ByteArray × Int × Int)
 | 0, _, _, _, _, _, _ => none
 | k + 1, x1, x2, x7, x1000, x1001, x1002 => if x7 > 0 then (spec_l1Cur_spoilt.j1 k x1 x2 x7 (decide ((x1.size : Int) > 0)) x1000 x1001 x1002) else (spec_l1Cur_spoilt.j1 k x1 x2 x7 false x1000 x1001 x1002)
def spec_l1Cur_spoilt.j1 : Nat → ByteArray → ByteArray → Int → Bool → List Int → Int → Int → Option (ByteArray × Int × Int)
 | 0, _, _, _, _, _, _, _ => none
 | k + 1, x1, x2, x7, x19, x1000, x1001, x1002 => if x19 = true then ((spec_l1Cur_pick.f x1000 x1001 x1002 (x1.size : Int)).bind fun bt413 => ((spec_l1Cur_pick.f x1000 bt413.2.1 bt413.2.2 (x2.size : Int)).bind fun bt416 => (if 0 ≤ bt416.1 then (if bt416.1 < (x2.size : Int) then ((some (([bt x2 bt416.1] : List Int) : List Int)).bind fun y419 => ((spec_l1Cur_pick.f x1000 bt416.2.1 bt416.2.2 3).bind fun bt422 => (if bt422.1 = 0 then (if 0 ≤ bt413.1 then (if bt413.1 ≤ (x1.size : Int) then (if (x1.extract 0 (bt413.1 : Int).toNat).size + (strOfNums y419).size ≤ 9223372036854775807 then (if ((x1.extract 0 (bt413.1 : Int).toNat) ++ (strOfNums y419)).size + (x1.extract (bt413.1 : Int).toNat x1.size).size ≤ 9223372036854775807 then (spec_l1Cur_spoilt.l0 k (((x1.extract 0 (bt413.1 : Int).toNat) ++ (strOfNums y419)) ++ (x1.extract (bt413.1 : Int).toNat x1.size)) x2 (wrap64 (x7 - 1)) x1000 bt422.2.1 bt422.2.2) else (none)) else (none)) else (none)) else (none)) else (if bt422.1 = 1 then (if 0 ≤ bt413.1 then (if bt413.1 ≤ (x1.size : Int) then (if (x1.extract 0 (bt413.1 : Int).toNat).size + (strOfNums y419).size ≤ 9223372036854775807 then (if 0 ≤ (wrap64 (bt413.1 + 1)) then (if (wrap64 (bt413.1 + 1)) ≤ (x1.size : Int) then (if ((x1.extract 0 (bt413.1 : Int).toNat) ++ (strOfNums y419)).size + (x1.extract ((wrap64 (bt413.1 + 1)) : Int).toNat x1.size).size ≤ 9223372036854775807 then (spec_l1Cur_spoilt.l0 k (((x1.extract 0 (bt413.1 : Int).toNat) ++ (strOfNums y419)) ++ (x1.extract ((wrap64 (bt413.1 + 1)) : Int).toNat x1.size)) x2 (wrap64 (x7 - 1)) x1000 bt422.2.1 bt422.2.2) else (none)) else (none)) else (none)) else (none)) else (none)) else (none)) else (if 0 ≤ bt413.1 then (if bt413.1 ≤ (x1.size : Int) then (if 0 ≤ (wrap64 (bt413.1 + 1)) then (if (wrap64 (bt413.1 + 1)) ≤ (x1.size : Int) then (if (x1.extract 0 (bt413.1 : Int).toNat).size + (x1.extract ((wrap64 (bt413.1 + 1)) : Int).toNat x1.size).size ≤ 9223372036854775807 then (spec_l1Cur_spoilt.l0 k ((x1.extract 0 (bt413.1 : Int).toNat) ++ (x1.extract ((wrap64 (bt413.1 + 1)) : Int).toNat x1.size)) x2 (wrap64 (x7 - 1)) x1000 bt422.2.1 bt422.2.2) else (none)) else (none)) else (none)) else (none)) else (none)))))) else (none)) else (none)))) else (some (x1, x1001, x1002))
end
def spec_l1Cur_spoilt.f (k : Nat) (s0_0 : List Int) (s0_1 : Int) (s0_2 : Int) (a1 : ByteArray) (a2 : ByteArray) : Option (ByteArray × Int × Int) := (spec_l1Cur_pick.f s0_0 s0_1 s0_2 2).bind fun bt410 => (spec_l1Cur_spoilt.l0 k a1 a2 (wrap64 (1 + bt410.1)) s0_0 bt410.2.1 bt410.2.2)
theorem spec_l1Cur_spoilt.mono_l : ∀ k, (∀ y0 y1 y2 y3 y4 y5, LeO (spec_l1Cur_spoilt.l0 k y0 y1 y2 y3 y4 y5) (spec_l1Cur_spoilt.l0 (k + 1) y0 y1 y2 y3 y4 y5)) ∧ (∀ y0 y1 y2 y3 y4 y5 y6, LeO (spec_l1Cur_spoilt.j1 k y0 y1 y2 y3 y4 y5 y6) (spec_l1Cur_spoilt.j1 (k + 1) y0 y1 y2 y3 y4 y5 y6))
 | 0 => ⟨fun _ _ _ _ _ _ r h => by simp [spec_l1Cur_spoilt.l0] at h, fun _ _ _ _ _ _ _ r h => by simp [spec_l1Cur_spoilt.j1] at h⟩
 | k + 1 => by
  obtain ⟨ih0, ih1⟩ := spec_l1Cur_spoilt.mono_l k
  refine ⟨?_, ?_⟩
  all_goals intros
  all_goals (first | unfold spec_l1Cur_spoilt.l0 | unfold spec_l1Cur_spoilt.j1)
  all_goals (repeat' first | (with_reducible first | exact ih0 _ _ _ _ _ _ | exact ih1 _ _ _ _ _ _ _ | exact LeO.refl _ | exact LeO.none _ | refine LeO.ite ?_ ?_ | refine LeO.bind ?_ (fun _ => ?_)) | exact LeO.none _ | refine LeO.ite ?_ ?_ | refine LeO.bind ?_ (fun _ => ?_))
theorem spec_l1Cur_spoilt.mono : ∀ a0 a1 a2 a3 a4 k, LeO (spec_l1Cur_spoilt.f k a0 a1 a2 a3 a4) (spec_l1Cur_spoilt.f (k + 1) a0 a1 a2 a3 a4) := by
 intro a0 a1 a2 a3 a4 k
 obtain ⟨ih0, ih1⟩ := spec_l1Cur_spoilt.mono_l k
 unfold spec_l1Cur_spoilt.f
 repeat' first | (with_reducible first | exact ih0 _ _ _ _ _ _ | exact ih1 _ _ _ _ _ _ _ | exact LeO.refl _ | exact LeO.none _ | refine LeO.ite ?_ ?_ | refine LeO.bind ?_ (fun _ => ?_)) | exact LeO.none _ | refine LeO.ite ?_ ?_ | refine LeO.bind ?_ (fun _ => ?_)
set_option maxHeartbeats 8000000 in
set_option maxRecDepth 100000 in
theorem spec_l1Cur_spoilt.calls (k : Nat) (g : Nat) (s0_0 : List Int) (s0_1 : Int) (s0_2 : Int) (a1 : ByteArray) (a2 : ByteArray) (r1 : ByteArray) (r2 : Int) (r3 : Int) (w0 w : World) (hI : IsS64 w0 w g s0_0 s0_1 s0_2) (hB : Below w0.heap.size w0 w) (h : spec_l1Cur_spoilt.f k s0_0 s0_1 s0_2 a1 a2 = some (r1, r2, r3)) :
  Calls Tryz.prog 66 #[.pointer (some ⟨g, 0, none⟩), .string a1, .string a2] w fun e w' => e = .returned (.string r1) ∧ IsS64 w0 w' g s0_0 r2 r3 ∧ Below w0.heap.size w0 w' ∧ KeepBut w w' g none := by
 have HI0 := Aside0.mk hI
 have HK := Aside0.mk (KeepBut.refl w g none)
 have HL := Aside0.mk hB.size
 clear hI
 have HW0 := Aside0.mk hB.size
 have HB := Aside0.mk hB
 clear hB
 have H : ((spec_l1Cur_pick.f s0_0 s0_1 s0_2 2).bind fun bt410 => (spec_l1Cur_spoilt.l0 k a1 a2 (wrap64 (1 + bt410.1)) s0_0 bt410.2.1 bt410.2.2)) = some (r1, r2, r3) := h
 clear h
 replace H := Option.bind_eq_some_iff.mp H
 obtain ⟨⟨t410, t411, t412⟩, A40, H⟩ := H
 (try dsimp -simprocs only at H)
 have A4 := Aside0.mk A40
 clear A40
 have H' := Aside0.mk H
 clear H
 go_enter Tryz.func66, Tryz.ntmps66
 go_wp2_with (first | (go_at_call 51; (with_reducible refine (spec_l1Cur_pick.calls g s0_0 s0_1 s0_2 2 t410 t411 t412 w0 _ ?side1 ?side2 A4.out).mono ?_); (case side1 => repeat (first | exact isW64 HI0.out | refine isW64 (IsS64.set_1 ?_ _) | refine isW64 (IsS64.set_2 ?_ _))); (case side2 => repeat (first | exact nbW HB.out | refine nbW (below_set ?_ (IsS64.ge HI0.out)))); rintro e w5 ⟨rfl, hi, hb, hk⟩; have n0_ := Aside0.mk (KeepBut.trans (by repeat (first | exact kpW HK.out | refine kpW (KeepBut.set_ ?_ _ _))) hk (.inl rfl)); have n1_ := Aside0.mk (hb); have n2_ := Aside0.mk (hi); clear HK; clear HB; clear HI0; have HK := n0_; have HB := n1_; have HI0 := n2_; clear n0_ n1_ n2_; (try clear hb); (try clear hb2); (try clear hk); (try clear hi)))
 repeat (go_quiet (first | fail); try go_wp2_with (first | fail))
 go_loopg [1, 7] k (fun kq v1 v7 w' => ∃ (x1_1 : ByteArray) (x7_1 : Int) (x1001_1 : Int) (x1002_1 : Int), v1 = .string x1_1 ∧ v7 = .int .i64 x7_1 ∧ Aside0 (spec_l1Cur_spoilt.l0 kq x1_1 a2 x7_1 s0_0 x1001_1 x1002_1 = some (r1, r2, r3)) ∧ Aside0 (kq ≤ k) ∧ Aside0 (IsS64 w0 w' g s0_0 x1001_1 x1002_1) ∧ Aside0 (KeepBut w w' g none) ∧ Aside0 (Below w0.heap.size w0 w'))
 case atStart => exact ⟨(a1), (wrap64 (1 + t410)), (t411), (t412), (by first | rfl | (simp; done) | (simp [*]; done)), (by first | rfl | (simp; done) | (simp [*]; done)), H', ⟨Nat.le_refl _⟩, ⟨by repeat (first | exact isW64 HI0.out | refine isW64 (IsS64.set_1 ?_ _) | refine isW64 (IsS64.set_2 ?_ _))⟩, ⟨by repeat (first | exact kpW HK.out | refine kpW (KeepBut.set_ ?_ _ _))⟩, ⟨by repeat (first | exact nbW HB.out | refine nbW (below_set ?_ (IsS64.ge HI0.out)))⟩⟩
 case round =>
  clear H'
  try clear p2
  obtain ⟨x1_1, x7_1, x1001_1, x1002_1, rfl, rfl, HA, HK1, HI0, HK, HB⟩ := hrel
  cases gk with
  | zero => exact absurd HA.out (by simp [spec_l1Cur_spoilt.l0])
  | succ k1 =>
   have H := HA.out
   clear HA
   simp only [spec_l1Cur_spoilt.l0] at H
   have HC6 := Aside0.mk H
   clear H
   go_upto_region 2 with (fail)
   repeat (go_quiet (fail); go_upto_region 2 with (fail))
   go_cut [19] (fun v19 wc => ∃ (kq : Nat) (x19_5 : Bool), v19 = .bool x19_5 ∧ Aside0 (spec_l1Cur_spoilt.j1 kq x1_1 a2 x7_1 x19_5 s0_0 x1001_1 x1002_1 = some (r1, r2, r3)) ∧ Aside0 (kq ≤ k1) ∧ Aside0 (IsS64 w0 wc g s0_0 x1001_1 x1002_1) ∧ Aside0 (KeepBut w wc g none) ∧ Aside0 (Below w0.heap.size w0 wc))
   case first =>
    have H := HC6.out
    clear HC6
    by_cases c7 : x7_1 > 0
    ·rw [if_pos c7] at H
     have c7b0 := decide_eq_true c7
     clear c7
     (first | rw [c7b0] | (simp only [i64_w, i32_w]; rw [c7b0]) | rw [c7b1] | skip)
     have H' := Aside0.mk H
     clear H
     go_wp2
     repeat (go_quiet (fail); try go_wp2)
     go_meet
     case rel => exact ⟨_, (decide ((x1_1.size : Int) > 0)), (by first | rfl | (simp; done) | (simp [*]; done)), H', ⟨by have := HK1.out; first | omega | exact Nat.le_refl _⟩, ⟨by repeat (first | exact isW64 HI0.out | refine isW64 (IsS64.set_1 ?_ _) | refine isW64 (IsS64.set_2 ?_ _))⟩, ⟨by repeat (first | exact kpW HK.out | refine kpW (KeepBut.set_ ?_ _ _))⟩, ⟨by repeat (first | exact nbW HB.out | refine nbW (below_set ?_ (IsS64.ge HI0.out)))⟩⟩
    ·rw [if_neg c7] at H
     have c7b0 := decide_eq_false c7
     clear c7
     (first | rw [c7b0] | (simp only [i64_w, i32_w]; rw [c7b0]) | rw [c7b1] | skip)
     have H' := Aside0.mk H
     clear H
     go_wp2
     repeat (go_quiet (fail); try go_wp2)
     go_meet
     case rel => exact ⟨_, (false), (by first | rfl | (simp; done) | (simp [*]; done)), H', ⟨by have := HK1.out; first | omega | exact Nat.le_refl _⟩, ⟨by repeat (first | exact isW64 HI0.out | refine isW64 (IsS64.set_1 ?_ _) | refine isW64 (IsS64.set_2 ?_ _))⟩, ⟨by repeat (first | exact kpW HK.out | refine kpW (KeepBut.set_ ?_ _ _))⟩, ⟨by repeat (first | exact nbW HB.out | refine nbW (below_set ?_ (IsS64.ge HI0.out)))⟩⟩
   case rest =>
    clear HC6
    try clear p2
    try clear c6
    try clear p6
    try clear c7
    try clear c7b0
    try clear c7b1
    try clear p2
    obtain ⟨kq, x19_5, rfl, HA, HJ5, HI0, HK, HB⟩ := hcut
    cases kq with
    | zero => exact absurd HA.out (by simp [spec_l1Cur_spoilt.j1])
    | succ kj5 =>
     have H := HA.out
     clear HA
     simp only [spec_l1Cur_spoilt.j1] at H
     by_cases c8 : x19_5 = true
     ·subst c8
      rw [if_pos rfl] at H
      replace H := Option.bind_eq_some_iff.mp H
      obtain ⟨⟨t413, t414, t415⟩, A90, H⟩ := H
      (try dsimp -simprocs only at H)
      have A9 := Aside0.mk A90
      clear A90
      replace H := Option.bind_eq_some_iff.mp H
      obtain ⟨⟨t416, t417, t418⟩, A100, H⟩ := H
      (try dsimp -simprocs only at H)
      have A10 := Aside0.mk A100
      clear A100
      by_cases c11 : 0 ≤ t416
      ·rw [if_pos c11] at H
       have c11b0 := decide_eq_true c11
       clear c11
       by_cases c12 : t416 < (a2.size : Int)
       ·rw [if_pos c12] at H
        have c12b0 := decide_eq_true c12
        clear c12
        obtain ⟨y419, hy419⟩ : ∃ y_ : List Int, y_ = (([bt a2 t416] : List Int)) := ⟨_, rfl⟩
        replace H : ((spec_l1Cur_pick.f s0_0 t417 t418 3).bind fun bt422 => (if bt422.1 = 0 then (if 0 ≤ t413 then (if t413 ≤ (x1_1.size : Int) then (if (x1_1.extract 0 (t413 : Int).toNat).size + (strOfNums y419).size ≤ 9223372036854775807 then (if ((x1_1.extract 0 (t413 : Int).toNat) ++ (strOfNums y419)).size + (x1_1.extract (t413 : Int).toNat x1_1.size).size ≤ 9223372036854775807 then (spec_l1Cur_spoilt.l0 kj5 (((x1_1.extract 0 (t413 : Int).toNat) ++ (strOfNums y419)) ++ (x1_1.extract (t413 : Int).toNat x1_1.size)) a2 (wrap64 (x7_1 - 1)) s0_0 bt422.2.1 bt422.2.2) else (none)) else (none)) else (none)) else (none)) else (if bt422.1 = 1 then (if 0 ≤ t413 then (if t413 ≤ (x1_1.size : Int) then (if (x1_1.extract 0 (t413 : Int).toNat).size + (strOfNums y419).size ≤ 9223372036854775807 then (if 0 ≤ (wrap64 (t413 + 1)) then (if (wrap64 (t413 + 1)) ≤ (x1_1.size : Int) then (if ((x1_1.extract 0 (t413 : Int).toNat) ++ (strOfNums y419)).size + (x1_1.extract ((wrap64 (t413 + 1)) : Int).toNat x1_1.size).size ≤ 9223372036854775807 then (spec_l1Cur_spoilt.l0 kj5 (((x1_1.extract 0 (t413 : Int).toNat) ++ (strOfNums y419)) ++ (x1_1.extract ((wrap64 (t413 + 1)) : Int).toNat x1_1.size)) a2 (wrap64 (x7_1 - 1)) s0_0 bt422.2.1 bt422.2.2) else (none)) else (none)) else (none)) else (none)) else (none)) else (none)) else (if 0 ≤ t413 then (if t413 ≤ (x1_1.size : Int) then (if 0 ≤ (wrap64 (t413 + 1)) then (if (wrap64 (t413 + 1)) ≤ (x1_1.size : Int) then (if (x1_1.extract 0 (t413 : Int).toNat).size + (x1_1.extract ((wrap64 (t413 + 1)) : Int).toNat x1_1.size).size ≤ 9223372036854775807 then (spec_l1Cur_spoilt.l0 kj5 ((x1_1.extract 0 (t413 : Int).toNat) ++ (x1_1.extract ((wrap64 (t413 + 1)) : Int).toNat x1_1.size)) a2 (wrap64 (x7_1 - 1)) s0_0 bt422.2.1 bt422.2.2) else (none)) else (none)) else (none)) else (none)) else (none))))) = some (r1, r2, r3) := by first | (rw [hy419]; with_reducible exact H) | (have H2_ := (Option.bind_some _ _).symm.trans H; rw [hy419]; with_reducible exact H2_) | (have H2_ := (Option.bind_some _ _).symm.trans H; with_reducible exact H2_) | with_reducible exact H | (rw [hy419]; exact H) | exact H
        have Ny419 := Aside0.mk hy419
        clear hy419
        replace H := Option.bind_eq_some_iff.mp H
        obtain ⟨⟨t422, t423, t424⟩, A140, H⟩ := H
        (try dsimp -simprocs only at H)
        have A14 := Aside0.mk A140
        clear A140
        by_cases c15 : t422 = 0
        ·rw [if_pos c15] at H
         have c15b0 : (t422 == 0) = true := beq_iff_eq.mpr c15
         have c15b1 : (t422 != 0) = false := bne_eq_false_iff_eq.mpr c15
         clear c15
         by_cases c16 : 0 ≤ t413
         ·rw [if_pos c16] at H
          have c16b0 := eq_true c16
          have c16b1 := decide_eq_true c16
          clear c16
          by_cases c17 : t413 ≤ (x1_1.size : Int)
          ·rw [if_pos c17] at H
           have c17b0 := eq_true c17
           have c17b1 := decide_eq_true c17
           clear c17
           by_cases c18 : (x1_1.extract 0 (t413 : Int).toNat).size + (strOfNums y419).size ≤ 9223372036854775807
           ·rw [if_pos c18] at H
            have c18b0 := eq_true c18
            have c18b1 := decide_eq_true c18
            try have c18b2 : (9223372036854775807 < (x1_1.extract 0 (t413 : Int).toNat).size + (strOfNums y419).size) = False := eq_false (Nat.not_lt.2 c18)
            have c19b0 := eq_true (of_decide_eq_true (by first | (with_reducible assumption) | assumption) : 0 ≤ t413)
            have c20b0 := eq_true (of_decide_eq_true (by first | (with_reducible assumption) | assumption) : t413 ≤ (x1_1.size : Int))
            by_cases c21 : ((x1_1.extract 0 (t413 : Int).toNat) ++ (strOfNums y419)).size + (x1_1.extract (t413 : Int).toNat x1_1.size).size ≤ 9223372036854775807
            ·rw [if_pos c21] at H
             have c21b0 := eq_true c21
             have c21b1 := decide_eq_true c21
             try have c21b2 : (9223372036854775807 < ((x1_1.extract 0 (t413 : Int).toNat) ++ (strOfNums y419)).size + (x1_1.extract (t413 : Int).toNat x1_1.size).size) = False := eq_false (Nat.not_lt.2 c21)
             have H' := Aside0.mk H
             clear H
             go_wp2_with (first | (go_at_call 51; (with_reducible refine (spec_l1Cur_pick.calls g s0_0 x1001_1 x1002_1 (x1_1.size : Int) t413 t414 t415 w0 _ ?side1 ?side2 A9.out).mono ?_); (case side1 => repeat (first | exact isW64 HI0.out | refine isW64 (IsS64.set_1 ?_ _) | refine isW64 (IsS64.set_2 ?_ _))); (case side2 => repeat (first | exact nbW HB.out | refine nbW (below_set ?_ (IsS64.ge HI0.out)))); rintro e w22 ⟨rfl, hi, hb, hk⟩; have n0_ := Aside0.mk (KeepBut.trans (by repeat (first | exact kpW HK.out | refine kpW (KeepBut.set_ ?_ _ _))) hk (.inl rfl)); have n1_ := Aside0.mk (hb); have n2_ := Aside0.mk (hi); clear HK; clear HB; clear HI0; have HK := n0_; have HB := n1_; have HI0 := n2_; clear n0_ n1_ n2_; (try clear hb); (try clear hb2); (try clear hk); (try clear hi)) | (go_at_call 51; (with_reducible refine (spec_l1Cur_pick.calls g s0_0 t414 t415 (a2.size : Int) t416 t417 t418 w0 _ ?side1 ?side2 A10.out).mono ?_); (case side1 => repeat (first | exact isW64 HI0.out | refine isW64 (IsS64.set_1 ?_ _) | refine isW64 (IsS64.set_2 ?_ _))); (case side2 => repeat (first | exact nbW HB.out | refine nbW (below_set ?_ (IsS64.ge HI0.out)))); rintro e w23 ⟨rfl, hi, hb, hk⟩; have n0_ := Aside0.mk (KeepBut.trans (by repeat (first | exact kpW HK.out | refine kpW (KeepBut.set_ ?_ _ _))) hk (.inl rfl)); have n1_ := Aside0.mk (hb); have n2_ := Aside0.mk (hi); clear HK; clear HB; clear HI0; have HK := n0_; have HB := n1_; have HI0 := n2_; clear n0_ n1_ n2_; (try clear hb); (try clear hb2); (try clear hk); (try clear hi); have p13 : 0 ≤ (t416 : Int) := of_decide_eq_true (by first | (with_reducible assumption) | assumption); have q13 : t416 < (a2.size : Int) := of_decide_eq_true (by first | (with_reducible assumption) | assumption); have hx13 := bt_at a2 t416; replace p13 := eq_true p13; replace q13 := eq_true q13) | ((with_reducible refine gate_dst (N := 32) rfl ?_); (try (refine gate_guard (by rfl) ?_; dsimp only)); refine Kd.R_lit (Kd.int .u8) _ 5 ?hg (N := 32) ?hd (xs := ([bt a2 t416] : List Int)) (inner := [.int .u8 (bt a2 t416)]) (ok := fun _ => True) (okp := fun _ => True) ?hr ?hp (fun _ hk => hk) trivial (Below.refl _ _) (Nat.le_refl _) (by simp) ?_; (case hd => rfl); (case hg => rfl); (case hr => first | (go_simp; done) | (go_simp; rfl)); (case hp => exact (Reps.one (show Kd.M (Kd.int .u8) _ _ _ (bt a2 t416) [.int .u8 (bt a2 t416)] from rfl) (Reps.none _ _))); intro v420 w24 ho25 hb hg_ hnew_; clear hg_ hnew_; (first | rw [← Ny419.out] at ho25 | (simp only [Int.reduceToNat] at ho25; rw [← Ny419.out] at ho25)); have n0_ := Aside0.mk (Kd.R_lower ho25 (keep_size (w := w) (g := g) (row := none) (by repeat (first | exact kpW HK.out | refine kpW (KeepBut.set_ ?_ _ _))))); have n1_ := Aside0.mk (IsS64.below (by repeat (first | exact isW64 HI0.out | refine isW64 (IsS64.set_1 ?_ _) | refine isW64 (IsS64.set_2 ?_ _))) hb); have n2_ := Aside0.mk (KeepBut.trans (by repeat (first | exact kpW HK.out | refine kpW (KeepBut.set_ ?_ _ _))) (KeepBut.of_below hb g none) (.inl rfl)); have n3_ := Aside0.mk (below_step (by repeat (first | exact nbW HB.out | refine nbW (below_set ?_ (IsS64.ge HI0.out)))) hb); clear HI0; clear HK; clear HB; have HO421 := n0_; have HI0 := n1_; have HK := n2_; have HB := n3_; clear n0_ n1_ n2_ n3_; clear hb ho25; have hcv26 := own_string (P := Tryz.prog) Tryz.underlying30 Tryz.underlying5 Tryz.underlying9 (Kd.own_of_R HO421.out)) | (go_at_call 51; (with_reducible refine (spec_l1Cur_pick.calls g s0_0 t417 t418 3 t422 t423 t424 w0 _ ?side1 ?side2 A14.out).mono ?_); (case side1 => repeat (first | exact isW64 HI0.out | refine isW64 (IsS64.set_1 ?_ _) | refine isW64 (IsS64.set_2 ?_ _))); (case side2 => repeat (first | exact nbW HB.out | refine nbW (below_set ?_ (IsS64.ge HI0.out)))); rintro e w27 ⟨rfl, hi, hb, hk⟩; have n0_ := Aside0.mk (Kd.R_mono (Kd.R_keep (IsS64.apart (show IsS64 w0 _ g s0_0 t417 t418 from by repeat (first | exact isW64 HI0.out | refine isW64 (IsS64.set_1 ?_ _) | refine isW64 (IsS64.set_2 ?_ _))) (rbW HO421.out) (by decide)) hk (fun _ h => h.2)) (fun _ h => h.1)); have n1_ := Aside0.mk (KeepBut.trans (by repeat (first | exact kpW HK.out | refine kpW (KeepBut.set_ ?_ _ _))) hk (.inl rfl)); have n2_ := Aside0.mk (hb); have n3_ := Aside0.mk (hi); clear HO421; clear HK; clear HB; clear HI0; have HO421 := n0_; have HK := n1_; have HB := n2_; have HI0 := n3_; clear n0_ n1_ n2_ n3_; (try clear hb); (try clear hb2); (try clear hk); (try clear hi)))
             repeat (go_quiet (first | fail); try go_wp2_with (first | fail))
             go_roundg kj5
             case measure => have := HK1.out; have := HJ5.out; omega
             case rel => exact ⟨(((x1_1.extract 0 (t413 : Int).toNat) ++ (strOfNums y419)) ++ (x1_1.extract (t413 : Int).toNat x1_1.size)), (wrap64 (x7_1 - 1)), (t423), (t424), (by first | rfl | (simp; done) | (simp [*]; done)), (by first | rfl | (simp; done) | (simp [*]; done)), H', ⟨by have := HK1.out; have := HJ5.out; omega⟩, ⟨by repeat (first | exact isW64 HI0.out | refine isW64 (IsS64.set_1 ?_ _) | refine isW64 (IsS64.set_2 ?_ _))⟩, ⟨by repeat (first | exact kpW HK.out | refine kpW (KeepBut.set_ ?_ _ _))⟩, ⟨by repeat (first | exact nbW HB.out | refine nbW (below_set ?_ (IsS64.ge HI0.out)))⟩⟩
            ·rw [if_neg c21] at H
             exact absurd H (by simp)
           ·rw [if_neg c18] at H
            exact absurd H (by simp)
          ·rw [if_neg c17] at H
           exact absurd H (by simp)
         ·rw [if_neg c16] at H
          exact absurd H (by simp)
        ·rw [if_neg c15] at H
         have c15b0 : (t422 == 0) = false := beq_eq_false_iff_ne.mpr c15
         have c15b1 : (t422 != 0) = true := bne_iff_ne.mpr c15
         by_cases c28 : t422 = 1
         ·rw [if_pos c28] at H
          have c28b0 : (t422 == 1) = true := beq_iff_eq.mpr c28
          have c28b1 : (t422 != 1) = false := bne_eq_false_iff_eq.mpr c28
          clear c28
          by_cases c29 : 0 ≤ t413
          ·rw [if_pos c29] at H
           have c29b0 := eq_true c29
           have c29b1 := decide_eq_true c29
           clear c29
           by_cases c30 : t413 ≤ (x1_1.size : Int)
           ·rw [if_pos c30] at H
            have c30b0 := eq_true c30
            have c30b1 := decide_eq_true c30
            clear c30
            by_cases c31 : (x1_1.extract 0 (t413 : Int).toNat).size + (strOfNums y419).size ≤ 9223372036854775807
            ·rw [if_pos c31] at H
             have c31b0 := eq_true c31
             have c31b1 := decide_eq_true c31
             try have c31b2 : (9223372036854775807 < (x1_1.extract 0 (t413 : Int).toNat).size + (strOfNums y419).size) = False := eq_false (Nat.not_lt.2 c31)
             obtain ⟨ji32, hji32⟩ : ∃ j_ : Int, (wrap64 (t413 + 1)) = j_ := ⟨_, rfl⟩
             replace H : (if 0 ≤ (ji32) then (if (ji32) ≤ (x1_1.size : Int) then (if ((x1_1.extract 0 (t413 : Int).toNat) ++ (strOfNums y419)).size + (x1_1.extract ((ji32) : Int).toNat x1_1.size).size ≤ 9223372036854775807 then (spec_l1Cur_spoilt.l0 kj5 (((x1_1.extract 0 (t413 : Int).toNat) ++ (strOfNums y419)) ++ (x1_1.extract ((ji32) : Int).toNat x1_1.size)) a2 (wrap64 (x7_1 - 1)) s0_0 t423 t424) else (none)) else (none)) else (none)) = some (r1, r2, r3) := by first | (rw [hji32] at H; exact H) | (simp only [hji32] at H ⊢; exact H)
             (try rw [hji32] at A9)
             (try rw [hji32] at A10)
             (try rw [hji32] at A14)
             have hji32w : (IntKind.i64.wrap (t413 + 1)) = ji32 := (i64_w _).trans hji32
             by_cases c33 : 0 ≤ (ji32)
             ·rw [if_pos c33] at H
              have c33b0 := eq_true c33
              have c33b1 := decide_eq_true c33
              clear c33
              by_cases c34 : (ji32) ≤ (x1_1.size : Int)
              ·rw [if_pos c34] at H
               have c34b0 := eq_true c34
               have c34b1 := decide_eq_true c34
               clear c34
               by_cases c35 : ((x1_1.extract 0 (t413 : Int).toNat) ++ (strOfNums y419)).size + (x1_1.extract ((ji32) : Int).toNat x1_1.size).size ≤ 9223372036854775807
               ·rw [if_pos c35] at H
                have c35b0 := eq_true c35
                have c35b1 := decide_eq_true c35
                try have c35b2 : (9223372036854775807 < ((x1_1.extract 0 (t413 : Int).toNat) ++ (strOfNums y419)).size + (x1_1.extract ((ji32) : Int).toNat x1_1.size).size) = False := eq_false (Nat.not_lt.2 c35)
                have H' := Aside0.mk H
                clear H
                go_wp2_with (first | (go_at_call 51; (with_reducible refine (spec_l1Cur_pick.calls g s0_0 x1001_1 x1002_1 (x1_1.size : Int) t413 t414 t415 w0 _ ?side1 ?side2 A9.out).mono ?_); (case side1 => repeat (first | exact isW64 HI0.out | refine isW64 (IsS64.set_1 ?_ _) | refine isW64 (IsS64.set_2 ?_ _))); (case side2 => repeat (first | exact nbW HB.out | refine nbW (below_set ?_ (IsS64.ge HI0.out)))); rintro e w36 ⟨rfl, hi, hb, hk⟩; have n0_ := Aside0.mk (KeepBut.trans (by repeat (first | exact kpW HK.out | refine kpW (KeepBut.set_ ?_ _ _))) hk (.inl rfl)); have n1_ := Aside0.mk (hb); have n2_ := Aside0.mk (hi); clear HK; clear HB; clear HI0; have HK := n0_; have HB := n1_; have HI0 := n2_; clear n0_ n1_ n2_; (try clear hb); (try clear hb2); (try clear hk); (try clear hi)) | (go_at_call 51; (with_reducible refine (spec_l1Cur_pick.calls g s0_0 t414 t415 (a2.size : Int) t416 t417 t418 w0 _ ?side1 ?side2 A10.out).mono ?_); (case side1 => repeat (first | exact isW64 HI0.out | refine isW64 (IsS64.set_1 ?_ _) | refine isW64 (IsS64.set_2 ?_ _))); (case side2 => repeat (first | exact nbW HB.out | refine nbW (below_set ?_ (IsS64.ge HI0.out)))); rintro e w37 ⟨rfl, hi, hb, hk⟩; have n0_ := Aside0.mk (KeepBut.trans (by repeat (first | exact kpW HK.out | refine kpW (KeepBut.set_ ?_ _ _))) hk (.inl rfl)); have n1_ := Aside0.mk (hb); have n2_ := Aside0.mk (hi); clear HK; clear HB; clear HI0; have HK := n0_; have HB := n1_; have HI0 := n2_; clear n0_ n1_ n2_; (try clear hb); (try clear hb2); (try clear hk); (try clear hi); have p13 : 0 ≤ (t416 : Int) := of_decide_eq_true (by first | (with_reducible assumption) | assumption); have q13 : t416 < (a2.size : Int) := of_decide_eq_true (by first | (with_reducible assumption) | assumption); have hx13 := bt_at a2 t416; replace p13 := eq_true p13; replace q13 := eq_true q13) | ((with_reducible refine gate_dst (N := 32) rfl ?_); (try (refine gate_guard (by rfl) ?_; dsimp only)); refine Kd.R_lit (Kd.int .u8) _ 5 ?hg (N := 32) ?hd (xs := ([bt a2 t416] : List Int)) (inner := [.int .u8 (bt a2 t416)]) (ok := fun _ => True) (okp := fun _ => True) ?hr ?hp (fun _ hk => hk) trivial (Below.refl _ _) (Nat.le_refl _) (by simp) ?_; (case hd => rfl); (case hg => rfl); (case hr => first | (go_simp; done) | (go_simp; rfl)); (case hp => exact (Reps.one (show Kd.M (Kd.int .u8) _ _ _ (bt a2 t416) [.int .u8 (bt a2 t416)] from rfl) (Reps.none _ _))); intro v420 w38 ho39 hb hg_ hnew_; clear hg_ hnew_; (first | rw [← Ny419.out] at ho39 | (simp only [Int.reduceToNat] at ho39; rw [← Ny419.out] at ho39)); have n0_ := Aside0.mk (Kd.R_lower ho39 (keep_size (w := w) (g := g) (row := none) (by repeat (first | exact kpW HK.out | refine kpW (KeepBut.set_ ?_ _ _))))); have n1_ := Aside0.mk (IsS64.below (by repeat (first | exact isW64 HI0.out | refine isW64 (IsS64.set_1 ?_ _) | refine isW64 (IsS64.set_2 ?_ _))) hb); have n2_ := Aside0.mk (KeepBut.trans (by repeat (first | exact kpW HK.out | refine kpW (KeepBut.set_ ?_ _ _))) (KeepBut.of_below hb g none) (.inl rfl)); have n3_ := Aside0.mk (below_step (by repeat (first | exact nbW HB.out | refine nbW (below_set ?_ (IsS64.ge HI0.out)))) hb); clear HI0; clear HK; clear HB; have HO421 := n0_; have HI0 := n1_; have HK := n2_; have HB := n3_; clear n0_ n1_ n2_ n3_; clear hb ho39; have hcv40 := own_string (P := Tryz.prog) Tryz.underlying30 Tryz.underlying5 Tryz.underlying9 (Kd.own_of_R HO421.out)) | (go_at_call 51; (with_reducible refine (spec_l1Cur_pick.calls g s0_0 t417 t418 3 t422 t423 t424 w0 _ ?side1 ?side2 A14.out).mono ?_); (case side1 => repeat (first | exact isW64 HI0.out | refine isW64 (IsS64.set_1 ?_ _) | refine isW64 (IsS64.set_2 ?_ _))); (case side2 => repeat (first | exact nbW HB.out | refine nbW (below_set ?_ (IsS64.ge HI0.out)))); rintro e w41 ⟨rfl, hi, hb, hk⟩; have n0_ := Aside0.mk (Kd.R_mono (Kd.R_keep (IsS64.apart (show IsS64 w0 _ g s0_0 t417 t418 from by repeat (first | exact isW64 HI0.out | refine isW64 (IsS64.set_1 ?_ _) | refine isW64 (IsS64.set_2 ?_ _))) (rbW HO421.out) (by decide)) hk (fun _ h => h.2)) (fun _ h => h.1)); have n1_ := Aside0.mk (KeepBut.trans (by repeat (first | exact kpW HK.out | refine kpW (KeepBut.set_ ?_ _ _))) hk (.inl rfl)); have n2_ := Aside0.mk (hb); have n3_ := Aside0.mk (hi); clear HO421; clear HK; clear HB; clear HI0; have HO421 := n0_; have HK := n1_; have HB := n2_; have HI0 := n3_; clear n0_ n1_ n2_ n3_; (try clear hb); (try clear hb2); (try clear hk); (try clear hi)))
                repeat (go_quiet (first | fail); try go_wp2_with (first | fail))
                go_roundg kj5
                case measure => have := HK1.out; have := HJ5.out; omega
                case rel => exact ⟨(((x1_1.extract 0 (t413 : Int).toNat) ++ (strOfNums y419)) ++ (x1_1.extract ((ji32) : Int).toNat x1_1.size)), (wrap64 (x7_1 - 1)), (t423), (t424), (by first | rfl | (simp; done) | (simp only [← hji32] <;> (first | rfl | simp)) | (simp [*]; done)), (by first | rfl | (simp; done) | (simp [*]; done)), H', ⟨by have := HK1.out; have := HJ5.out; omega⟩, ⟨by repeat (first | exact isW64 HI0.out | refine isW64 (IsS64.set_1 ?_ _) | refine isW64 (IsS64.set_2 ?_ _))⟩, ⟨by repeat (first | exact kpW HK.out | refine kpW (KeepBut.set_ ?_ _ _))⟩, ⟨by repeat (first | exact nbW HB.out | refine nbW (below_set ?_ (IsS64.ge HI0.out)))⟩⟩
               ·rw [if_neg c35] at H
                exact absurd H (by simp)
              ·rw [if_neg c34] at H
               exact absurd H (by simp)
             ·rw [if_neg c33] at H
              exact absurd H (by simp)
            ·rw [if_neg c31] at H
             exact absurd H (by simp)
           ·rw [if_neg c30] at H
            exact absurd H (by simp)
          ·rw [if_neg c29] at H
           exact absurd H (by simp)
         ·rw [if_neg c28] at H
          have c28b0 : (t422 == 1) = false := beq_eq_false_iff_ne.mpr c28
          have c28b1 : (t422 != 1) = true := bne_iff_ne.mpr c28
          by_cases c42 : 0 ≤ t413
          ·rw [if_pos c42] at H
           have c42b0 := eq_true c42
           have c42b1 := decide_eq_true c42
           clear c42
           by_cases c43 : t413 ≤ (x1_1.size : Int)
           ·rw [if_pos c43] at H
            have c43b0 := eq_true c43
            have c43b1 := decide_eq_true c43
            clear c43
            obtain ⟨ji44, hji44⟩ : ∃ j_ : Int, (wrap64 (t413 + 1)) = j_ := ⟨_, rfl⟩
            replace H : (if 0 ≤ (ji44) then (if (ji44) ≤ (x1_1.size : Int) then (if (x1_1.extract 0 (t413 : Int).toNat).size + (x1_1.extract ((ji44) : Int).toNat x1_1.size).size ≤ 9223372036854775807 then (spec_l1Cur_spoilt.l0 kj5 ((x1_1.extract 0 (t413 : Int).toNat) ++ (x1_1.extract ((ji44) : Int).toNat x1_1.size)) a2 (wrap64 (x7_1 - 1)) s0_0 t423 t424) else (none)) else (none)) else (none)) = some (r1, r2, r3) := by first | (rw [hji44] at H; exact H) | (simp only [hji44] at H ⊢; exact H)
            (try rw [hji44] at A9)
            (try rw [hji44] at A10)
            (try rw [hji44] at A14)
            have hji44w : (IntKind.i64.wrap (t413 + 1)) = ji44 := (i64_w _).trans hji44
            by_cases c45 : 0 ≤ (ji44)
            ·rw [if_pos c45] at H
             have c45b0 := eq_true c45
             have c45b1 := decide_eq_true c45
             clear c45
             by_cases c46 : (ji44) ≤ (x1_1.size : Int)
             ·rw [if_pos c46] at H
              have c46b0 := eq_true c46
              have c46b1 := decide_eq_true c46
              clear c46
              by_cases c47 : (x1_1.extract 0 (t413 : Int).toNat).size + (x1_1.extract ((ji44) : Int).toNat x1_1.size).size ≤ 9223372036854775807
              ·rw [if_pos c47] at H
               have c47b0 := eq_true c47
               have c47b1 := decide_eq_true c47
               try have c47b2 : (9223372036854775807 < (x1_1.extract 0 (t413 : Int).toNat).size + (x1_1.extract ((ji44) : Int).toNat x1_1.size).size) = False := eq_false (Nat.not_lt.2 c47)
               have H' := Aside0.mk H
               clear H
               go_wp2_with (first | (go_at_call 51; (with_reducible refine (spec_l1Cur_pick.calls g s0_0 x1001_1 x1002_1 (x1_1.size : Int) t413 t414 t415 w0 _ ?side1 ?side2 A9.out).mono ?_); (case side1 => repeat (first | exact isW64 HI0.out | refine isW64 (IsS64.set_1 ?_ _) | refine isW64 (IsS64.set_2 ?_ _))); (case side2 => repeat (first | exact nbW HB.out | refine nbW (below_set ?_ (IsS64.ge HI0.out)))); rintro e w48 ⟨rfl, hi, hb, hk⟩; have n0_ := Aside0.mk (KeepBut.trans (by repeat (first | exact kpW HK.out | refine kpW (KeepBut.set_ ?_ _ _))) hk (.inl rfl)); have n1_ := Aside0.mk (hb); have n2_ := Aside0.mk (hi); clear HK; clear HB; clear HI0; have HK := n0_; have HB := n1_; have HI0 := n2_; clear n0_ n1_ n2_; (try clear hb); (try clear hb2); (try clear hk); (try clear hi)) | (go_at_call 51; (with_reducible refine (spec_l1Cur_pick.calls g s0_0 t414 t415 (a2.size : Int) t416 t417 t418 w0 _ ?side1 ?side2 A10.out).mono ?_); (case side1 => repeat (first | exact isW64 HI0.out | refine isW64 (IsS64.set_1 ?_ _) | refine isW64 (IsS64.set_2 ?_ _))); (case side2 => repeat (first | exact nbW HB.out | refine nbW (below_set ?_ (IsS64.ge HI0.out)))); rintro e w49 ⟨rfl, hi, hb, hk⟩; have n0_ := Aside0.mk (KeepBut.trans (by repeat (first | exact kpW HK.out | refine kpW (KeepBut.set_ ?_ _ _))) hk (.inl rfl)); have n1_ := Aside0.mk (hb); have n2_ := Aside0.mk (hi); clear HK; clear HB; clear HI0; have HK := n0_; have HB := n1_; have HI0 := n2_; clear n0_ n1_ n2_; (try clear hb); (try clear hb2); (try clear hk); (try clear hi); have p13 : 0 ≤ (t416 : Int) := of_decide_eq_true (by first | (with_reducible assumption) | assumption); have q13 : t416 < (a2.size : Int) := of_decide_eq_true (by first | (with_reducible assumption) | assumption); have hx13 := bt_at a2 t416; replace p13 := eq_true p13; replace q13 := eq_true q13) | ((with_reducible refine gate_dst (N := 32) rfl ?_); (try (refine gate_guard (by rfl) ?_; dsimp only)); refine Kd.R_lit (Kd.int .u8) _ 5 ?hg (N := 32) ?hd (xs := ([bt a2 t416] : List Int)) (inner := [.int .u8 (bt a2 t416)]) (ok := fun _ => True) (okp := fun _ => True) ?hr ?hp (fun _ hk => hk) trivial (Below.refl _ _) (Nat.le_refl _) (by simp) ?_; (case hd => rfl); (case hg => rfl); (case hr => first | (go_simp; done) | (go_simp; rfl)); (case hp => exact (Reps.one (show Kd.M (Kd.int .u8) _ _ _ (bt a2 t416) [.int .u8 (bt a2 t416)] from rfl) (Reps.none _ _))); intro v420 w50 ho51 hb hg_ hnew_; clear hg_ hnew_; (first | rw [← Ny419.out] at ho51 | (simp only [Int.reduceToNat] at ho51; rw [← Ny419.out] at ho51)); have n0_ := Aside0.mk (Kd.R_lower ho51 (keep_size (w := w) (g := g) (row := none) (by repeat (first | exact kpW HK.out | refine kpW (KeepBut.set_ ?_ _ _))))); have n1_ := Aside0.mk (IsS64.below (by repeat (first | exact isW64 HI0.out | refine isW64 (IsS64.set_1 ?_ _) | refine isW64 (IsS64.set_2 ?_ _))) hb); have n2_ := Aside0.mk (KeepBut.trans (by repeat (first | exact kpW HK.out | refine kpW (KeepBut.set_ ?_ _ _))) (KeepBut.of_below hb g none) (.inl rfl)); have n3_ := Aside0.mk (below_step (by repeat (first | exact nbW HB.out | refine nbW (below_set ?_ (IsS64.ge HI0.out)))) hb); clear HI0; clear HK; clear HB; have HO421 := n0_; have HI0 := n1_; have HK := n2_; have HB := n3_; clear n0_ n1_ n2_ n3_; clear hb ho51; have hcv52 := own_string (P := Tryz.prog) Tryz.underlying30 Tryz.underlying5 Tryz.underlying9 (Kd.own_of_R HO421.out)) | (go_at_call 51; (with_reducible refine (spec_l1Cur_pick.calls g s0_0 t417 t418 3 t422 t423 t424 w0 _ ?side1 ?side2 A14.out).mono ?_); (case side1 => repeat (first | exact isW64 HI0.out | refine isW64 (IsS64.set_1 ?_ _) | refine isW64 (IsS64.set_2 ?_ _))); (case side2 => repeat (first | exact nbW HB.out | refine nbW (below_set ?_ (IsS64.ge HI0.out)))); rintro e w53 ⟨rfl, hi, hb, hk⟩; have n0_ := Aside0.mk (Kd.R_mono (Kd.R_keep (IsS64.apart (show IsS64 w0 _ g s0_0 t417 t418 from by repeat (first | exact isW64 HI0.out | refine isW64 (IsS64.set_1 ?_ _) | refine isW64 (IsS64.set_2 ?_ _))) (rbW HO421.out) (by decide)) hk (fun _ h => h.2)) (fun _ h => h.1)); have n1_ := Aside0.mk (KeepBut.trans (by repeat (first | exact kpW HK.out | refine kpW (KeepBut.set_ ?_ _ _))) hk (.inl rfl)); have n2_ := Aside0.mk (hb); have n3_ := Aside0.mk (hi); clear HO421; clear HK; clear HB; clear HI0; have HO421 := n0_; have HK := n1_; have HB := n2_; have HI0 := n3_; clear n0_ n1_ n2_ n3_; (try clear hb); (try clear hb2); (try clear hk); (try clear hi)))
               repeat (go_quiet (first | fail); try go_wp2_with (first | fail))
               go_roundg kj5
               case measure => have := HK1.out; have := HJ5.out; omega
               case rel => exact ⟨((x1_1.extract 0 (t413 : Int).toNat) ++ (x1_1.extract ((ji44) : Int).toNat x1_1.size)), (wrap64 (x7_1 - 1)), (t423), (t424), (by first | rfl | (simp; done) | (simp only [← hji44] <;> (first | rfl | simp)) | (simp [*]; done)), (by first | rfl | (simp; done) | (simp [*]; done)), H', ⟨by have := HK1.out; have := HJ5.out; omega⟩, ⟨by repeat (first | exact isW64 HI0.out | refine isW64 (IsS64.set_1 ?_ _) | refine isW64 (IsS64.set_2 ?_ _))⟩, ⟨by repeat (first | exact kpW HK.out | refine kpW (KeepBut.set_ ?_ _ _))⟩, ⟨by repeat (first | exact nbW HB.out | refine nbW (below_set ?_ (IsS64.ge HI0.out)))⟩⟩
              ·rw [if_neg c47] at H
               exact absurd H (by simp)
             ·rw [if_neg c46] at H
              exact absurd H (by simp)
            ·rw [if_neg c45] at H
             exact absurd H (by simp)
           ·rw [if_neg c43] at H
            exact absurd H (by simp)
          ·rw [if_neg c42] at H
           exact absurd H (by simp)
       ·rw [if_neg c12] at H
        exact absurd H (by simp)
      ·rw [if_neg c11] at H
       exact absurd H (by simp)
     ·replace c8 := Bool.eq_false_iff.mpr c8
      subst c8
      rw [if_neg (show ¬ (false = true) by decide)] at H
      simp only [Option.some.injEq, Prod.mk.injEq] at H
      obtain ⟨rfl, rfl, rfl⟩ := H
      go_wp2
      repeat (go_quiet (fail); try go_wp2)
      go_ret
      exact ⟨by first | rfl | (simp [errW_none, errW_some] <;> rfl) | (simp [*, errW_none, errW_some] <;> rfl), by repeat (first | exact isW64 HI0.out | refine isW64 (IsS64.set_1 ?_ _) | refine isW64 (IsS64.set_2 ?_ _)), by repeat (first | exact nbW HB.out | refine nbW (below_set ?_ (IsS64.ge HI0.out))), by repeat (first | exact kpW HK.out | refine kpW (KeepBut.set_ ?_ _ _))⟩

/-! ### spec_DrawParseWalk: function 33 -/
def spec_DrawParseWalk.f (k : Nat) (l0 : List Int) : Option (ByteArray) := (spec_l1Cur_walk.f k l0 0 0 6).bind fun bt426 => ((spec_waGood.f k bt426.1 bt426.2.1).bind fun t435 => (if t435 = true then ((spec_waText.f k bt426.1 bt426.2.1).bind fun t442 => ((spec_l1Cur_one.f l0 bt426.2.2.1 bt426.2.2.2 3).bind fun bt443 => (if bt443.1 = true then ((spec_l1Cur_spoilt.f k l0 bt443.2.1 bt443.2.2 t442 (⟨#[48, 49, 50, 51, 44, 58, 45]⟩ : ByteArray)).bind fun bt446 => (some bt446.1)) else (some t442)))) else ((spec_l1Cur_of.f l0 bt426.2.2.1 bt426.2.2.2 (([(⟨#[]⟩ : ByteArray), (⟨#[58]⟩ : ByteArray), (⟨#[45, 58, 45]⟩ : ByteArray), (⟨#[48, 58, 48]⟩ : ByteArray), (⟨#[48, 58, 49]⟩ : ByteArray), (⟨#[49, 58, 48]⟩ : ByteArray), (⟨#[48, 44, 49, 58, 49, 44, 48]⟩ : ByteArray), (⟨#[48, 58, 48, 58, 48]⟩ : ByteArray), (⟨#[48, 44, 48, 58, 48]⟩ : ByteArray)] : List ByteArray))).bind fun bt439 => (some bt439.1))))
theorem spec_DrawParseWalk.mono : ∀ a0 k, LeO (spec_DrawParseWalk.f k a0) (spec_DrawParseWalk.f (k + 1) a0) := by
 intro a0 k
 unfold spec_DrawParseWalk.f
 repeat' first | (with_reducible first | exact spec_l1Cur_spoilt.mono _ _ _ _ _ _ | exact spec_l1Cur_walk.mono _ _ _ _ _ | exact spec_waGood.mono _ _ _ | exact spec_waText.mono _ _ _ | exact LeO.refl _ | exact LeO.none _ | refine LeO.ite ?_ ?_ | refine LeO.bind ?_ (fun _ => ?_)) | exact LeO.none _ | refine LeO.ite ?_ ?_ | refine LeO.bind ?_ (fun _ => ?_)
set_option maxHeartbeats 8000000 in
set_option maxRecDepth 100000 in
theorem spec_DrawParseWalk.calls (k : Nat) (A0 : Option Addr) (c0 : Nat) (l0 : List Int) (r : ByteArray) (w : World) (hr0 : Kd.C (Kd.int .u8) w A0 l0.length l0) (hc0 : l0.length ≤ c0) (h : spec_DrawParseWalk.f k l0 = some r) :
  Calls Tryz.prog 33 #[.slice A0 l0.length c0] w fun e w' => e = .returned (.string r) ∧ Below w.heap.size w w' := by
 have hu64 := Tryz.underlying64
 have hu24 := Tryz.underlying24
 have HR0 := Aside0.mk hr0
 have HC0 := Aside0.mk hc0
 clear hr0 hc0
 have HB := Aside0.mk (Below.refl w.heap.size w)
 have H : ((spec_l1Cur_walk.f k l0 0 0 6).bind fun bt426 => ((spec_waGood.f k bt426.1 bt426.2.1).bind fun t435 => (if t435 = true then ((spec_waText.f k bt426.1 bt426.2.1).bind fun t442 => ((spec_l1Cur_one.f l0 bt426.2.2.1 bt426.2.2.2 3).bind fun bt443 => (if bt443.1 = true then ((spec_l1Cur_spoilt.f k l0 bt443.2.1 bt443.2.2 t442 (⟨#[48, 49, 50, 51, 44, 58, 45]⟩ : ByteArray)).bind fun bt446 => (some bt446.1)) else (some t442)))) else ((spec_l1Cur_of.f l0 bt426.2.2.1 bt426.2.2.2 (([(⟨#[]⟩ : ByteArray), (⟨#[58]⟩ : ByteArray), (⟨#[45, 58, 45]⟩ : ByteArray), (⟨#[48, 58, 48]⟩ : ByteArray), (⟨#[48, 58, 49]⟩ : ByteArray), (⟨#[49, 58, 48]⟩ : ByteArray), (⟨#[48, 44, 49, 58, 49, 44, 48]⟩ : ByteArray), (⟨#[48, 58, 48, 58, 48]⟩ : ByteArray), (⟨#[48, 44, 48, 58, 48]⟩ : ByteArray)] : List ByteArray))).bind fun bt439 => (some bt439.1))))) = some r := h
 clear h
 replace H := Option.bind_eq_some_iff.mp H
 obtain ⟨⟨t426, t429, t432, t433⟩, A20, H⟩ := H
 (try dsimp -simprocs only at H)
 have A2 := Aside0.mk A20
 clear A20
 replace H := Option.bind_eq_some_iff.mp H
 obtain ⟨t435, A30, H⟩ := H
 (try dsimp -simprocs only at H)
 have A3 := Aside0.mk A30
 clear A30
 by_cases c4 : t435 = true
 ·subst c4
  rw [if_pos rfl] at H
  replace H := Option.bind_eq_some_iff.mp H
  obtain ⟨t442, A50, H⟩ := H
  (try dsimp -simprocs only at H)
  have A5 := Aside0.mk A50
  clear A50
  replace H := Option.bind_eq_some_iff.mp H
  obtain ⟨⟨t443, t444, t445⟩, A60, H⟩ := H
  (try dsimp -simprocs only at H)
  have A6 := Aside0.mk A60
  clear A60
  by_cases c7 : t443 = true
  ·subst c7
   rw [if_pos rfl] at H
   replace H := Option.bind_eq_some_iff.mp H
   obtain ⟨⟨t446, t447, t448⟩, A80, H⟩ := H
   (try dsimp -simprocs only at H)
   have A8 := Aside0.mk A80
   clear A80
   obtain rfl := Option.some.inj H
   go_enter Tryz.func33, Tryz.ntmps33
   go_wp2_with (first | ((with_reducible refine gate_dst (N := 8) rfl ?_); refine box_event ?hg (N := 8) ?hd (cs := #[.slice A0 l0.length c0, .int .i64 0, .int .u64 0]) (t := 64) ?hr ?_; (case hd => rfl); (case hg => rfl); (case hr => first | (go_simp; done) | (go_simp; rfl)); intro gb425 hg w9 hbox hb; have n0_ := Aside0.mk (below_step (nbW HB.out) hb); have n1_ := Aside0.mk (hbox); have n2_ := Aside0.mk ((by rw [hg]; exact (below_size (nbW HB.out)) : w.heap.size ≤ gb425)); have n3_ := Aside0.mk ((by rw [hg]; exact (below_size (nbW HB.out)) : w.heap.size ≤ gb425)); clear HB; have HB := n0_; have BK425 := n1_; have GW425 := n2_; have GE425 := n3_; clear n0_ n1_ n2_ n3_; clear hb hbox hg; have HI425 := Aside0.mk (by unfold IsS64; exact ⟨_, _, BK425.out, GW425.out, HR0.out⟩ : IsS64 w w9 gb425 l0 0 0)) | ((with_reducible refine gate_callee (f := 69) rfl ?_); refine gcW 10 Tryz.func69 #[.pointer (some ⟨gb425, 0, none⟩), .int .i64 6] rfl ?_; (with_reducible refine (spec_l1Cur_walk.calls k gb425 l0 0 0 6 t426 t429 t432 t433 w _ ?side1 ?side2 A2.out).mono ?_); (case side1 => repeat (first | exact isW64 HI425.out | refine isW64 (IsS64.set_1 ?_ _) | refine isW64 (IsS64.set_2 ?_ _))); (case side2 => repeat (first | exact nbW HB.out | refine nbW (below_set ?_ (IsS64.ge HI425.out)))); rintro e w10 ⟨v427, v430, rfl, ho0, ho1, hi, hb, hk⟩; refine ⟨_, rfl, ?_⟩; have n0_ := Aside0.mk (Kd.R_lower ho0 (below_size (by repeat (first | exact nbW HB.out | refine nbW (below_set ?_ (IsS64.ge HI425.out)))))); have n1_ := Aside0.mk (Kd.R_lower ho1 (below_size (by repeat (first | exact nbW HB.out | refine nbW (below_set ?_ (IsS64.ge HI425.out)))))); have n2_ := Aside0.mk (hb); have n3_ := Aside0.mk (hi); clear HB; clear HI425; have HO428 := n0_; have HO431 := n1_; have HB := n2_; have HI425 := n3_; clear n0_ n1_ n2_ n3_; (try clear hb); (try clear hb2); (try clear hk); (try clear hi); (try clear ho0); (try clear ho1)) | ((with_reducible refine gate_dst (N := 4) rfl ?_); refine box_event ?hg (N := 4) ?hd (cs := #[.slice none 0 0, .slice none 0 0]) (t := 24) ?hr ?_; (case hd => rfl); (case hg => rfl); (case hr => first | (go_simp; done) | (go_simp; rfl)); intro gb434 hg w11 hbox hb; have n0_ := Aside0.mk (Kd.R_below (rbW HO428.out) hb); have n1_ := Aside0.mk (Kd.R_below (rbW HO431.out) hb); have n2_ := Aside0.mk (IsS64.below (by repeat (first | exact isW64 HI425.out | refine isW64 (IsS64.set_1 ?_ _) | refine isW64 (IsS64.set_2 ?_ _))) hb); have n3_ := Aside0.mk (below_step (by repeat (first | exact nbW HB.out | refine nbW (below_set ?_ (IsS64.ge HI425.out)))) hb); have n4_ := Aside0.mk (hbox); have n5_ := Aside0.mk ((by rw [hg]; exact (below_size (by repeat (first | exact nbW HB.out | refine nbW (below_set ?_ (IsS64.ge HI425.out))))) : w.heap.size ≤ gb434)); have n6_ := Aside0.mk ((by rw [hg]; exact (below_size (by repeat (first | exact nbW HB.out | refine nbW (below_set ?_ (IsS64.ge HI425.out))))) : w.heap.size ≤ gb434)); have n7_ := Aside0.mk ((by rw [hg]; exact Nat.ne_of_lt (IsS64.lt (show IsS64 w _ gb425 l0 t432 t433 from by repeat (first | exact isW64 HI425.out | refine isW64 (IsS64.set_1 ?_ _) | refine isW64 (IsS64.set_2 ?_ _)))) : gb425 ≠ gb434)); have n8_ := Aside0.mk ((by rw [hg]; exact Nat.ne_of_gt (IsS64.lt (show IsS64 w _ gb425 l0 t432 t433 from by repeat (first | exact isW64 HI425.out | refine isW64 (IsS64.set_1 ?_ _) | refine isW64 (IsS64.set_2 ?_ _)))) : gb434 ≠ gb425)); clear HO428; clear HO431; clear HI425; clear HB; have HO428 := n0_; have HO431 := n1_; have HI425 := n2_; have HB := n3_; have BK434 := n4_; have GW434 := n5_; have GE434 := n6_; have NB425_434 := n7_; have NB434_425 := n8_; clear n0_ n1_ n2_ n3_ n4_ n5_ n6_ n7_ n8_; clear hb hbox hg; obtain ⟨Ao12, co12, eo12⟩ := Kd.R_slice HO428.out; subst eo12; have hnb13 := NB434_425.out; have hnc13 := NB425_434.out; have hcz14_0 : w11.cell? ⟨gb434, 0, none⟩ = some (.slice none 0 0) := (blk_cell BK434.out 0).trans rfl; have hcz14_1 : w11.cell? ⟨gb434, 1, none⟩ = some (.slice none 0 0) := (blk_cell BK434.out 1).trans rfl; have hfz14_0 := blk_frozen BK434.out 0; have hfz14_1 := blk_frozen BK434.out 1; obtain ⟨Ao15, co15, eo15⟩ := Kd.R_slice HO431.out; subst eo15) | ((with_reducible refine gate_callee (f := 42) rfl ?_); refine gcW 12 Tryz.func42 #[.agg #[.slice Ao12 t426.length co12, .slice Ao15 t429.length co15]] rfl ?_; (with_reducible refine (spec_waGood.calls k _ _ t426 _ _ t429 true _ ?side1 ?side2 ?side3 ?side4 A3.out).mono ?_); (case side1 => refine (Kd.R_reads' (e := 3) (base := w.heap.size) (ok := fun k_ => some k_ ≠ (.slice Ao15 t429.length co15 : Value).ownBlock) (n := t426.length) (c := co12) ?_).2.2; exact (by apply rbW; exact (Kd.R_mono (Kd.R_far (p := ⟨gb434, 1, none⟩) (Kd.R_far (p := ⟨gb434, 0, none⟩) (Kd.R_types HO428.out BK434.out (by decide)) (fun _ hk => hk.2) (.slice Ao12 t426.length co12)) (fun _ hk => hk.2) (.slice Ao15 t429.length co15)) (fun _ h_ => h_.1)))); (case side2 => exact (Kd.R_reads' HO428.out).2.1); (case side3 => refine (Kd.R_reads' (e := 3) (base := w.heap.size) (ok := fun k_ => some k_ ≠ (.slice Ao12 t426.length co12 : Value).ownBlock) (n := t429.length) (c := co15) ?_).2.2; exact (by apply rbW; exact (Kd.R_mono (Kd.R_far (p := ⟨gb434, 1, none⟩) (Kd.R_far (p := ⟨gb434, 0, none⟩) (Kd.R_types HO431.out BK434.out (by decide)) (fun _ hk => hk.2) (.slice Ao12 t426.length co12)) (fun _ hk => hk.2) (.slice Ao15 t429.length co15)) (fun _ h_ => h_.1)))); (case side4 => exact (Kd.R_reads' HO431.out).2.1); rintro e w16 ⟨rfl, hb⟩; refine ⟨_, rfl, ?_⟩; have n0_ := Aside0.mk (Kd.R_below (by apply rbW; exact (Kd.R_mono (Kd.R_far (p := ⟨gb434, 1, none⟩) (Kd.R_far (p := ⟨gb434, 0, none⟩) (Kd.R_types HO428.out BK434.out (by decide)) (fun _ hk => hk.2) (.slice Ao12 t426.length co12)) (fun _ hk => hk.2) (.slice Ao15 t429.length co15)) (fun _ h_ => h_.1))) hb); have n1_ := Aside0.mk (Kd.R_below (by apply rbW; exact (Kd.R_mono (Kd.R_far (p := ⟨gb434, 1, none⟩) (Kd.R_far (p := ⟨gb434, 0, none⟩) (Kd.R_types HO431.out BK434.out (by decide)) (fun _ hk => hk.2) (.slice Ao12 t426.length co12)) (fun _ hk => hk.2) (.slice Ao15 t429.length co15)) (fun _ h_ => h_.1))) hb); have n2_ := Aside0.mk (IsS64.below (show IsS64 w ((w11.setCell ⟨gb434, 0, none⟩ (.slice Ao12 t426.length co12)).setCell ⟨gb434, 1, none⟩ (.slice Ao15 t429.length co15)) gb425 l0 t432 t433 from by repeat (first | exact isW64 HI425.out | refine isW64 (IsS64.set_1 ?_ _) | refine isW64 (IsS64.set_2 ?_ _) | refine isW64 (IsS64.far ?_ NB425_434.out _))) hb); have n3_ := Aside0.mk (blk_below (g := gb434) (o := .cells #[.slice Ao12 t426.length co12, .slice Ao15 t429.length co15] 24 (0, 0)) (by apply kbW; refine blk_put (cs := #[.slice Ao12 t426.length co12, .slice none 0 0]) ?_ 1 _ rfl; apply kbW; refine blk_put (cs := #[.slice none 0 0, .slice none 0 0]) ?_ 0 _ rfl; apply kbW; exact BK434.out) hb); have n4_ := Aside0.mk (below_step (by repeat (first | exact nbW HB.out | refine nbW (below_set ?_ (IsS64.ge HI425.out)) | refine nbW (below_set ?_ GE434.out))) hb); clear HO428; clear HO431; clear HI425; clear BK434; clear HB; have HO428 := n0_; have HO431 := n1_; have HI425 := n2_; have BK434 := n3_; have HB := n4_; clear n0_ n1_ n2_ n3_ n4_; (try clear hb); (try clear hb2); (try clear hk); (try clear hi); have hcz17_0 : w16.cell? ⟨gb434, 0, none⟩ = some (.slice Ao12 t426.length co12) := (blk_cell BK434.out 0).trans rfl; have hcz17_1 : w16.cell? ⟨gb434, 1, none⟩ = some (.slice Ao15 t429.length co15) := (blk_cell BK434.out 1).trans rfl; have hfz17_0 := blk_frozen BK434.out 0; have hfz17_1 := blk_frozen BK434.out 1) | ((with_reducible refine gate_callee (f := 43) rfl ?_); refine gcW 18 Tryz.func43 #[.agg #[.slice Ao12 t426.length co12, .slice Ao15 t429.length co15]] rfl ?_; (with_reducible refine (spec_waText.calls k _ _ t426 _ _ t429 t442 _ ?side1 ?side2 ?side3 ?side4 A5.out).mono ?_); (case side1 => exact cbW (Kd.R_reads' HO428.out).2.2); (case side2 => exact (Kd.R_reads' HO428.out).2.1); (case side3 => exact cbW (Kd.R_reads' HO431.out).2.2); (case side4 => exact (Kd.R_reads' HO431.out).2.1); rintro e w18 ⟨rfl, hb⟩; refine ⟨_, rfl, ?_⟩; have n0_ := Aside0.mk (Kd.R_below (rbW HO428.out) hb); have n1_ := Aside0.mk (Kd.R_below (rbW HO431.out) hb); have n2_ := Aside0.mk (IsS64.below (by repeat (first | exact isW64 HI425.out | refine isW64 (IsS64.set_1 ?_ _) | refine isW64 (IsS64.set_2 ?_ _) | refine isW64 (IsS64.far ?_ NB425_434.out _))) hb); have n3_ := Aside0.mk (blk_below (kbW BK434.out) hb); have n4_ := Aside0.mk (below_step (by repeat (first | exact nbW HB.out | refine nbW (below_set ?_ (IsS64.ge HI425.out)) | refine nbW (below_set ?_ GE434.out))) hb); clear HO428; clear HO431; clear HI425; clear BK434; clear HB; have HO428 := n0_; have HO431 := n1_; have HI425 := n2_; have BK434 := n3_; have HB := n4_; clear n0_ n1_ n2_ n3_ n4_; (try clear hb); (try clear hb2); (try clear hk); (try clear hi)) | ((with_reducible refine gate_callee (f := 53) rfl ?_); refine gcW 20 Tryz.func53 #[.pointer (some ⟨gb425, 0, none⟩), .int .i64 3] rfl ?_; (with_reducible refine (spec_l1Cur_one.calls gb425 l0 t432 t433 3 true t444 t445 w _ ?side1 ?side2 A6.out).mono ?_); (case side1 => repeat (first | exact isW64 HI425.out | refine isW64 (IsS64.set_1 ?_ _) | refine isW64 (IsS64.set_2 ?_ _) | refine isW64 (IsS64.far ?_ NB425_434.out _))); (case side2 => repeat (first | exact nbW HB.out | refine nbW (below_set ?_ (IsS64.ge HI425.out)) | refine nbW (below_set ?_ GE434.out))); rintro e w19 ⟨rfl, hi, hb, hk⟩; refine ⟨_, rfl, ?_⟩; have n0_ := Aside0.mk (Kd.R_mono (Kd.R_keep (IsS64.apart (show IsS64 w _ gb425 l0 t432 t433 from by repeat (first | exact isW64 HI425.out | refine isW64 (IsS64.set_1 ?_ _) | refine isW64 (IsS64.set_2 ?_ _) | refine isW64 (IsS64.far ?_ NB425_434.out _))) (rbW HO428.out) (by decide)) hk (fun _ h => h.2)) (fun _ h => h.1)); have n1_ := Aside0.mk (Kd.R_mono (Kd.R_keep (IsS64.apart (show IsS64 w _ gb425 l0 t432 t433 from by repeat (first | exact isW64 HI425.out | refine isW64 (IsS64.set_1 ?_ _) | refine isW64 (IsS64.set_2 ?_ _) | refine isW64 (IsS64.far ?_ NB425_434.out _))) (rbW HO431.out) (by decide)) hk (fun _ h => h.2)) (fun _ h => h.1)); have n2_ := Aside0.mk (KeepBut.blk hk (g' := gb434) (o := .cells #[.slice Ao12 t426.length co12, .slice Ao15 t429.length co15] 24 (0, 0)) (kbW BK434.out) NB434_425.out (by simp)); have n3_ := Aside0.mk (hb); have n4_ := Aside0.mk (hi); clear HO428; clear HO431; clear BK434; clear HB; clear HI425; have HO428 := n0_; have HO431 := n1_; have BK434 := n2_; have HB := n3_; have HI425 := n4_; clear n0_ n1_ n2_ n3_ n4_; (try clear hb); (try clear hb2); (try clear hk); (try clear hi)) | ((with_reducible refine gate_callee (f := 66) rfl ?_); refine gcW 23 Tryz.func66 #[.pointer (some ⟨gb425, 0, none⟩), .string t442, .string (⟨#[48, 49, 50, 51, 44, 58, 45]⟩ : ByteArray)] rfl ?_; (with_reducible refine (spec_l1Cur_spoilt.calls k gb425 l0 t444 t445 t442 (⟨#[48, 49, 50, 51, 44, 58, 45]⟩ : ByteArray) t446 t447 t448 w _ ?side1 ?side2 A8.out).mono ?_); (case side1 => repeat (first | exact isW64 HI425.out | refine isW64 (IsS64.set_1 ?_ _) | refine isW64 (IsS64.set_2 ?_ _) | refine isW64 (IsS64.far ?_ NB425_434.out _))); (case side2 => repeat (first | exact nbW HB.out | refine nbW (below_set ?_ (IsS64.ge HI425.out)) | refine nbW (below_set ?_ GE434.out))); rintro e w20 ⟨rfl, hi, hb, hk⟩; refine ⟨_, rfl, ?_⟩; have n0_ := Aside0.mk (Kd.R_mono (Kd.R_keep (IsS64.apart (show IsS64 w _ gb425 l0 t444 t445 from by repeat (first | exact isW64 HI425.out | refine isW64 (IsS64.set_1 ?_ _) | refine isW64 (IsS64.set_2 ?_ _) | refine isW64 (IsS64.far ?_ NB425_434.out _))) (rbW HO428.out) (by decide)) hk (fun _ h => h.2)) (fun _ h => h.1)); have n1_ := Aside0.mk (Kd.R_mono (Kd.R_keep (IsS64.apart (show IsS64 w _ gb425 l0 t444 t445 from by repeat (first | exact isW64 HI425.out | refine isW64 (IsS64.set_1 ?_ _) | refine isW64 (IsS64.set_2 ?_ _) | refine isW64 (IsS64.far ?_ NB425_434.out _))) (rbW HO431.out) (by decide)) hk (fun _ h => h.2)) (fun _ h => h.1)); have n2_ := Aside0.mk (KeepBut.blk hk (g' := gb434) (o := .cells #[.slice Ao12 t426.length co12, .slice Ao15 t429.length co15] 24 (0, 0)) (kbW BK434.out) NB434_425.out (by simp)); have n3_ := Aside0.mk (hb); have n4_ := Aside0.mk (hi); clear HO428; clear HO431; clear BK434; clear HB; clear HI425; have HO428 := n0_; have HO431 := n1_; have BK434 := n2_; have HB := n3_; have HI425 := n4_; clear n0_ n1_ n2_ n3_ n4_; (try clear hb); (try clear hb2); (try clear hk); (try clear hi)))
   go_ret
   exact ⟨by first | rfl | (simp [errW_none, errW_some] <;> rfl) | (simp [*, errW_none, errW_some] <;> rfl), by repeat (first | exact nbW HB.out | refine nbW (below_set ?_ (IsS64.ge HI425.out)) | refine nbW (below_set ?_ GE434.out))⟩
  ·replace c7 := Bool.eq_false_iff.mpr c7
   subst c7
   rw [if_neg (show ¬ (false = true) by decide)] at H
   obtain rfl := Option.some.inj H
   go_enter Tryz.func33, Tryz.ntmps33
   go_wp2_with (first | ((with_reducible refine gate_dst (N := 8) rfl ?_); refine box_event ?hg (N := 8) ?hd (cs := #[.slice A0 l0.length c0, .int .i64 0, .int .u64 0]) (t := 64) ?hr ?_; (case hd => rfl); (case hg => rfl); (case hr => first | (go_simp; done) | (go_simp; rfl)); intro gb425 hg w21 hbox hb; have n0_ := Aside0.mk (below_step (nbW HB.out) hb); have n1_ := Aside0.mk (hbox); have n2_ := Aside0.mk ((by rw [hg]; exact (below_size (nbW HB.out)) : w.heap.size ≤ gb425)); have n3_ := Aside0.mk ((by rw [hg]; exact (below_size (nbW HB.out)) : w.heap.size ≤ gb425)); clear HB; have HB := n0_; have BK425 := n1_; have GW425 := n2_; have GE425 := n3_; clear n0_ n1_ n2_ n3_; clear hb hbox hg; have HI425 := Aside0.mk (by unfold IsS64; exact ⟨_, _, BK425.out, GW425.out, HR0.out⟩ : IsS64 w w21 gb425 l0 0 0)) | ((with_reducible refine gate_callee (f := 69) rfl ?_); refine gcW 10 Tryz.func69 #[.pointer (some ⟨gb425, 0, none⟩), .int .i64 6] rfl ?_; (with_reducible refine (spec_l1Cur_walk.calls k gb425 l0 0 0 6 t426 t429 t432 t433 w _ ?side1 ?side2 A2.out).mono ?_); (case side1 => repeat (first | exact isW64 HI425.out | refine isW64 (IsS64.set_1 ?_ _) | refine isW64 (IsS64.set_2 ?_ _))); (case side2 => repeat (first | exact nbW HB.out | refine nbW (below_set ?_ (IsS64.ge HI425.out)))); rintro e w22 ⟨v427, v430, rfl, ho0, ho1, hi, hb, hk⟩; refine ⟨_, rfl, ?_⟩; have n0_ := Aside0.mk (Kd.R_lower ho0 (below_size (by repeat (first | exact nbW HB.out | refine nbW (below_set ?_ (IsS64.ge HI425.out)))))); have n1_ := Aside0.mk (Kd.R_lower ho1 (below_size (by repeat (first | exact nbW HB.out | refine nbW (below_set ?_ (IsS64.ge HI425.out)))))); have n2_ := Aside0.mk (hb); have n3_ := Aside0.mk (hi); clear HB; clear HI425; have HO428 := n0_; have HO431 := n1_; have HB := n2_; have HI425 := n3_; clear n0_ n1_ n2_ n3_; (try clear hb); (try clear hb2); (try clear hk); (try clear hi); (try clear ho0); (try clear ho1)) | ((with_reducible refine gate_dst (N := 4) rfl ?_); refine box_event ?hg (N := 4) ?hd (cs := #[.slice none 0 0, .slice none 0 0]) (t := 24) ?hr ?_; (case hd => rfl); (case hg => rfl); (case hr => first | (go_simp; done) | (go_simp; rfl)); intro gb434 hg w23 hbox hb; have n0_ := Aside0.mk (Kd.R_below (rbW HO428.out) hb); have n1_ := Aside0.mk (Kd.R_below (rbW HO431.out) hb); have n2_ := Aside0.mk (IsS64.below (by repeat (first | exact isW64 HI425.out | refine isW64 (IsS64.set_1 ?_ _) | refine isW64 (IsS64.set_2 ?_ _))) hb); have n3_ := Aside0.mk (below_step (by repeat (first | exact nbW HB.out | refine nbW (below_set ?_ (IsS64.ge HI425.out)))) hb); have n4_ := Aside0.mk (hbox); have n5_ := Aside0.mk ((by rw [hg]; exact (below_size (by repeat (first | exact nbW HB.out | refine nbW (below_set ?_ (IsS64.ge HI425.out))))) : w.heap.size ≤ gb434)); have n6_ := Aside0.mk ((by rw [hg]; exact (below_size (by repeat (first | exact nbW HB.out | refine nbW (below_set ?_ (IsS64.ge HI425.out))))) : w.heap.size ≤ gb434)); have n7_ := Aside0.mk ((by rw [hg]; exact Nat.ne_of_lt (IsS64.lt (show IsS64 w _ gb425 l0 t432 t433 from by repeat (first | exact isW64 HI425.out | refine isW64 (IsS64.set_1 ?_ _) | refine isW64 (IsS64.set_2 ?_ _)))) : gb425 ≠ gb434)); have n8_ := Aside0.mk ((by rw [hg]; exact Nat.ne_of_gt (IsS64.lt (show IsS64 w _ gb425 l0 t432 t433 from by repeat (first | exact isW64 HI425.out | refine isW64 (IsS64.set_1 ?_ _) | refine isW64 (IsS64.set_2 ?_ _)))) : gb434 ≠ gb425)); clear HO428; clear HO431; clear HI425; clear HB; have HO428 := n0_; have HO431 := n1_; have HI425 := n2_; have HB := n3_; have BK434 := n4_; have GW434 := n5_; have GE434 := n6_; have NB425_434 := n7_; have NB434_425 := n8_; clear n0_ n1_ n2_ n3_ n4_ n5_ n6_ n7_ n8_; clear hb hbox hg; obtain ⟨Ao24, co24, eo24⟩ := Kd.R_slice HO428.out; subst eo24; have hnb25 := NB434_425.out; have hnc25 := NB425_434.out; have hcz26_0 : w23.cell? ⟨gb434, 0, none⟩ = some (.slice none 0 0) := (blk_cell BK434.out 0).trans rfl; have hcz26_1 : w23.cell? ⟨gb434, 1, none⟩ = some (.slice none 0 0) := (blk_cell BK434.out 1).trans rfl; have hfz26_0 := blk_frozen BK434.out 0; have hfz26_1 := blk_frozen BK434.out 1; obtain ⟨Ao27, co27, eo27⟩ := Kd.R_slice HO431.out; subst eo27) | ((with_reducible refine gate_callee (f := 42) rfl ?_); refine gcW 12 Tryz.func42 #[.agg #[.slice Ao24 t426.length co24, .slice Ao27 t429.length co27]] rfl ?_; (with_reducible refine (spec_waGood.calls k _ _ t426 _ _ t429 true _ ?side1 ?side2 ?side3 ?side4 A3.out).mono ?_); (case side1 => refine (Kd.R_reads' (e := 3) (base := w.heap.size) (ok := fun k_ => some k_ ≠ (.slice Ao27 t429.length co27 : Value).ownBlock) (n := t426.length) (c := co24) ?_).2.2; exact (by apply rbW; exact (Kd.R_mono (Kd.R_far (p := ⟨gb434, 1, none⟩) (Kd.R_far (p := ⟨gb434, 0, none⟩) (Kd.R_types HO428.out BK434.out (by decide)) (fun _ hk => hk.2) (.slice Ao24 t426.length co24)) (fun _ hk => hk.2) (.slice Ao27 t429.length co27)) (fun _ h_ => h_.1)))); (case side2 => exact (Kd.R_reads' HO428.out).2.1); (case side3 => refine (Kd.R_reads' (e := 3) (base := w.heap.size) (ok := fun k_ => some k_ ≠ (.slice Ao24 t426.length co24 : Value).ownBlock) (n := t429.length) (c := co27) ?_).2.2; exact (by apply rbW; exact (Kd.R_mono (Kd.R_far (p := ⟨gb434, 1, none⟩) (Kd.R_far (p := ⟨gb434, 0, none⟩) (Kd.R_types HO431.out BK434.out (by decide)) (fun _ hk => hk.2) (.slice Ao24 t426.length co24)) (fun _ hk => hk.2) (.slice Ao27 t429.length co27)) (fun _ h_ => h_.1)))); (case side4 => exact (Kd.R_reads' HO431.out).2.1); rintro e w28 ⟨rfl, hb⟩; refine ⟨_, rfl, ?_⟩; have n0_ := Aside0.mk (Kd.R_below (by apply rbW; exact (Kd.R_mono (Kd.R_far (p := ⟨gb434, 1, none⟩) (Kd.R_far (p := ⟨gb434, 0, none⟩) (Kd.R_types HO428.out BK434.out (by decide)) (fun _ hk => hk.2) (.slice Ao24 t426.length co24)) (fun _ hk => hk.2) (.slice Ao27 t429.length co27)) (fun _ h_ => h_.1))) hb); have n1_ := Aside0.mk (Kd.R_below (by apply rbW; exact (Kd.R_mono (Kd.R_far (p := ⟨gb434, 1, none⟩) (Kd.R_far (p := ⟨gb434, 0, none⟩) (Kd.R_types HO431.out BK434.out (by decide)) (fun _ hk => hk.2) (.slice Ao24 t426.length co24)) (fun _ hk => hk.2) (.slice Ao27 t429.length co27)) (fun _ h_ => h_.1))) hb); have n2_ := Aside0.mk (IsS64.below (show IsS64 w ((w23.setCell ⟨gb434, 0, none⟩ (.slice Ao24 t426.length co24)).setCell ⟨gb434, 1, none⟩ (.slice Ao27 t429.length co27)) gb425 l0 t432 t433 from by repeat (first | exact isW64 HI425.out | refine isW64 (IsS64.set_1 ?_ _) | refine isW64 (IsS64.set_2 ?_ _) | refine isW64 (IsS64.far ?_ NB425_434.out _))) hb); have n3_ := Aside0.mk (blk_below (g := gb434) (o := .cells #[.slice Ao24 t426.length co24, .slice Ao27 t429.length co27] 24 (0, 0)) (by apply kbW; refine blk_put (cs := #[.slice Ao24 t426.length co24, .slice none 0 0]) ?_ 1 _ rfl; apply kbW; refine blk_put (cs := #[.slice none 0 0, .slice none 0 0]) ?_ 0 _ rfl; apply kbW; exact BK434.out) hb); have n4_ := Aside0.mk (below_step (by repeat (first | exact nbW HB.out | refine nbW (below_set ?_ (IsS64.ge HI425.out)) | refine nbW (below_set ?_ GE434.out))) hb); clear HO428; clear HO431; clear HI425; clear BK434; clear HB; have HO428 := n0_; have HO431 := n1_; have HI425 := n2_; have BK434 := n3_; have HB := n4_; clear n0_ n1_ n2_ n3_ n4_; (try clear hb); (try clear hb2); (try clear hk); (try clear hi); have hcz29_0 : w28.cell? ⟨gb434, 0, none⟩ = some (.slice Ao24 t426.length co24) := (blk_cell BK434.out 0).trans rfl; have hcz29_1 : w28.cell? ⟨gb434, 1, none⟩ = some (.slice Ao27 t429.length co27) := (blk_cell BK434.out 1).trans rfl; have hfz29_0 := blk_frozen BK434.out 0; have hfz29_1 := blk_frozen BK434.out 1) | ((with_reducible refine gate_callee (f := 43) rfl ?_); refine gcW 18 Tryz.func43 #[.agg #[.slice Ao24 t426.length co24, .slice Ao27 t429.length co27]] rfl ?_; (with_reducible refine (spec_waText.calls k _ _ t426 _ _ t429 t442 _ ?side1 ?side2 ?side3 ?side4 A5.out).mono ?_); (case side1 => exact cbW (Kd.R_reads' HO428.out).2.2); (case side2 => exact (Kd.R_reads' HO428.out).2.1); (case side3 => exact cbW (Kd.R_reads' HO431.out).2.2); (case side4 => exact (Kd.R_reads' HO431.out).2.1); rintro e w30 ⟨rfl, hb⟩; refine ⟨_, rfl, ?_⟩; have n0_ := Aside0.mk (Kd.R_below (rbW HO428.out) hb); have n1_ := Aside0.mk (Kd.R_below (rbW HO431.out) hb); have n2_ := Aside0.mk (IsS64.below (by repeat (first | exact isW64 HI425.out | refine isW64 (IsS64.set_1 ?_ _) | refine isW64 (IsS64.set_2 ?_ _) | refine isW64 (IsS64.far ?_ NB425_434.out _))) hb); have n3_ := Aside0.mk (blk_below (kbW BK434.out) hb); have n4_ := Aside0.mk (below_step (by repeat (first | exact nbW HB.out | refine nbW (below_set ?_ (IsS64.ge HI425.out)) | refine nbW (below_set ?_ GE434.out))) hb); clear HO428; clear HO431; clear HI425; clear BK434; clear HB; have HO428 := n0_; have HO431 := n1_; have HI425 := n2_; have BK434 := n3_; have HB := n4_; clear n0_ n1_ n2_ n3_ n4_; (try clear hb); (try clear hb2); (try clear hk); (try clear hi)) | ((with_reducible refine gate_callee (f := 53) rfl ?_); refine gcW 20 Tryz.func53 #[.pointer (some ⟨gb425, 0, none⟩), .int .i64 3] rfl ?_; (with_reducible refine (spec_l1Cur_one.calls gb425 l0 t432 t433 3 false t444 t445 w _ ?side1 ?side2 A6.out).mono ?_); (case side1 => repeat (first | exact isW64 HI425.out | refine isW64 (IsS64.set_1 ?_ _) | refine isW64 (IsS64.set_2 ?_ _) | refine isW64 (IsS64.far ?_ NB425_434.out _))); (case side2 => repeat (first | exact nbW HB.out | refine nbW (below_set ?_ (IsS64.ge HI425.out)) | refine nbW (below_set ?_ GE434.out))); rintro e w31 ⟨rfl, hi, hb, hk⟩; refine ⟨_, rfl, ?_⟩; have n0_ := Aside0.mk (Kd.R_mono (Kd.R_keep (IsS64.apart (show IsS64 w _ gb425 l0 t432 t433 from by repeat (first | exact isW64 HI425.out | refine isW64 (IsS64.set_1 ?_ _) | refine isW64 (IsS64.set_2 ?_ _) | refine isW64 (IsS64.far ?_ NB425_434.out _))) (rbW HO428.out) (by decide)) hk (fun _ h => h.2)) (fun _ h => h.1)); have n1_ := Aside0.mk (Kd.R_mono (Kd.R_keep (IsS64.apart (show IsS64 w _ gb425 l0 t432 t433 from by repeat (first | exact isW64 HI425.out | refine isW64 (IsS64.set_1 ?_ _) | refine isW64 (IsS64.set_2 ?_ _) | refine isW64 (IsS64.far ?_ NB425_434.out _))) (rbW HO431.out) (by decide)) hk (fun _ h => h.2)) (fun _ h => h.1)); have n2_ := Aside0.mk (KeepBut.blk hk (g' := gb434) (o := .cells #[.slice Ao24 t426.length co24, .slice Ao27 t429.length co27] 24 (0, 0)) (kbW BK434.out) NB434_425.out (by simp)); have n3_ := Aside0.mk (hb); have n4_ := Aside0.mk (hi); clear HO428; clear HO431; clear BK434; clear HB; clear HI425; have HO428 := n0_; have HO431 := n1_; have BK434 := n2_; have HB := n3_; have HI425 := n4_; clear n0_ n1_ n2_ n3_ n4_; (try clear hb); (try clear hb2); (try clear hk); (try clear hi)))
   go_ret
   exact ⟨by first | rfl | (simp [errW_none, errW_some] <;> rfl) | (simp [*, errW_none, errW_some] <;> rfl), by repeat (first | exact nbW HB.out | refine nbW (below_set ?_ (IsS64.ge HI425.out)) | refine nbW (below_set ?_ GE434.out))⟩
 ·replace c4 := Bool.eq_false_iff.mpr c4
  subst c4
  rw [if_neg (show ¬ (false = true) by decide)] at H
  obtain ⟨y436, hy436⟩ : ∃ y_ : List ByteArray, y_ = (([(⟨#[]⟩ : ByteArray), (⟨#[58]⟩ : ByteArray), (⟨#[45, 58, 45]⟩ : ByteArray), (⟨#[48, 58, 48]⟩ : ByteArray), (⟨#[48, 58, 49]⟩ : ByteArray), (⟨#[49, 58, 48]⟩ : ByteArray), (⟨#[48, 44, 49, 58, 49, 44, 48]⟩ : ByteArray), (⟨#[48, 58, 48, 58, 48]⟩ : ByteArray), (⟨#[48, 44, 48, 58, 48]⟩ : ByteArray)] : List ByteArray)) := ⟨_, rfl⟩
  replace H : ((spec_l1Cur_of.f l0 t432 t433 y436).bind fun bt439 => (some bt439.1)) = some r := by first | (rw [hy436]; with_reducible exact H) | (have H2_ := (Option.bind_some _ _).symm.trans H; rw [hy436]; with_reducible exact H2_) | (have H2_ := (Option.bind_some _ _).symm.trans H; with_reducible exact H2_) | with_reducible exact H | (rw [hy436]; exact H) | exact H
  have Ny436 := Aside0.mk hy436
  clear hy436
  replace H := Option.bind_eq_some_iff.mp H
  obtain ⟨⟨t439, t440, t441⟩, A320, H⟩ := H
  (try dsimp -simprocs only at H)
  have A32 := Aside0.mk A320
  clear A320
  obtain rfl := Option.some.inj H
  go_enter Tryz.func33, Tryz.ntmps33
  go_wp2_with (first | ((with_reducible refine gate_dst (N := 8) rfl ?_); refine box_event ?hg (N := 8) ?hd (cs := #[.slice A0 l0.length c0, .int .i64 0, .int .u64 0]) (t := 64) ?hr ?_; (case hd => rfl); (case hg => rfl); (case hr => first | (go_simp; done) | (go_simp; rfl)); intro gb425 hg w33 hbox hb; have n0_ := Aside0.mk (below_step (nbW HB.out) hb); have n1_ := Aside0.mk (hbox); have n2_ := Aside0.mk ((by rw [hg]; exact (below_size (nbW HB.out)) : w.heap.size ≤ gb425)); have n3_ := Aside0.mk ((by rw [hg]; exact (below_size (nbW HB.out)) : w.heap.size ≤ gb425)); clear HB; have HB := n0_; have BK425 := n1_; have GW425 := n2_; have GE425 := n3_; clear n0_ n1_ n2_ n3_; clear hb hbox hg; have HI425 := Aside0.mk (by unfold IsS64; exact ⟨_, _, BK425.out, GW425.out, HR0.out⟩ : IsS64 w w33 gb425 l0 0 0)) | ((with_reducible refine gate_callee (f := 69) rfl ?_); refine gcW 10 Tryz.func69 #[.pointer (some ⟨gb425, 0, none⟩), .int .i64 6] rfl ?_; (with_reducible refine (spec_l1Cur_walk.calls k gb425 l0 0 0 6 t426 t429 t432 t433 w _ ?side1 ?side2 A2.out).mono ?_); (case side1 => repeat (first | exact isW64 HI425.out | refine isW64 (IsS64.set_1 ?_ _) | refine isW64 (IsS64.set_2 ?_ _))); (case side2 => repeat (first | exact nbW HB.out | refine nbW (below_set ?_ (IsS64.ge HI425.out)))); rintro e w34 ⟨v427, v430, rfl, ho0, ho1, hi, hb, hk⟩; refine ⟨_, rfl, ?_⟩; have n0_ := Aside0.mk (Kd.R_lower ho0 (below_size (by repeat (first | exact nbW HB.out | refine nbW (below_set ?_ (IsS64.ge HI425.out)))))); have n1_ := Aside0.mk (Kd.R_lower ho1 (below_size (by repeat (first | exact nbW HB.out | refine nbW (below_set ?_ (IsS64.ge HI425.out)))))); have n2_ := Aside0.mk (hb); have n3_ := Aside0.mk (hi); clear HB; clear HI425; have HO428 := n0_; have HO431 := n1_; have HB := n2_; have HI425 := n3_; clear n0_ n1_ n2_ n3_; (try clear hb); (try clear hb2); (try clear hk); (try clear hi); (try clear ho0); (try clear ho1)) | ((with_reducible refine gate_dst (N := 4) rfl ?_); refine box_event ?hg (N := 4) ?hd (cs := #[.slice none 0 0, .slice none 0 0]) (t := 24) ?hr ?_; (case hd => rfl); (case hg => rfl); (case hr => first | (go_simp; done) | (go_simp; rfl)); intro gb434 hg w35 hbox hb; have n0_ := Aside0.mk (Kd.R_below (rbW HO428.out) hb); have n1_ := Aside0.mk (Kd.R_below (rbW HO431.out) hb); have n2_ := Aside0.mk (IsS64.below (by repeat (first | exact isW64 HI425.out | refine isW64 (IsS64.set_1 ?_ _) | refine isW64 (IsS64.set_2 ?_ _))) hb); have n3_ := Aside0.mk (below_step (by repeat (first | exact nbW HB.out | refine nbW (below_set ?_ (IsS64.ge HI425.out)))) hb); have n4_ := Aside0.mk (hbox); have n5_ := Aside0.mk ((by rw [hg]; exact (below_size (by repeat (first | exact nbW HB.out | refine nbW (below_set ?_ (IsS64.ge HI425.out))))) : w.heap.size ≤ gb434)); have n6_ := Aside0.mk ((by rw [hg]; exact (below_size (by repeat (first | exact nbW HB.out | refine nbW (below_set ?_ (IsS64.ge HI425.out))))) : w.heap.size ≤ gb434)); have n7_ := Aside0.mk ((by rw [hg]; exact Nat.ne_of_lt (IsS64.lt (show IsS64 w _ gb425 l0 t432 t433 from by repeat (first | exact isW64 HI425.out | refine isW64 (IsS64.set_1 ?_ _) | refine isW64 (IsS64.set_2 ?_ _)))) : gb425 ≠ gb434)); have n8_ := Aside0.mk ((by rw [hg]; exact Nat.ne_of_gt (IsS64.lt (show IsS64 w _ gb425 l0 t432 t433 from by repeat (first | exact isW64 HI425.out | refine isW64 (IsS64.set_1 ?_ _) | refine isW64 (IsS64.set_2 ?_ _)))) : gb434 ≠ gb425)); clear HO428; clear HO431; clear HI425; clear HB; have HO428 := n0_; have HO431 := n1_; have HI425 := n2_; have HB := n3_; have BK434 := n4_; have GW434 := n5_; have GE434 := n6_; have NB425_434 := n7_; have NB434_425 := n8_; clear n0_ n1_ n2_ n3_ n4_ n5_ n6_ n7_ n8_; clear hb hbox hg; obtain ⟨Ao36, co36, eo36⟩ := Kd.R_slice HO428.out; subst eo36; have hnb37 := NB434_425.out; have hnc37 := NB425_434.out; have hcz38_0 : w35.cell? ⟨gb434, 0, none⟩ = some (.slice none 0 0) := (blk_cell BK434.out 0).trans rfl; have hcz38_1 : w35.cell? ⟨gb434, 1, none⟩ = some (.slice none 0 0) := (blk_cell BK434.out 1).trans rfl; have hfz38_0 := blk_frozen BK434.out 0; have hfz38_1 := blk_frozen BK434.out 1; obtain ⟨Ao39, co39, eo39⟩ := Kd.R_slice HO431.out; subst eo39) | ((with_reducible refine gate_callee (f := 42) rfl ?_); refine gcW 12 Tryz.func42 #[.agg #[.slice Ao36 t426.length co36, .slice Ao39 t429.length co39]] rfl ?_; (with_reducible refine (spec_waGood.calls k _ _ t426 _ _ t429 false _ ?side1 ?side2 ?side3 ?side4 A3.out).mono ?_); (case side1 => refine (Kd.R_reads' (e := 3) (base := w.heap.size) (ok := fun k_ => some k_ ≠ (.slice Ao39 t429.length co39 : Value).ownBlock) (n := t426.length) (c := co36) ?_).2.2; exact (by apply rbW; exact (Kd.R_mono (Kd.R_far (p := ⟨gb434, 1, none⟩) (Kd.R_far (p := ⟨gb434, 0, none⟩) (Kd.R_types HO428.out BK434.out (by decide)) (fun _ hk => hk.2) (.slice Ao36 t426.length co36)) (fun _ hk => hk.2) (.slice Ao39 t429.length co39)) (fun _ h_ => h_.1)))); (case side2 => exact (Kd.R_reads' HO428.out).2.1); (case side3 => refine (Kd.R_reads' (e := 3) (base := w.heap.size) (ok := fun k_ => some k_ ≠ (.slice Ao36 t426.length co36 : Value).ownBlock) (n := t429.length) (c := co39) ?_).2.2; exact (by apply rbW; exact (Kd.R_mono (Kd.R_far (p := ⟨gb434, 1, none⟩) (Kd.R_far (p := ⟨gb434, 0, none⟩) (Kd.R_types HO431.out BK434.out (by decide)) (fun _ hk => hk.2) (.slice Ao36 t426.length co36)) (fun _ hk => hk.2) (.slice Ao39 t429.length co39)) (fun _ h_ => h_.1)))); (case side4 => exact (Kd.R_reads' HO431.out).2.1); rintro e w40 ⟨rfl, hb⟩; refine ⟨_, rfl, ?_⟩; have n0_ := Aside0.mk (Kd.R_below (by apply rbW; exact (Kd.R_mono (Kd.R_far (p := ⟨gb434, 1, none⟩) (Kd.R_far (p := ⟨gb434, 0, none⟩) (Kd.R_types HO428.out BK434.out (by decide)) (fun _ hk => hk.2) (.slice Ao36 t426.length co36)) (fun _ hk => hk.2) (.slice Ao39 t429.length co39)) (fun _ h_ => h_.1))) hb); have n1_ := Aside0.mk (Kd.R_below (by apply rbW; exact (Kd.R_mono (Kd.R_far (p := ⟨gb434, 1, none⟩) (Kd.R_far (p := ⟨gb434, 0, none⟩) (Kd.R_types HO431.out BK434.out (by decide)) (fun _ hk => hk.2) (.slice Ao36 t426.length co36)) (fun _ hk => hk.2) (.slice Ao39 t429.length co39)) (fun _ h_ => h_.1))) hb); have n2_ := Aside0.mk (IsS64.below (show IsS64 w ((w35.setCell ⟨gb434, 0, none⟩ (.slice Ao36 t426.length co36)).setCell ⟨gb434, 1, none⟩ (.slice Ao39 t429.length co39)) gb425 l0 t432 t433 from by repeat (first | exact isW64 HI425.out | refine isW64 (IsS64.set_1 ?_ _) | refine isW64 (IsS64.set_2 ?_ _) | refine isW64 (IsS64.far ?_ NB425_434.out _))) hb); have n3_ := Aside0.mk (blk_below (g := gb434) (o := .cells #[.slice Ao36 t426.length co36, .slice Ao39 t429.length co39] 24 (0, 0)) (by apply kbW; refine blk_put (cs := #[.slice Ao36 t426.length co36, .slice none 0 0]) ?_ 1 _ rfl; apply kbW; refine blk_put (cs := #[.slice none 0 0, .slice none 0 0]) ?_ 0 _ rfl; apply kbW; exact BK434.out) hb); have n4_ := Aside0.mk (below_step (by repeat (first | exact nbW HB.out | refine nbW (below_set ?_ (IsS64.ge HI425.out)) | refine nbW (below_set ?_ GE434.out))) hb); clear HO428; clear HO431; clear HI425; clear BK434; clear HB; have HO428 := n0_; have HO431 := n1_; have HI425 := n2_; have BK434 := n3_; have HB := n4_; clear n0_ n1_ n2_ n3_ n4_; (try clear hb); (try clear hb2); (try clear hk); (try clear hi)) | ((with_reducible refine gate_dst (N := 15) rfl ?_); refine Kd.R_lit Kd.string _ 9 ?hg (N := 15) ?hd (xs := ([(⟨#[]⟩ : ByteArray), (⟨#[58]⟩ : ByteArray), (⟨#[45, 58, 45]⟩ : ByteArray), (⟨#[48, 58, 48]⟩ : ByteArray), (⟨#[48, 58, 49]⟩ : ByteArray), (⟨#[49, 58, 48]⟩ : ByteArray), (⟨#[48, 44, 49, 58, 49, 44, 48]⟩ : ByteArray), (⟨#[48, 58, 48, 58, 48]⟩ : ByteArray), (⟨#[48, 44, 48, 58, 48]⟩ : ByteArray)] : List ByteArray)) (inner := [.string (⟨#[]⟩ : ByteArray), .string (⟨#[58]⟩ : ByteArray), .string (⟨#[45, 58, 45]⟩ : ByteArray), .string (⟨#[48, 58, 48]⟩ : ByteArray), .string (⟨#[48, 58, 49]⟩ : ByteArray), .string (⟨#[49, 58, 48]⟩ : ByteArray), .string (⟨#[48, 44, 49, 58, 49, 44, 48]⟩ : ByteArray), .string (⟨#[48, 58, 48, 58, 48]⟩ : ByteArray), .string (⟨#[48, 44, 48, 58, 48]⟩ : ByteArray)]) (ok := fun _ => True) (okp := fun _ => True) ?hr ?hp (fun _ hk => hk) trivial (Below.refl _ _) (Nat.le_refl _) (by simp) ?_; (case hd => rfl); (case hg => rfl); (case hr => first | (go_simp; done) | (go_simp; rfl)); (case hp => exact (Reps.one (show Kd.M Kd.string _ _ _ (⟨#[]⟩ : ByteArray) [.string (⟨#[]⟩ : ByteArray)] from rfl) (Reps.one (show Kd.M Kd.string _ _ _ (⟨#[58]⟩ : ByteArray) [.string (⟨#[58]⟩ : ByteArray)] from rfl) (Reps.one (show Kd.M Kd.string _ _ _ (⟨#[45, 58, 45]⟩ : ByteArray) [.string (⟨#[45, 58, 45]⟩ : ByteArray)] from rfl) (Reps.one (show Kd.M Kd.string _ _ _ (⟨#[48, 58, 48]⟩ : ByteArray) [.string (⟨#[48, 58, 48]⟩ : ByteArray)] from rfl) (Reps.one (show Kd.M Kd.string _ _ _ (⟨#[48, 58, 49]⟩ : ByteArray) [.string (⟨#[48, 58, 49]⟩ : ByteArray)] from rfl) (Reps.one (show Kd.M Kd.string _ _ _ (⟨#[49, 58, 48]⟩ : ByteArray) [.string (⟨#[49, 58, 48]⟩ : ByteArray)] from rfl) (Reps.one (show Kd.M Kd.string _ _ _ (⟨#[48, 44, 49, 58, 49, 44, 48]⟩ : ByteArray) [.string (⟨#[48, 44, 49, 58, 49, 44, 48]⟩ : ByteArray)] from rfl) (Reps.one (show Kd.M Kd.string _ _ _ (⟨#[48, 58, 48, 58, 48]⟩ : ByteArray) [.string (⟨#[48, 58, 48, 58, 48]⟩ : ByteArray)] from rfl) (Reps.one (show Kd.M Kd.string _ _ _ (⟨#[48, 44, 48, 58, 48]⟩ : ByteArray) [.string (⟨#[48, 44, 48, 58, 48]⟩ : ByteArray)] from rfl) (Reps.none _ _))))))))))); intro v437 w41 ho42 hb hg_ hnew_; clear hg_ hnew_; (first | rw [← Ny436.out] at ho42 | (simp only [Int.reduceToNat] at ho42; rw [← Ny436.out] at ho42)); have n0_ := Aside0.mk (Kd.R_below (rbW HO428.out) hb); have n1_ := Aside0.mk (Kd.R_below (rbW HO431.out) hb); have n2_ := Aside0.mk (Kd.R_lower ho42 (below_size (by repeat (first | exact nbW HB.out | refine nbW (below_set ?_ (IsS64.ge HI425.out)) | refine nbW (below_set ?_ GE434.out))))); have n3_ := Aside0.mk (IsS64.below (by repeat (first | exact isW64 HI425.out | refine isW64 (IsS64.set_1 ?_ _) | refine isW64 (IsS64.set_2 ?_ _) | refine isW64 (IsS64.far ?_ NB425_434.out _))) hb); have n4_ := Aside0.mk (blk_below (kbW BK434.out) hb); have n5_ := Aside0.mk (below_step (by repeat (first | exact nbW HB.out | refine nbW (below_set ?_ (IsS64.ge HI425.out)) | refine nbW (below_set ?_ GE434.out))) hb); clear HO428; clear HO431; clear HI425; clear BK434; clear HB; have HO428 := n0_; have HO431 := n1_; have HO438 := n2_; have HI425 := n3_; have BK434 := n4_; have HB := n5_; clear n0_ n1_ n2_ n3_ n4_ n5_; clear hb ho42; obtain ⟨Ao43, co43, eo43⟩ := Kd.R_slice HO438.out; subst eo43) | ((with_reducible refine gate_callee (f := 64) rfl ?_); refine gcW 16 Tryz.func64 #[.pointer (some ⟨gb425, 0, none⟩), .slice Ao43 y436.length co43] rfl ?_; (with_reducible refine (spec_l1Cur_of.calls gb425 l0 t432 t433 _ _ y436 t439 t440 t441 w _ ?side1 ?side2 ?side3 ?side4 ?side5 A32.out).mono ?_); (case side1 => repeat (first | exact isW64 HI425.out | refine isW64 (IsS64.set_1 ?_ _) | refine isW64 (IsS64.set_2 ?_ _) | refine isW64 (IsS64.far ?_ NB425_434.out _))); (case side2 => repeat (first | exact nbW HB.out | refine nbW (below_set ?_ (IsS64.ge HI425.out)) | refine nbW (below_set ?_ GE434.out))); (case side3 => exact cbW (Kd.R_reads' HO438.out).2.2); (case side4 => exact (Kd.R_reads' HO438.out).2.1); (case side5 => exact far_slice (IsS64.own_ne HI425.out HO438.out (by decide))); rintro e w44 ⟨rfl, hi, hb, hk⟩; refine ⟨_, rfl, ?_⟩; have n0_ := Aside0.mk (Kd.R_mono (Kd.R_keep (IsS64.apart (show IsS64 w _ gb425 l0 t432 t433 from by repeat (first | exact isW64 HI425.out | refine isW64 (IsS64.set_1 ?_ _) | refine isW64 (IsS64.set_2 ?_ _) | refine isW64 (IsS64.far ?_ NB425_434.out _))) (rbW HO428.out) (by decide)) hk (fun _ h => h.2)) (fun _ h => h.1)); have n1_ := Aside0.mk (Kd.R_mono (Kd.R_keep (IsS64.apart (show IsS64 w _ gb425 l0 t432 t433 from by repeat (first | exact isW64 HI425.out | refine isW64 (IsS64.set_1 ?_ _) | refine isW64 (IsS64.set_2 ?_ _) | refine isW64 (IsS64.far ?_ NB425_434.out _))) (rbW HO431.out) (by decide)) hk (fun _ h => h.2)) (fun _ h => h.1)); have n2_ := Aside0.mk (KeepBut.blk hk (g' := gb434) (o := .cells #[.slice Ao36 t426.length co36, .slice Ao39 t429.length co39] 24 (0, 0)) (kbW BK434.out) NB434_425.out (by simp)); have n3_ := Aside0.mk (Kd.R_mono (Kd.R_keep (IsS64.apart (show IsS64 w _ gb425 l0 t432 t433 from by repeat (first | exact isW64 HI425.out | refine isW64 (IsS64.set_1 ?_ _) | refine isW64 (IsS64.set_2 ?_ _) | refine isW64 (IsS64.far ?_ NB425_434.out _))) (rbW HO438.out) (by decide)) hk (fun _ h => h.2)) (fun _ h => h.1)); have n4_ := Aside0.mk (hb); have n5_ := Aside0.mk (hi); clear HO428; clear HO431; clear BK434; clear HO438; clear HB; clear HI425; have HO428 := n0_; have HO431 := n1_; have BK434 := n2_; have HO438 := n3_; have HB := n4_; have HI425 := n5_; clear n0_ n1_ n2_ n3_ n4_ n5_; (try clear hb); (try clear hb2); (try clear hk); (try clear hi)))
  go_ret
  exact ⟨by first | rfl | (simp [errW_none, errW_some] <;> rfl) | (simp [*, errW_none, errW_some] <;> rfl), by repeat (first | exact nbW HB.out | refine nbW (below_set ?_ (IsS64.ge HI425.out)) | refine nbW (below_set ?_ GE434.out))⟩

/-! ### spec_DrawCountLabels: function 34 -/
def spec_DrawCountLabels.f (k : Nat) (l0 : List Int) : Option (List Int) := (spec_l1Cur_heights.f k l0 0 0 8).bind fun bt450 => (some bt450.1)
theorem spec_DrawCountLabels.mono : ∀ a0 k, LeO (spec_DrawCountLabels.f k a0) (spec_DrawCountLabels.f (k + 1) a0) := by
 intro a0 k
 unfold spec_DrawCountLabels.f
 repeat' first | (with_reducible first | exact spec_l1Cur_heights.mono _ _ _ _ _ | exact LeO.refl _ | exact LeO.none _ | refine LeO.ite ?_ ?_ | refine LeO.bind ?_ (fun _ => ?_)) | exact LeO.none _ | refine LeO.ite ?_ ?_ | refine LeO.bind ?_ (fun _ => ?_)
set_option maxHeartbeats 8000000 in
set_option maxRecDepth 100000 in
theorem spec_DrawCountLabels.calls (k : Nat) (A0 : Option Addr) (c0 : Nat) (l0 : List Int) (r : List Int) (w : World) (hr0 : Kd.C (Kd.int .u8) w A0 l0.length l0) (hc0 : l0.length ≤ c0) (h : spec_DrawCountLabels.f k l0 = some r) :
  Calls Tryz.prog 34 #[.slice A0 l0.length c0] w fun e w' => ∃ v0_ : Value, e = .returned (v0_) ∧ Kd.R (Kd.int .i64) 3 w' w.heap.size (fun _ => True) v0_ r ∧ Below w.heap.size w w' := by
 have hu64 := Tryz.underlying64
 have HR0 := Aside0.mk hr0
 have HC0 := Aside0.mk hc0
 clear hr0 hc0
 have HB := Aside0.mk (Below.refl w.heap.size w)
 have H : ((spec_l1Cur_heights.f k l0 0 0 8).bind fun bt450 => (some bt450.1)) = some r := h
 clear h
 replace H := Option.bind_eq_some_iff.mp H
 obtain ⟨⟨t450, t453, t454⟩, A20, H⟩ := H
 (try dsimp -simprocs only at H)
 have A2 := Aside0.mk A20
 clear A20
 obtain rfl := Option.some.inj H
 go_enter Tryz.func34, Tryz.ntmps34
 go_wp2_with (first | ((with_reducible refine gate_dst (N := 6) rfl ?_); refine box_event ?hg (N := 6) ?hd (cs := #[.slice A0 l0.length c0, .int .i64 0, .int .u64 0]) (t := 64) ?hr ?_; (case hd => rfl); (case hg => rfl); (case hr => first | (go_simp; done) | (go_simp; rfl)); intro gb449 hg w3 hbox hb; have n0_ := Aside0.mk (below_step (nbW HB.out) hb); have n1_ := Aside0.mk (hbox); have n2_ := Aside0.mk ((by rw [hg]; exact (below_size (nbW HB.out)) : w.heap.size ≤ gb449)); have n3_ := Aside0.mk ((by rw [hg]; exact (below_size (nbW HB.out)) : w.heap.size ≤ gb449)); clear HB; have HB := n0_; have BK449 := n1_; have GW449 := n2_; have GE449 := n3_; clear n0_ n1_ n2_ n3_; clear hb hbox hg; have HI449 := Aside0.mk (by unfold IsS64; exact ⟨_, _, BK449.out, GW449.out, HR0.out⟩ : IsS64 w w3 gb449 l0 0 0)) | ((with_reducible refine gate_callee (f := 70) rfl ?_); refine gcW 8 Tryz.func70 #[.pointer (some ⟨gb449, 0, none⟩), .int .i64 8] rfl ?_; (with_reducible refine (spec_l1Cur_heights.calls k gb449 l0 0 0 8 t450 t453 t454 w _ ?side1 ?side2 A2.out).mono ?_); (case side1 => repeat (first | exact isW64 HI449.out | refine isW64 (IsS64.set_1 ?_ _) | refine isW64 (IsS64.set_2 ?_ _))); (case side2 => repeat (first | exact nbW HB.out | refine nbW (below_set ?_ (IsS64.ge HI449.out)))); rintro e w4 ⟨v451, rfl, ho0, hi, hb, hk⟩; refine ⟨_, rfl, ?_⟩; have n0_ := Aside0.mk (Kd.R_lower ho0 (below_size (by repeat (first | exact nbW HB.out | refine nbW (below_set ?_ (IsS64.ge HI449.out)))))); have n1_ := Aside0.mk (hb); have n2_ := Aside0.mk (hi); clear HB; clear HI449; have HO452 := n0_; have HB := n1_; have HI449 := n2_; clear n0_ n1_ n2_; (try clear hb); (try clear hb2); (try clear hk); (try clear hi); (try clear ho0)))
 go_ret
 exact ⟨_, by first | rfl | (simp [errW_none, errW_some] <;> rfl) | (simp [*, errW_none, errW_some] <;> rfl), by apply rbW; exact HO452.out, by repeat (first | exact nbW HB.out | refine nbW (below_set ?_ (IsS64.ge HI449.out)))⟩

end Go.Proofs.YtlknoidcopkmfaaGreatDoor.PFnWalkTexts
