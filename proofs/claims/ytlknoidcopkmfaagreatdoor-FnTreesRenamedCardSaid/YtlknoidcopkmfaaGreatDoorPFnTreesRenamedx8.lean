-- Written by a program of this session for this claim (its own turn of the print).
import Derived.Test.YtlknoidcopkmfaaGreatDoorPFnTreesRenamedx0
import Derived.Test.YtlknoidcopkmfaaGreatDoorPFnTreesRenamedx1
import Derived.Test.YtlknoidcopkmfaaGreatDoorPFnTreesRenamedx2
import Derived.Test.YtlknoidcopkmfaaGreatDoorPFnTreesRenamedx3
import Derived.Test.YtlknoidcopkmfaaGreatDoorPFnTreesRenamedx5
import Derived.Test.YtlknoidcopkmfaaGreatDoorPFnTreesRenamedx7
namespace Go.Proofs.YtlknoidcopkmfaaGreatDoor.PFnTreesRenamed
open Go.RowKit Go.Proofs.YtlknoidcopkmfaaGreatDoorW.PrintWords Go.Proofs.YtlknoidcopkmfaaGreatDoorW.PrintLast Go.Proofs.YtlknoidcopkmfaaGreatDoorW.PrintMore
attribute [local go_sem] max2_int min2_int max_two min_two max_three min_three max_four min_four   -- for this text's walks alone
set_option linter.unusedVariables false
set_option linter.unusedSimpArgs false

/-! ### spec_DrawRerootTree: function 18 -/
def spec_DrawRerootTree.j0 : Nat → List Int → Int → Bool → List Int → Int → Int → Option (List Int × Int)
 | 0, _, _, _, _, _, _ => none
 | k + 1, x5, x6, x29, x374000, x374001, x374002 => if x29 = true then ((spec_trNear.f k x5 0).bind fun t386 => ((spec_l1Cur_pick.f x374000 x374001 x374002 (t386.length : Int)).bind fun bt389 => (if 0 ≤ bt389.1 then (if bt389.1 < (t386.length : Int) then (some (x5, rd t386 bt389.1)) else (none)) else (none)))) else (some (x5, x6))
def spec_DrawRerootTree.f (k : Nat) (l0 : List Int) : Option (List Int × Int) := (spec_l1Cur_tree.f k l0 0 0 7).bind fun bt374 => ((spec_l1Cur_pick.f l0 bt374.2.1 bt374.2.2 (wrap64 ((bt374.1.length : Int) + 3))).bind fun bt379 => ((spec_trGood.f k bt374.1).bind fun t382 => (if t382 = true then (if (bt374.1.length : Int) > 0 then ((spec_l1Cur_one.f l0 bt379.2.1 bt379.2.2 2).bind fun bt383 => (spec_DrawRerootTree.j0 k bt374.1 (wrap64 (bt379.1 - 1)) bt383.1 l0 bt383.2.1 bt383.2.2)) else (spec_DrawRerootTree.j0 k bt374.1 (wrap64 (bt379.1 - 1)) false l0 bt379.2.1 bt379.2.2)) else (spec_DrawRerootTree.j0 k bt374.1 (wrap64 (bt379.1 - 1)) false l0 bt379.2.1 bt379.2.2))))
theorem spec_DrawRerootTree.mono_l : ∀ k, (∀ y0 y1 y2 y3 y4 y5, LeO (spec_DrawRerootTree.j0 k y0 y1 y2 y3 y4 y5) (spec_DrawRerootTree.j0 (k + 1) y0 y1 y2 y3 y4 y5))
 | 0 => fun _ _ _ _ _ _ r h => by simp [spec_DrawRerootTree.j0] at h
 | k + 1 => by
  have ih0 := spec_DrawRerootTree.mono_l k
  ·intro y0 y1 y2 y3 y4 y5
   unfold spec_DrawRerootTree.j0
   repeat' first | (with_reducible first | exact ih0 _ _ _ _ _ _ | exact spec_l1Cur_tree.mono _ _ _ _ _ | exact spec_trGood.mono _ _ | exact spec_trNear.mono _ _ _ | exact LeO.refl _ | exact LeO.none _ | refine LeO.ite ?_ ?_ | refine LeO.bind ?_ (fun _ => ?_)) | exact LeO.none _ | refine LeO.ite ?_ ?_ | refine LeO.bind ?_ (fun _ => ?_)
theorem spec_DrawRerootTree.mono : ∀ a0 k, LeO (spec_DrawRerootTree.f k a0) (spec_DrawRerootTree.f (k + 1) a0) := by
 intro a0 k
 have ih0 := spec_DrawRerootTree.mono_l k
 unfold spec_DrawRerootTree.f
 repeat' first | (with_reducible first | exact ih0 _ _ _ _ _ _ | exact spec_l1Cur_tree.mono _ _ _ _ _ | exact spec_trGood.mono _ _ | exact spec_trNear.mono _ _ _ | exact LeO.refl _ | exact LeO.none _ | refine LeO.ite ?_ ?_ | refine LeO.bind ?_ (fun _ => ?_)) | exact LeO.none _ | refine LeO.ite ?_ ?_ | refine LeO.bind ?_ (fun _ => ?_)
set_option maxHeartbeats 8000000 in
set_option maxRecDepth 100000 in
theorem spec_DrawRerootTree.calls (k : Nat) (A0 : Option Addr) (c0 : Nat) (l0 : List Int) (r1 : List Int) (r2 : Int) (w : World) (hr0 : Kd.C (Kd.int .u8) w A0 l0.length l0) (hc0 : l0.length ≤ c0) (h : spec_DrawRerootTree.f k l0 = some (r1, r2)) :
  Calls Tryz.prog 18 #[.slice A0 l0.length c0] w fun e w' => ∃ v0_ : Value, e = .returned (.tuple #[v0_, .int .i64 r2]) ∧ Kd.R (Kd.int .i64) 3 w' w.heap.size (fun _ => True) v0_ r1 ∧ Below w.heap.size w w' := by
 have hu64 := Tryz.underlying64
 have HR0 := Aside0.mk hr0
 have HC0 := Aside0.mk hc0
 clear hr0 hc0
 have HB := Aside0.mk (Below.refl w.heap.size w)
 have H : ((spec_l1Cur_tree.f k l0 0 0 7).bind fun bt374 => ((spec_l1Cur_pick.f l0 bt374.2.1 bt374.2.2 (wrap64 ((bt374.1.length : Int) + 3))).bind fun bt379 => ((spec_trGood.f k bt374.1).bind fun t382 => (if t382 = true then (if (bt374.1.length : Int) > 0 then ((spec_l1Cur_one.f l0 bt379.2.1 bt379.2.2 2).bind fun bt383 => (spec_DrawRerootTree.j0 k bt374.1 (wrap64 (bt379.1 - 1)) bt383.1 l0 bt383.2.1 bt383.2.2)) else (spec_DrawRerootTree.j0 k bt374.1 (wrap64 (bt379.1 - 1)) false l0 bt379.2.1 bt379.2.2)) else (spec_DrawRerootTree.j0 k bt374.1 (wrap64 (bt379.1 - 1)) false l0 bt379.2.1 bt379.2.2))))) = some (r1, r2) := h
 clear h
 replace H := Option.bind_eq_some_iff.mp H
 obtain ⟨⟨t374, t377, t378⟩, A20, H⟩ := H
 (try dsimp -simprocs only at H)
 have A2 := Aside0.mk A20
 clear A20
 replace H := Option.bind_eq_some_iff.mp H
 obtain ⟨⟨t379, t380, t381⟩, A30, H⟩ := H
 (try dsimp -simprocs only at H)
 have A3 := Aside0.mk A30
 clear A30
 have HC4 := Aside0.mk H
 clear H
 go_enter Tryz.func18, Tryz.ntmps18
 go_upto_region 4 with (first | ((with_reducible refine gate_dst (N := 10) rfl ?_); (try (refine gate_guard (by rfl) ?_; dsimp only)); refine box_event ?hg (N := 10) ?hd (cs := #[.slice A0 l0.length c0, .int .i64 0, .int .u64 0]) (t := 64) ?hr ?_; (case hd => rfl); (case hg => rfl); (case hr => first | (go_simp; done) | (go_simp; rfl)); intro gb373 hg w5 hbox hb; have n0_ := Aside0.mk (below_step (nbW HB.out) hb); have n1_ := Aside0.mk (hbox); have n2_ := Aside0.mk ((by rw [hg]; exact (below_size (nbW HB.out)) : w.heap.size ≤ gb373)); have n3_ := Aside0.mk ((by rw [hg]; exact (below_size (nbW HB.out)) : w.heap.size ≤ gb373)); clear HB; have HB := n0_; have BK373 := n1_; have GW373 := n2_; have GE373 := n3_; clear n0_ n1_ n2_ n3_; clear hb hbox hg; have HI373 := Aside0.mk (by unfold IsS64; exact ⟨_, _, BK373.out, GW373.out, HR0.out⟩ : IsS64 w w5 gb373 l0 0 0)) | ((with_reducible refine gate_callee (f := 50) rfl ?_); refine gcW 12 Tryz.func50 #[.pointer (some ⟨gb373, 0, none⟩), .int .i64 7] rfl ?_; (with_reducible refine (spec_l1Cur_tree.calls k gb373 l0 0 0 7 t374 t377 t378 w _ ?side1 ?side2 A2.out).mono ?_); (case side1 => repeat (first | (with_reducible first | exact HI373.out | apply IsS64.alloc | apply IsS64.drewN | apply IsS64.drew | apply IsS64.set_1 | apply IsS64.set_2) | exact HI373.out)); (case side2 => repeat (first | (with_reducible first | exact HB.out | apply below_alloc | apply pw_below_drewN | apply below_drew1 | refine below_set ?_ (IsS64.ge HI373.out)) | exact HB.out)); rintro e w6 ⟨v375, rfl, ho0, hi, hb, hk⟩; refine ⟨_, rfl, ?_⟩; have n0_ := Aside0.mk (Kd.R_lower ho0 (below_size (by repeat (first | exact nbW HB.out | refine nbW (below_set ?_ (IsS64.ge HI373.out)))))); have n1_ := Aside0.mk (hb); have n2_ := Aside0.mk (hi); clear HB; clear HI373; have HO376 := n0_; have HB := n1_; have HI373 := n2_; clear n0_ n1_ n2_; (try clear hb); (try clear hb2); (try clear hk); (try clear hi); (try clear ho0); obtain ⟨Ao7, co7, eo7⟩ := Kd.R_slice HO376.out; subst eo7) | ((with_reducible refine gate_callee (f := 51) rfl ?_); refine gcW 17 Tryz.func51 #[.pointer (some ⟨gb373, 0, none⟩), .int .i64 (wrap64 ((t374.length : Int) + 3))] rfl ?_; (with_reducible refine (spec_l1Cur_pick.calls gb373 l0 t377 t378 (wrap64 ((t374.length : Int) + 3)) t379 t380 t381 w _ ?side1 ?side2 A3.out).mono ?_); (case side1 => repeat (first | (with_reducible first | exact HI373.out | apply IsS64.alloc | apply IsS64.drewN | apply IsS64.drew | apply IsS64.set_1 | apply IsS64.set_2) | exact HI373.out)); (case side2 => repeat (first | (with_reducible first | exact HB.out | apply below_alloc | apply pw_below_drewN | apply below_drew1 | refine below_set ?_ (IsS64.ge HI373.out)) | exact HB.out)); rintro e w8 ⟨rfl, hi, hb, hk⟩; refine ⟨_, rfl, ?_⟩; have n0_ := Aside0.mk (Kd.R_mono (Kd.R_keep (IsS64.apart (show IsS64 w _ gb373 l0 t377 t378 from by repeat (first | (with_reducible first | exact HI373.out | apply IsS64.alloc | apply IsS64.drewN | apply IsS64.drew | apply IsS64.set_1 | apply IsS64.set_2) | exact HI373.out)) (rbW HO376.out) (by decide)) hk (fun _ h => h.2)) (fun _ h => h.1)); have n1_ := Aside0.mk (hb); have n2_ := Aside0.mk (hi); clear HO376; clear HB; clear HI373; have HO376 := n0_; have HB := n1_; have HI373 := n2_; clear n0_ n1_ n2_; (try clear hb); (try clear hb2); (try clear hk); (try clear hi)))
 (try simp only [Act.put, List.setIfInBounds_toArray, List.set_cons_zero, List.set_cons_succ])
 go_cut [29] (fun v29 wc => ∃ (kq : Nat) (x29_3 : Bool) (x374001_3 : Int) (x374002_3 : Int), v29 = .bool x29_3 ∧ Aside0 (spec_DrawRerootTree.j0 kq t374 (wrap64 (t379 - 1)) x29_3 l0 x374001_3 x374002_3 = some (r1, r2)) ∧ Aside0 (kq ≤ k) ∧ Aside0 (Kd.R (Kd.int .i64) 3 wc w.heap.size (fun _ => True) (.slice Ao7 t374.length co7) t374) ∧ Aside0 (IsS64 w wc gb373 l0 x374001_3 x374002_3) ∧ Aside0 (Below w.heap.size w wc))
 case first =>
  have H := HC4.out
  clear HC4
  replace H := Option.bind_eq_some_iff.mp H
  obtain ⟨t382, A90, H⟩ := H
  (try dsimp -simprocs only at H)
  have A9 := Aside0.mk A90
  clear A90
  by_cases c10 : t382 = true
  ·subst c10
   have H1 : (if (t374.length : Int) > 0 then ((spec_l1Cur_one.f l0 t380 t381 2).bind fun bt383 => (spec_DrawRerootTree.j0 k t374 (wrap64 (t379 - 1)) bt383.1 l0 bt383.2.1 bt383.2.2)) else (spec_DrawRerootTree.j0 k t374 (wrap64 (t379 - 1)) false l0 t380 t381)) = some (r1, r2) := by rw [if_pos rfl] at H; exact H
   clear H
   have H := H1
   clear H1
   by_cases c11 : (t374.length : Int) > 0
   ·rw [if_pos c11] at H
    have c11b0 := decide_eq_true c11
    have c11b1 : decide (0 < t374.length) = true := decide_eq_true (by omega)
    clear c11
    (first | rw [c11b0] | (simp only [i64_w, i32_w]; rw [c11b0]) | rw [c11b1] | skip)
    replace H := Option.bind_eq_some_iff.mp H
    obtain ⟨⟨t383, t384, t385⟩, A120, H⟩ := H
    (try dsimp -simprocs only at H)
    have A12 := Aside0.mk A120
    clear A120
    have H' := Aside0.mk H
    clear H
    go_wp2_with (first | ((with_reducible refine gate_callee (f := 56) rfl ?_); refine gcW 20 Tryz.func56 #[.slice Ao7 t374.length co7] rfl ?_; (with_reducible refine (spec_trGood.calls k _ _ t374 true _ ?side1 ?side2 A9.out).mono ?_); (case side1 => exact cbW (Kd.R_reads' HO376.out).2.2); (case side2 => exact (Kd.R_reads' HO376.out).2.1); rintro e w' ⟨rfl, ⟨nd, rfl⟩⟩; refine ⟨_, rfl, ?_⟩) | (go_at_call 53; (with_reducible refine (spec_l1Cur_one.calls gb373 l0 t380 t381 2 t383 t384 t385 w _ ?side1 ?side2 A12.out).mono ?_); (case side1 => repeat (first | (with_reducible first | exact HI373.out | apply IsS64.alloc | apply IsS64.drewN | apply IsS64.drew | apply IsS64.set_1 | apply IsS64.set_2) | exact HI373.out)); (case side2 => repeat (first | (with_reducible first | exact HB.out | apply below_alloc | apply pw_below_drewN | apply below_drew1 | refine below_set ?_ (IsS64.ge HI373.out)) | exact HB.out)); rintro e w13 ⟨rfl, hi, hb, hk⟩; have n0_ := Aside0.mk (Kd.R_mono (Kd.R_keep (IsS64.apart (show IsS64 w _ gb373 l0 t380 t381 from by repeat (first | (with_reducible first | exact HI373.out | apply IsS64.alloc | apply IsS64.drewN | apply IsS64.drew | apply IsS64.set_1 | apply IsS64.set_2) | exact HI373.out)) (rbW HO376.out) (by decide)) hk (fun _ h => h.2)) (fun _ h => h.1)); have n1_ := Aside0.mk (hb); have n2_ := Aside0.mk (hi); clear HO376; clear HB; clear HI373; have HO376 := n0_; have HB := n1_; have HI373 := n2_; clear n0_ n1_ n2_; (try clear hb); (try clear hb2); (try clear hk); (try clear hi)))
    go_meet
    case rel => exact ⟨_, (t383), (t384), (t385), (by first | rfl | (simp; done) | (simp [*]; done)), H', ⟨by first | omega | exact Nat.le_refl _⟩, ⟨by apply rbW; exact HO376.out⟩, ⟨by repeat (first | (with_reducible first | exact HI373.out | apply IsS64.alloc | apply IsS64.drewN | apply IsS64.drew | apply IsS64.set_1 | apply IsS64.set_2) | exact HI373.out)⟩, ⟨by repeat (first | exact nbW HB.out | refine nbW (below_set ?_ (IsS64.ge HI373.out)))⟩⟩
   ·rw [if_neg c11] at H
    have c11b0 := decide_eq_false c11
    have c11b1 : decide (0 < t374.length) = false := decide_eq_false (by omega)
    clear c11
    (first | rw [c11b0] | (simp only [i64_w, i32_w]; rw [c11b0]) | rw [c11b1] | skip)
    have H' := Aside0.mk H
    clear H
    go_wp2_with (first | ((with_reducible refine gate_callee (f := 56) rfl ?_); refine gcW 20 Tryz.func56 #[.slice Ao7 t374.length co7] rfl ?_; (with_reducible refine (spec_trGood.calls k _ _ t374 true _ ?side1 ?side2 A9.out).mono ?_); (case side1 => exact cbW (Kd.R_reads' HO376.out).2.2); (case side2 => exact (Kd.R_reads' HO376.out).2.1); rintro e w' ⟨rfl, ⟨nd, rfl⟩⟩; refine ⟨_, rfl, ?_⟩))
    go_meet
    case rel => exact ⟨_, (false), (t380), (t381), (by first | rfl | (simp; done) | (simp [*]; done)), H', ⟨by first | omega | exact Nat.le_refl _⟩, ⟨by apply rbW; exact HO376.out⟩, ⟨by repeat (first | (with_reducible first | exact HI373.out | apply IsS64.alloc | apply IsS64.drewN | apply IsS64.drew | apply IsS64.set_1 | apply IsS64.set_2) | exact HI373.out)⟩, ⟨by repeat (first | exact nbW HB.out | refine nbW (below_set ?_ (IsS64.ge HI373.out)))⟩⟩
  ·replace c10 := Bool.eq_false_iff.mpr c10
   subst c10
   have H1 : (spec_DrawRerootTree.j0 k t374 (wrap64 (t379 - 1)) false l0 t380 t381) = some (r1, r2) := by rw [if_neg (show ¬ (false = true) by decide)] at H; exact H
   clear H
   have H := H1
   clear H1
   have H' := Aside0.mk H
   clear H
   go_wp2_with (first | ((with_reducible refine gate_callee (f := 56) rfl ?_); refine gcW 20 Tryz.func56 #[.slice Ao7 t374.length co7] rfl ?_; (with_reducible refine (spec_trGood.calls k _ _ t374 false _ ?side1 ?side2 A9.out).mono ?_); (case side1 => exact cbW (Kd.R_reads' HO376.out).2.2); (case side2 => exact (Kd.R_reads' HO376.out).2.1); rintro e w' ⟨rfl, ⟨nd, rfl⟩⟩; refine ⟨_, rfl, ?_⟩))
   go_meet
   case rel => exact ⟨_, (false), (t380), (t381), (by first | rfl | (simp; done) | (simp [*]; done)), H', ⟨by first | omega | exact Nat.le_refl _⟩, ⟨by apply rbW; exact HO376.out⟩, ⟨by repeat (first | (with_reducible first | exact HI373.out | apply IsS64.alloc | apply IsS64.drewN | apply IsS64.drew | apply IsS64.set_1 | apply IsS64.set_2) | exact HI373.out)⟩, ⟨by repeat (first | exact nbW HB.out | refine nbW (below_set ?_ (IsS64.ge HI373.out)))⟩⟩
 case rest =>
  clear HC4
  try clear c1
  try clear p2
  try clear c5
  try clear p6
  try clear c10
  try clear c11
  try clear c11b0
  try clear c11b1
  obtain ⟨kq, x29_3, x374001_3, x374002_3, rfl, HA, HJ3, HO_5, HI373, HB⟩ := hcut
  cases kq with
  | zero => exact absurd HA.out (by simp [spec_DrawRerootTree.j0])
  | succ kj3 =>
   have H := HA.out
   clear HA
   simp only [spec_DrawRerootTree.j0] at H
   by_cases c14 : x29_3 = true
   ·subst c14
    have H1 : ((spec_trNear.f kj3 t374 0).bind fun t386 => ((spec_l1Cur_pick.f l0 x374001_3 x374002_3 (t386.length : Int)).bind fun bt389 => (if 0 ≤ bt389.1 then (if bt389.1 < (t386.length : Int) then (some (t374, rd t386 bt389.1)) else (none)) else (none)))) = some (r1, r2) := by rw [if_pos rfl] at H; exact H
    clear H
    have H := H1
    clear H1
    replace H := Option.bind_eq_some_iff.mp H
    obtain ⟨t386, A150, H⟩ := H
    (try dsimp -simprocs only at H)
    have A15 := Aside0.mk A150
    clear A150
    replace H := Option.bind_eq_some_iff.mp H
    obtain ⟨⟨t389, t390, t391⟩, A160, H⟩ := H
    (try dsimp -simprocs only at H)
    have A16 := Aside0.mk A160
    clear A160
    by_cases c17 : 0 ≤ t389
    ·rw [if_pos c17] at H
     have c17b0 := decide_eq_true c17
     clear c17
     by_cases c18 : t389 < (t386.length : Int)
     ·rw [if_pos c18] at H
      have c18b0 := decide_eq_true c18
      clear c18
      simp only [Option.some.injEq, Prod.mk.injEq] at H
      obtain ⟨rfl, rfl⟩ := H
      go_wp2_with (first | ((with_reducible refine gate_callee (f := 59) rfl ?_); refine gcW 31 Tryz.func59 #[.slice Ao7 t374.length co7, .int .i64 0] rfl ?_; (with_reducible refine (spec_trNear.calls kj3 _ _ t374 0 t386 _ ?side1 ?side2 A15.out).mono ?_); (case side1 => exact cbW (Kd.R_reads' HO_5.out).2.2); (case side2 => exact (Kd.R_reads' HO_5.out).2.1); rintro e w19 ⟨v387, rfl, ho0, hb⟩; refine ⟨_, rfl, ?_⟩; have n0_ := Aside0.mk (Kd.R_elder' (rbW HO_5.out) (Kd.R_base ho0) hb); have n1_ := Aside0.mk (Kd.R_lower (Kd.R_new' ho0 (Kd.R_lt (rbW HO_5.out))) (below_size (by repeat (first | exact nbW HB.out | refine nbW (below_set ?_ (IsS64.ge HI373.out)))))); have n2_ := Aside0.mk (IsS64.below (by repeat (first | (with_reducible first | exact HI373.out | apply IsS64.alloc | apply IsS64.drewN | apply IsS64.drew | apply IsS64.set_1 | apply IsS64.set_2) | exact HI373.out)) hb); have n3_ := Aside0.mk (below_step (by repeat (first | exact nbW HB.out | refine nbW (below_set ?_ (IsS64.ge HI373.out)))) hb); clear HO_5; clear HI373; clear HB; have HO_5 := n0_; have HO388 := n1_; have HI373 := n2_; have HB := n3_; clear n0_ n1_ n2_ n3_; (try clear hb); (try clear hb2); (try clear hk); (try clear hi); (try clear ho0); obtain ⟨Ao20, co20, eo20⟩ := Kd.R_slice HO388.out; subst eo20) | ((with_reducible refine gate_callee (f := 51) rfl ?_); refine gcW 36 Tryz.func51 #[.pointer (some ⟨gb373, 0, none⟩), .int .i64 (t386.length : Int)] rfl ?_; (with_reducible refine (spec_l1Cur_pick.calls gb373 l0 x374001_3 x374002_3 (t386.length : Int) t389 t390 t391 w _ ?side1 ?side2 A16.out).mono ?_); (case side1 => repeat (first | (with_reducible first | exact HI373.out | apply IsS64.alloc | apply IsS64.drewN | apply IsS64.drew | apply IsS64.set_1 | apply IsS64.set_2) | exact HI373.out)); (case side2 => repeat (first | (with_reducible first | exact HB.out | apply below_alloc | apply pw_below_drewN | apply below_drew1 | refine below_set ?_ (IsS64.ge HI373.out)) | exact HB.out)); rintro e w21 ⟨rfl, hi, hb, hk⟩; refine ⟨_, rfl, ?_⟩; have n0_ := Aside0.mk (Kd.R_mono (Kd.R_keep (IsS64.apart (show IsS64 w _ gb373 l0 x374001_3 x374002_3 from by repeat (first | (with_reducible first | exact HI373.out | apply IsS64.alloc | apply IsS64.drewN | apply IsS64.drew | apply IsS64.set_1 | apply IsS64.set_2) | exact HI373.out)) (rbW HO_5.out) (by decide)) hk (fun _ h => h.2)) (fun _ h => h.1)); have n1_ := Aside0.mk (Kd.R_mono (Kd.R_keep (IsS64.apart (show IsS64 w _ gb373 l0 x374001_3 x374002_3 from by repeat (first | (with_reducible first | exact HI373.out | apply IsS64.alloc | apply IsS64.drewN | apply IsS64.drew | apply IsS64.set_1 | apply IsS64.set_2) | exact HI373.out)) (rbW HO388.out) (by decide)) hk (fun _ h => h.2)) (fun _ h => h.1)); have n2_ := Aside0.mk (hb); have n3_ := Aside0.mk (hi); clear HO_5; clear HO388; clear HB; clear HI373; have HO_5 := n0_; have HO388 := n1_; have HB := n2_; have HI373 := n3_; clear n0_ n1_ n2_ n3_; (try clear hb); (try clear hb2); (try clear hk); (try clear hi); have p392 : 0 ≤ (t389 : Int) := of_decide_eq_true (by first | (with_reducible assumption) | assumption); have q392 : t389 < (t386.length : Int) := of_decide_eq_true (by first | (with_reducible assumption) | assumption); obtain ⟨ad392, e392, hx392_0⟩ := Kd.at_int (Kd.R_reads' HO388.out).2.2 t389 p392 q392; cases e392; replace p392 := eq_true p392; replace q392 := eq_true q392))
      go_ret2
      exact ⟨_, by first | rfl | (simp [errW_none, errW_some] <;> rfl) | (simp [*, errW_none, errW_some] <;> rfl), by apply rbW; exact Kd.R_mono HO_5.out (fun _ hk => trivial), by repeat (first | exact nbW HB.out | refine nbW (below_set ?_ (IsS64.ge HI373.out)))⟩
     ·rw [if_neg c18] at H
      exact absurd H (by simp)
    ·rw [if_neg c17] at H
     exact absurd H (by simp)
   ·replace c14 := Bool.eq_false_iff.mpr c14
    subst c14
    have H1 : (some (t374, (wrap64 (t379 - 1)))) = some (r1, r2) := by rw [if_neg (show ¬ (false = true) by decide)] at H; exact H
    clear H
    have H := H1
    clear H1
    simp only [Option.some.injEq, Prod.mk.injEq] at H
    obtain ⟨rfl, rfl⟩ := H
    go_wp2
    go_ret2
    exact ⟨_, by first | rfl | (simp [errW_none, errW_some] <;> rfl) | (simp [*, errW_none, errW_some] <;> rfl), by apply rbW; exact HO_5.out, by repeat (first | exact nbW HB.out | refine nbW (below_set ?_ (IsS64.ge HI373.out)))⟩

/-! ### slices_Clone_int_int: function 61 -/
def slices_Clone_int_int.f (l0 : List Int) : Option (List Int) := (some (([] : List Int) : List Int)).bind fun y393 => (if y393.length + l0.length < 17592186044416 then (some (y393 ++ l0)) else (none))
set_option maxHeartbeats 8000000 in
set_option maxRecDepth 100000 in
theorem slices_Clone_int_int.calls_some (ad0 : Addr) (c0 : Nat) (l0 : List Int) (r : List Int) (w : World) (hr0 : Kd.C (Kd.int .i64) w (some ad0) l0.length l0) (hc0 : l0.length ≤ c0) (h : slices_Clone_int_int.f l0 = some r) :
    Calls Tryz.prog 61 #[.slice (some ad0) l0.length c0] w fun e w' => ∃ v0_ : Value, e = .returned (v0_) ∧ Kd.R (Kd.int .i64) 3 w' w.heap.size (fun _ => True) v0_ r ∧ Below w.heap.size w w' := by
  have HR0 := Aside0.mk hr0
  have HC0 := Aside0.mk hc0
  clear hr0 hc0
  have HB := Aside0.mk (Below.refl w.heap.size w)
  have H : ((some (([] : List Int) : List Int)).bind fun y393 => (if y393.length + l0.length < 17592186044416 then (some (y393 ++ l0)) else (none))) = some r := h
  clear h
  obtain ⟨y393, hy393⟩ : ∃ y_ : List Int, y_ = (([] : List Int)) := ⟨_, rfl⟩
  replace H : (if y393.length + l0.length < 17592186044416 then (some (y393 ++ l0)) else (none)) = some r := by first | (rw [hy393]; with_reducible exact H) | (have H2_ := (Option.bind_some _ _).symm.trans H; rw [hy393]; with_reducible exact H2_) | (have H2_ := (Option.bind_some _ _).symm.trans H; with_reducible exact H2_) | with_reducible exact H | (rw [hy393]; exact H) | exact H
  have Ny393 := Aside0.mk hy393
  clear hy393
  by_cases c2 : y393.length + l0.length < 17592186044416
  · rw [if_pos c2] at H
    have LMc2 := Aside0.mk c2
    clear c2
    obtain ⟨y396, hy396⟩ : ∃ y_ : List Int, y_ = (y393 ++ l0) := ⟨_, rfl⟩
    replace H : (some y396) = some r := by first | (rw [hy396]; with_reducible exact H) | (have H2_ := (Option.bind_some _ _).symm.trans H; rw [hy396]; with_reducible exact H2_) | (have H2_ := (Option.bind_some _ _).symm.trans H; with_reducible exact H2_) | with_reducible exact H | (rw [hy396]; exact H) | exact H
    have Ny396 := Aside0.mk hy396
    clear hy396
    obtain rfl := Option.some.inj H
    have heq := fun (w_ : World) (n_ c_ : Nat) => Lib.run_eql_slice_nil (P := Tryz.prog) w_ 22 3 (some ad0) n_ c_ 0 0 Tryz.underlying22
    go_enter Tryz.func61, Tryz.ntmps61
    go_wp2_with (first | ((with_reducible refine gate_dst (N := 5) rfl ?_); refine Kd.R_lit (Kd.int .i64) _ 3 ?hg (N := 5) ?hd (xs := ([] : List Int)) (inner := []) (ok := fun _ => True) (okp := fun _ => True) ?hr ?hp (fun _ hk => hk) trivial (Below.refl _ _) (Nat.le_refl _) (by simp) ?_; (case hd => rfl); (case hg => rfl); (case hr => first | (go_simp; done) | (go_simp; rfl)); (case hp => exact (Reps.none _ _)); intro v394 w3 ho4 hb hg_ hnew_; clear hg_ hnew_; (first | rw [← Ny393.out] at ho4 | (simp only [Int.reduceToNat] at ho4; rw [← Ny393.out] at ho4)); have n0_ := Aside0.mk (Kd.R_lower ho4 (below_size (nbW HB.out))); have n1_ := Aside0.mk (below_step (nbW HB.out) hb); clear HB; have HO395 := n0_; have HB := n1_; clear n0_ n1_; clear hb ho4) | ((with_reducible refine gate_builtin (b := .append) (xs := #[.tmp 5, .tmp 6]) rfl ?_); at_builtin; refine Kd.R_append_rows (Kd.int .i64) (w0 := w) w.heap.size rfl (.tmp 5) (.tmp 6) 22 3 (.int .i64 0) 8 rfl Tryz.underlying22 info3 rfl (by decide) (by omega) v394 y393 l0 _ _ _ (fun _ => True) (fun _ => False) rfl rfl ?aO ?aR (fun _ _ h => h) (fun _ h => h.elim) ?aF ?aB ?aS ?aL ?_; (case aR => exact cbW (Kd.C_below HR0.out HB.out)); (case aB => exact (nbW HB.out)); (case aF => exact (fun _ _ => trivial)); (case aO => exact (rbW HO395.out)); (case aS => exact (below_size (nbW HB.out))); (case aL => have := LMc2.out; omega); intro v397 w5 ho hb hg hat; rw [← Ny396.out] at ho; have n0_ := Aside0.mk (hb); have n1_ := Aside0.mk (ho); clear HB; clear HO395; have HB := n0_; have HO398 := n1_; clear n0_ n1_; clear ho hb hg hat))
    go_ret
    exact ⟨_, by first | rfl | (simp [errW_none, errW_some] <;> rfl) | (simp [*, errW_none, errW_some] <;> rfl), by apply rbW; exact HO398.out, nbW HB.out⟩
  · rw [if_neg c2] at H
    exact absurd H (by simp)

set_option maxHeartbeats 8000000 in
set_option maxRecDepth 100000 in
theorem slices_Clone_int_int.calls (A0 : Option Addr) (c0 : Nat) (l0 : List Int) (r : List Int) (w : World) (hr0 : Kd.C (Kd.int .i64) w A0 l0.length l0) (hc0 : l0.length ≤ c0) (h : slices_Clone_int_int.f l0 = some r) :
    Calls Tryz.prog 61 #[.slice A0 l0.length c0] w fun e w' => ∃ v0_ : Value, e = .returned (v0_) ∧ Kd.R (Kd.int .i64) 3 w' w.heap.size (fun _ => True) v0_ r ∧ Below w.heap.size w w' := by
  cases A0 with
  | some ad0 => exact slices_Clone_int_int.calls_some ad0 c0 l0 r w hr0 hc0 h
  | none =>
    have hl : l0 = [] := by
      have h3 := hr0.2.2
      rcases Nat.eq_zero_or_pos l0.length with e | e
      · exact List.length_eq_zero_iff.1 e
      · obtain ⟨ad, e2, _⟩ := h3 e
        cases e2
    subst hl
    have hr : r = [] := by
      unfold slices_Clone_int_int.f at h
      simp only [Option.bind_some] at h
      split at h
      · simpa using h.symm
      · cases h
    subst hr
    clear h hr0 hc0
    have heq := fun (w_ : World) (n_ c_ : Nat) => Lib.run_eql_slice_nil (P := Tryz.prog) w_ 22 3 none n_ c_ 0 0 Tryz.underlying22
    go_enter Tryz.func61, Tryz.ntmps61
    go_wp2
    go_ret
    exact ⟨_, rfl, Kd.R_nil _ _ _ _ _, Below.refl _ _⟩

/-! ### impl_RerootTree: function 19 -/
mutual
def impl_RerootTree.j0 : Nat → List Int → Int → Bool → Option (List Int × Bool)
 | 0, _, _, _ => none
 | k + 1, x0, x1, x26 => if x26 = true then (some (([] : List Int), false)) else ((slices_Clone_int_int.f x0).bind fun t402 => (impl_RerootTree.l0 k x1 t402 x0 (x0.length : Int) 0))
def impl_RerootTree.l0 : Nat → Int → List Int → List Int → Int → Int → Option (List Int × Bool)
 | 0, _, _, _, _, _ => none
 | k + 1, x1, x6, x29, x30, x31 => if x31 < x30 then (if 0 ≤ x31 then (if x31 < (x29.length : Int) then (if x31 = (wrap64 (x1 - 1)) then (impl_RerootTree.l0 k x1 x6 x29 x30 (wrap64 (x31 + 1))) else (if (rd x29 x31) = 0 then (if x31 < (x6.length : Int) then (impl_RerootTree.l0 k x1 (x6.set (x31 : Int).toNat x1) x29 x30 (wrap64 (x31 + 1))) else (none)) else (if (rd x29 x31) = x1 then (if x31 < (x6.length : Int) then (impl_RerootTree.l0 k x1 (x6.set (x31 : Int).toNat 0) x29 x30 (wrap64 (x31 + 1))) else (none)) else (impl_RerootTree.l0 k x1 x6 x29 x30 (wrap64 (x31 + 1)))))) else (none)) else (none)) else (some (x6, true))
end
def impl_RerootTree.f (k : Nat) (l0 : List Int) (a1 : Int) : Option (List Int × Bool) := (impl_isTree.f k l0).bind fun t399 => (if t399 = true then ((impl_between.f a1 1 (l0.length : Int)).bind fun t400 => (if t400 = true then (if 0 ≤ (wrap64 (a1 - 1)) then (if (wrap64 (a1 - 1)) < (l0.length : Int) then (impl_RerootTree.j0 k l0 a1 ((rd l0 (wrap64 (a1 - 1))) != 0)) else (none)) else (none)) else (impl_RerootTree.j0 k l0 a1 true))) else (impl_RerootTree.j0 k l0 a1 true))
theorem impl_RerootTree.mono_l : ∀ k, (∀ y0 y1 y2, LeO (impl_RerootTree.j0 k y0 y1 y2) (impl_RerootTree.j0 (k + 1) y0 y1 y2)) ∧ (∀ y0 y1 y2 y3 y4, LeO (impl_RerootTree.l0 k y0 y1 y2 y3 y4) (impl_RerootTree.l0 (k + 1) y0 y1 y2 y3 y4))
 | 0 => ⟨fun _ _ _ r h => by simp [impl_RerootTree.j0] at h, fun _ _ _ _ _ r h => by simp [impl_RerootTree.l0] at h⟩
 | k + 1 => by
  obtain ⟨ih0, ih1⟩ := impl_RerootTree.mono_l k
  refine ⟨?_, ?_⟩
  all_goals intros
  all_goals (first | unfold impl_RerootTree.j0 | unfold impl_RerootTree.l0)
  all_goals (repeat' first | (with_reducible first | exact ih0 _ _ _ | exact ih1 _ _ _ _ _ | exact impl_isTree.mono _ _ | exact LeO.refl _ | exact LeO.none _ | refine LeO.ite ?_ ?_ | refine LeO.bind ?_ (fun _ => ?_)) | exact LeO.none _ | refine LeO.ite ?_ ?_ | refine LeO.bind ?_ (fun _ => ?_))
theorem impl_RerootTree.mono : ∀ a0 a1 k, LeO (impl_RerootTree.f k a0 a1) (impl_RerootTree.f (k + 1) a0 a1) := by
 intro a0 a1 k
 obtain ⟨ih0, ih1⟩ := impl_RerootTree.mono_l k
 unfold impl_RerootTree.f
 repeat' first | (with_reducible first | exact ih0 _ _ _ | exact ih1 _ _ _ _ _ | exact impl_isTree.mono _ _ | exact LeO.refl _ | exact LeO.none _ | refine LeO.ite ?_ ?_ | refine LeO.bind ?_ (fun _ => ?_)) | exact LeO.none _ | refine LeO.ite ?_ ?_ | refine LeO.bind ?_ (fun _ => ?_)
set_option maxHeartbeats 8000000 in
set_option maxRecDepth 100000 in
theorem impl_RerootTree.calls (k : Nat) (A0 : Option Addr) (c0 : Nat) (l0 : List Int) (a1 : Int) (r1 : List Int) (r2 : Bool) (w : World) (hr0 : Kd.C (Kd.int .i64) w A0 l0.length l0) (hc0 : l0.length ≤ c0) (h : impl_RerootTree.f k l0 a1 = some (r1, r2)) :
  Calls Tryz.prog 19 #[.slice A0 l0.length c0, .int .i64 a1] w fun e w' => ∃ v0_ : Value, e = .returned (.tuple #[v0_, .bool r2]) ∧ Kd.R (Kd.int .i64) 3 w' w.heap.size (fun _ => True) v0_ r1 ∧ Below w.heap.size w w' := by
 have HR0 := Aside0.mk hr0
 have HC0 := Aside0.mk hc0
 clear hr0 hc0
 have HB := Aside0.mk (Below.refl w.heap.size w)
 have H : ((impl_isTree.f k l0).bind fun t399 => (if t399 = true then ((impl_between.f a1 1 (l0.length : Int)).bind fun t400 => (if t400 = true then (if 0 ≤ (wrap64 (a1 - 1)) then (if (wrap64 (a1 - 1)) < (l0.length : Int) then (impl_RerootTree.j0 k l0 a1 ((rd l0 (wrap64 (a1 - 1))) != 0)) else (none)) else (none)) else (impl_RerootTree.j0 k l0 a1 true))) else (impl_RerootTree.j0 k l0 a1 true))) = some (r1, r2) := h
 clear h
 have HC3 := Aside0.mk H
 clear H
 go_enter Tryz.func19, Tryz.ntmps19
 go_upto_region 1 with (fail)
 go_cut [26] (fun v26 wc => ∃ (kq : Nat) (x26_2 : Bool), v26 = .bool x26_2 ∧ Aside0 (impl_RerootTree.j0 kq l0 a1 x26_2 = some (r1, r2)) ∧ Aside0 (kq ≤ k) ∧ Aside0 (Below w.heap.size w wc))
 case first =>
  have H := HC3.out
  clear HC3
  replace H := Option.bind_eq_some_iff.mp H
  obtain ⟨t399, A40, H⟩ := H
  (try dsimp -simprocs only at H)
  have A4 := Aside0.mk A40
  clear A40
  by_cases c5 : t399 = true
  ·subst c5
   have H1 : ((impl_between.f a1 1 (l0.length : Int)).bind fun t400 => (if t400 = true then (if 0 ≤ (wrap64 (a1 - 1)) then (if (wrap64 (a1 - 1)) < (l0.length : Int) then (impl_RerootTree.j0 k l0 a1 ((rd l0 (wrap64 (a1 - 1))) != 0)) else (none)) else (none)) else (impl_RerootTree.j0 k l0 a1 true))) = some (r1, r2) := by rw [if_pos rfl] at H; exact H
   clear H
   have H := H1
   clear H1
   replace H := Option.bind_eq_some_iff.mp H
   obtain ⟨t400, A60, H⟩ := H
   (try dsimp -simprocs only at H)
   have A6 := Aside0.mk A60
   clear A60
   by_cases c7 : t400 = true
   ·subst c7
    have H1 : (if 0 ≤ (wrap64 (a1 - 1)) then (if (wrap64 (a1 - 1)) < (l0.length : Int) then (impl_RerootTree.j0 k l0 a1 ((rd l0 (wrap64 (a1 - 1))) != 0)) else (none)) else (none)) = some (r1, r2) := by rw [if_pos rfl] at H; exact H
    clear H
    have H := H1
    clear H1
    obtain ⟨ji8, hji8⟩ : ∃ j_ : Int, (wrap64 (a1 - 1)) = j_ := ⟨_, rfl⟩
    replace H : (if 0 ≤ (ji8) then (if (ji8) < (l0.length : Int) then (impl_RerootTree.j0 k l0 a1 ((rd l0 (ji8)) != 0)) else (none)) else (none)) = some (r1, r2) := by first | (rw [hji8] at H; exact H) | (simp only [hji8] at H ⊢; exact H)
    (try rw [hji8] at A4)
    (try rw [hji8] at A6)
    have hji8w : (IntKind.i64.wrap (a1 - 1)) = ji8 := (i64_w _).trans hji8
    by_cases c9 : 0 ≤ (ji8)
    ·rw [if_pos c9] at H
     have c9b0 := decide_eq_true c9
     clear c9
     (first | rw [c9b0] | (simp only [i64_w, i32_w]; rw [c9b0]) | rw [c9b1] | skip)
     by_cases c10 : (ji8) < (l0.length : Int)
     ·rw [if_pos c10] at H
      have c10b0 := decide_eq_true c10
      clear c10
      have H' := Aside0.mk H
      clear H
      go_wp2_with (first | ((with_reducible refine gate_callee (f := 54) rfl ?_); refine gcW 10 Tryz.func54 #[.slice A0 l0.length c0] rfl ?_; (with_reducible refine (impl_isTree.calls k _ _ l0 true _ ?side1 ?side2 A4.out).mono ?_); (case side1 => exact cbW (Kd.C_below HR0.out HB.out)); (case side2 => exact HC0.out); rintro e w11 ⟨rfl, hb⟩; refine ⟨_, rfl, ?_⟩; have n0_ := Aside0.mk (below_step (nbW HB.out) hb); clear HB; have HB := n0_; clear n0_; (try clear hb); (try clear hb2); (try clear hk); (try clear hi)) | (go_at_call 60; (with_reducible refine (impl_between.calls a1 1 (l0.length : Int) true _ A6.out).mono ?_); rintro e w' ⟨rfl, ⟨nd, rfl⟩⟩; have p401 : 0 ≤ ((ji8) : Int) := of_decide_eq_true (by first | (with_reducible assumption) | assumption); have q401 : (ji8) < (l0.length : Int) := of_decide_eq_true (by first | (with_reducible assumption) | assumption); obtain ⟨ad401, e401, hx401_0⟩ := Kd.at_int HR0.out (ji8) p401 q401; cases e401; replace hx401_0 := (HB.out.cell (World.block_lt_of_cell? w _ hx401_0)).trans hx401_0; replace p401 := eq_true p401; replace q401 := eq_true q401))
      go_meet
      case rel => exact ⟨_, (((rd l0 (ji8)) != 0)), (by first | rfl | (simp; done) | (simp only [← hji8] <;> (first | rfl | simp)) | (simp [*]; done)), H', ⟨by first | omega | exact Nat.le_refl _⟩, ⟨nbW HB.out⟩⟩
     ·rw [if_neg c10] at H
      exact absurd H (by simp)
    ·rw [if_neg c9] at H
     exact absurd H (by simp)
   ·replace c7 := Bool.eq_false_iff.mpr c7
    subst c7
    have H1 : (impl_RerootTree.j0 k l0 a1 true) = some (r1, r2) := by rw [if_neg (show ¬ (false = true) by decide)] at H; exact H
    clear H
    have H := H1
    clear H1
    have H' := Aside0.mk H
    clear H
    go_wp2_with (first | ((with_reducible refine gate_callee (f := 54) rfl ?_); refine gcW 10 Tryz.func54 #[.slice A0 l0.length c0] rfl ?_; (with_reducible refine (impl_isTree.calls k _ _ l0 true _ ?side1 ?side2 A4.out).mono ?_); (case side1 => exact cbW (Kd.C_below HR0.out HB.out)); (case side2 => exact HC0.out); rintro e w12 ⟨rfl, hb⟩; refine ⟨_, rfl, ?_⟩; have n0_ := Aside0.mk (below_step (nbW HB.out) hb); clear HB; have HB := n0_; clear n0_; (try clear hb); (try clear hb2); (try clear hk); (try clear hi)) | (go_at_call 60; (with_reducible refine (impl_between.calls a1 1 (l0.length : Int) false _ A6.out).mono ?_); rintro e w' ⟨rfl, ⟨nd, rfl⟩⟩))
    go_meet
    case rel => exact ⟨_, (true), (by first | rfl | (simp; done) | (simp [*]; done)), H', ⟨by first | omega | exact Nat.le_refl _⟩, ⟨nbW HB.out⟩⟩
  ·replace c5 := Bool.eq_false_iff.mpr c5
   subst c5
   have H1 : (impl_RerootTree.j0 k l0 a1 true) = some (r1, r2) := by rw [if_neg (show ¬ (false = true) by decide)] at H; exact H
   clear H
   have H := H1
   clear H1
   have H' := Aside0.mk H
   clear H
   go_wp2_with (first | ((with_reducible refine gate_callee (f := 54) rfl ?_); refine gcW 10 Tryz.func54 #[.slice A0 l0.length c0] rfl ?_; (with_reducible refine (impl_isTree.calls k _ _ l0 false _ ?side1 ?side2 A4.out).mono ?_); (case side1 => exact cbW (Kd.C_below HR0.out HB.out)); (case side2 => exact HC0.out); rintro e w13 ⟨rfl, hb⟩; refine ⟨_, rfl, ?_⟩; have n0_ := Aside0.mk (below_step (nbW HB.out) hb); clear HB; have HB := n0_; clear n0_; (try clear hb); (try clear hb2); (try clear hk); (try clear hi)))
   go_meet
   case rel => exact ⟨_, (true), (by first | rfl | (simp; done) | (simp [*]; done)), H', ⟨by first | omega | exact Nat.le_refl _⟩, ⟨nbW HB.out⟩⟩
 case rest =>
  clear HC3
  try clear c1
  try clear p2
  try clear p4
  try clear q4
  try clear hx4
  try clear c5
  try clear p6
  try clear c7
  try clear c9
  try clear c9b0
  try clear c9b1
  try clear c10
  try clear c10b0
  try clear hx401_0
  try clear p401
  try clear q401
  obtain ⟨kq, x26_2, rfl, HA, HJ2, HB⟩ := hcut
  cases kq with
  | zero => exact absurd HA.out (by simp [impl_RerootTree.j0])
  | succ kj2 =>
   have H := HA.out
   clear HA
   simp only [impl_RerootTree.j0] at H
   by_cases c14 : x26_2 = true
   ·subst c14
    have H1 : (some (([] : List Int), false)) = some (r1, r2) := by rw [if_pos rfl] at H; exact H
    clear H
    have H := H1
    clear H1
    simp only [Option.some.injEq, Prod.mk.injEq] at H
    obtain ⟨rfl, rfl⟩ := H
    go_wp2
    go_ret2
    exact ⟨_, by first | rfl | (simp [errW_none, errW_some] <;> rfl) | (simp [*, errW_none, errW_some] <;> rfl), by first | exact Kd.R_nil _ _ _ _ _ | exact Kd.N_nil _ _ _ _ _ | exact Kd.V_nil _ _ _ _ _ | exact Kd.Q_nil _ _ _ _ _ | exact Kd.S_nil _ _ _ _ _, nbW HB.out⟩
   ·replace c14 := Bool.eq_false_iff.mpr c14
    subst c14
    have H1 : ((slices_Clone_int_int.f l0).bind fun t402 => (impl_RerootTree.l0 kj2 a1 t402 l0 (l0.length : Int) 0)) = some (r1, r2) := by rw [if_neg (show ¬ (false = true) by decide)] at H; exact H
    clear H
    have H := H1
    clear H1
    replace H := Option.bind_eq_some_iff.mp H
    obtain ⟨t402, A150, H⟩ := H
    (try dsimp -simprocs only at H)
    have A15 := Aside0.mk A150
    clear A150
    have H' := Aside0.mk H
    clear H
    go_wp2_with (first | ((with_reducible refine gate_callee (f := 61) rfl ?_); refine gcW 28 Tryz.func61 #[.slice A0 l0.length c0] rfl ?_; (with_reducible refine (slices_Clone_int_int.calls _ _ l0 t402 _ ?side1 ?side2 A15.out).mono ?_); (case side1 => exact cbW (Kd.C_below HR0.out HB.out)); (case side2 => exact HC0.out); rintro e w16 ⟨v403, rfl, ho0, hb⟩; refine ⟨_, rfl, ?_⟩; have n0_ := Aside0.mk (Kd.R_lower ho0 (below_size (nbW HB.out))); have n1_ := Aside0.mk (below_step (nbW HB.out) hb); clear HB; have HO404 := n0_; have HB := n1_; clear n0_ n1_; (try clear hb); (try clear hb2); (try clear hk); (try clear hi); (try clear ho0)))
    go_loopg [31] kj2 (fun kq v31 w' => ∃ (x6_2 : List Int) (x31_2 : Int), v31 = .int .i64 x31_2 ∧ Aside0 (impl_RerootTree.l0 kq a1 x6_2 l0 (l0.length : Int) x31_2 = some (r1, r2)) ∧ Aside0 (kq ≤ kj2) ∧ Aside0 (Kd.R (Kd.int .i64) 3 w' w.heap.size (fun _ => True) v403 x6_2) ∧ Aside0 (Below w.heap.size w w'))
    case atStart => exact ⟨(t402), (0), (by first | rfl | (simp; done) | (simp [*]; done)), H', ⟨Nat.le_refl _⟩, ⟨by apply rbW; exact HO404.out⟩, ⟨nbW HB.out⟩⟩
    case round =>
     clear H'
     try clear c1
     try clear p2
     try clear p4
     try clear q4
     try clear hx4
     try clear c5
     try clear c6
     try clear p6
     try clear c7
     try clear c9
     try clear c9b0
     try clear c9b1
     try clear c10
     try clear c10b0
     try clear c14
     try clear hx401_0
     try clear p2
     try clear p4
     try clear p401
     try clear p6
     try clear q4
     try clear q401
     obtain ⟨x6_2, x31_2, rfl, HA, HK2, HO_6, HB⟩ := hrel
     cases gk with
     | zero => exact absurd HA.out (by simp [impl_RerootTree.l0])
     | succ k2 =>
      have H := HA.out
      clear HA
      simp only [impl_RerootTree.l0] at H
      by_cases c17 : x31_2 < (l0.length : Int)
      ·rw [if_pos c17] at H
       have c17b0 := decide_eq_true c17
       clear c17
       by_cases c18 : 0 ≤ x31_2
       ·rw [if_pos c18] at H
        have c18b0 := decide_eq_true c18
        clear c18
        by_cases c19 : x31_2 < (l0.length : Int)
        ·rw [if_pos c19] at H
         have c19b0 := decide_eq_true c19
         clear c19
         by_cases c20 : x31_2 = (wrap64 (a1 - 1))
         ·rw [if_pos c20] at H
          have c20b0 : (x31_2 == (wrap64 (a1 - 1))) = true := beq_iff_eq.mpr c20
          have c20b1 : (x31_2 != (wrap64 (a1 - 1))) = false := bne_eq_false_iff_eq.mpr c20
          clear c20
          have H' := Aside0.mk H
          clear H
          have p405 : 0 ≤ (x31_2 : Int) := of_decide_eq_true (by first | (with_reducible assumption) | assumption)
          have q405 : x31_2 < (l0.length : Int) := of_decide_eq_true (by first | (with_reducible assumption) | assumption)
          obtain ⟨ad405, e405, hx405_0⟩ := Kd.at_int HR0.out x31_2 p405 q405
          cases e405
          replace hx405_0 := (HB.out.cell (World.block_lt_of_cell? w _ hx405_0)).trans hx405_0
          replace p405 := eq_true p405
          replace q405 := eq_true q405
          go_wp2
          go_roundg k2
          case measure => have := HJ2.out; have := HK2.out; omega
          case rel => exact ⟨(x6_2), (wrap64 (x31_2 + 1)), (by first | rfl | (simp; done) | (simp [*]; done)), H', ⟨by have := HJ2.out; have := HK2.out; omega⟩, ⟨by apply rbW; exact HO_6.out⟩, ⟨nbW HB.out⟩⟩
         ·rw [if_neg c20] at H
          have c20b0 : (x31_2 == (wrap64 (a1 - 1))) = false := beq_eq_false_iff_ne.mpr c20
          have c20b1 : (x31_2 != (wrap64 (a1 - 1))) = true := bne_iff_ne.mpr c20
          by_cases c21 : (rd l0 x31_2) = 0
          ·rw [if_pos c21] at H
           have c21b0 : ((rd l0 x31_2) == 0) = true := beq_iff_eq.mpr c21
           have c21b1 : ((rd l0 x31_2) != 0) = false := bne_eq_false_iff_eq.mpr c21
           clear c21
           by_cases c22 : x31_2 < (x6_2.length : Int)
           ·rw [if_pos c22] at H
            have c22b0 := decide_eq_true c22
            clear c22
            obtain ⟨y406, hy406⟩ : ∃ y_ : List Int, y_ = (x6_2.set (x31_2 : Int).toNat a1) := ⟨_, rfl⟩
            replace H : (impl_RerootTree.l0 k2 a1 y406 l0 (l0.length : Int) (wrap64 (x31_2 + 1))) = some (r1, r2) := by first | (rw [hy406]; with_reducible exact H) | (have H2_ := (Option.bind_some _ _).symm.trans H; rw [hy406]; with_reducible exact H2_) | (have H2_ := (Option.bind_some _ _).symm.trans H; with_reducible exact H2_) | with_reducible exact H | (rw [hy406]; exact H) | exact H
            have Ny406 := Aside0.mk hy406
            clear hy406
            have H' := Aside0.mk H
            clear H
            have p405 : 0 ≤ (x31_2 : Int) := of_decide_eq_true (by first | (with_reducible assumption) | assumption)
            have q405 : x31_2 < (l0.length : Int) := of_decide_eq_true (by first | (with_reducible assumption) | assumption)
            obtain ⟨ad405, e405, hx405_0⟩ := Kd.at_int HR0.out x31_2 p405 q405
            cases e405
            replace hx405_0 := (HB.out.cell (World.block_lt_of_cell? w _ hx405_0)).trans hx405_0
            replace p405 := eq_true p405
            replace q405 := eq_true q405
            have p23 : 0 ≤ (x31_2 : Int) := of_decide_eq_true (by first | (with_reducible assumption) | assumption)
            have q23 : (x31_2 : Int) < ((x6_2.length : Int) : Int) := of_decide_eq_true (by first | (with_reducible assumption) | assumption)
            obtain ⟨go23, co23, eo23, gb23, gl23, cl23, HG23⟩ := Kd.R_form HO_6.out (by omega)
            (first | cases eo23 | (injection eo23 with ea_ en_ ec_; (first | subst ea_ | (injection ea_ with ea_; subst ea_)); subst ec_; clear en_))
            have GB23 := Aside0.mk gb23
            have GG23 := Aside0.mk HG23
            clear gb23 gl23 HG23
            obtain ⟨hx23_0, hf23_0⟩ := Kd.R_celln 0 HO_6.out (x31_2 : Int) p23 q23
            replace p23 := eq_true p23
            replace q23 := eq_true q23
            have HP24 := Kd.R_putg HO_6.out (x31_2 : Int) a1
            go_wp2_with (first | ((with_reducible refine gate_store (t := 3) (p := 47) rfl ?_); refine store_event (t := 3) (p := 47) (v := ?vo_w25) (w1 := (wr.setCell ⟨go23, (x31_2 : Int).toNat, none⟩ (.int .i64 a1))) ?hg ?ho ?hn ?hr ?_; (case ho => rfl); (case hg => rfl); (case hn => rfl); (case hr => first | (go_simp; done) | (go_simp; rfl)); intro w25 hw; have hg : wr.grownBy w25 (some go23) := (by rw [hw]; exact HP24.2); have hp_ : Kd.R (Kd.int .i64) 3 w25 w.heap.size (fun _ => True) (.slice (some ⟨go23, 0, none⟩) x6_2.length co23) y406 := (by rw [hw, Ny406.out]; exact HP24.1); clear HP24; have n0_ := Aside0.mk (hp_); have n1_ := Aside0.mk ((by rw [hw]; exact below_set (HB.out) GB23.out : Below w.heap.size w w25)); clear HO_6; clear HB; have HO_6 := n0_; have HB := n1_; clear n0_ n1_; clear hg hw hp_))
            go_roundg k2
            case measure => have := HJ2.out; have := HK2.out; omega
            case rel => exact ⟨(y406), (wrap64 (x31_2 + 1)), (by first | rfl | (simp; done) | (simp [*]; done)), H', ⟨by have := HJ2.out; have := HK2.out; omega⟩, ⟨by apply rbW; exact HO_6.out⟩, ⟨nbW HB.out⟩⟩
           ·rw [if_neg c22] at H
            exact absurd H (by simp)
          ·rw [if_neg c21] at H
           have c21b0 : ((rd l0 x31_2) == 0) = false := beq_eq_false_iff_ne.mpr c21
           have c21b1 : ((rd l0 x31_2) != 0) = true := bne_iff_ne.mpr c21
           by_cases c26 : (rd l0 x31_2) = a1
           ·rw [if_pos c26] at H
            have c26b0 : ((rd l0 x31_2) == a1) = true := beq_iff_eq.mpr c26
            have c26b1 : ((rd l0 x31_2) != a1) = false := bne_eq_false_iff_eq.mpr c26
            clear c26
            by_cases c27 : x31_2 < (x6_2.length : Int)
            ·rw [if_pos c27] at H
             have c27b0 := decide_eq_true c27
             clear c27
             obtain ⟨y407, hy407⟩ : ∃ y_ : List Int, y_ = (x6_2.set (x31_2 : Int).toNat 0) := ⟨_, rfl⟩
             replace H : (impl_RerootTree.l0 k2 a1 y407 l0 (l0.length : Int) (wrap64 (x31_2 + 1))) = some (r1, r2) := by first | (rw [hy407]; with_reducible exact H) | (have H2_ := (Option.bind_some _ _).symm.trans H; rw [hy407]; with_reducible exact H2_) | (have H2_ := (Option.bind_some _ _).symm.trans H; with_reducible exact H2_) | with_reducible exact H | (rw [hy407]; exact H) | exact H
             have Ny407 := Aside0.mk hy407
             clear hy407
             have H' := Aside0.mk H
             clear H
             have p405 : 0 ≤ (x31_2 : Int) := of_decide_eq_true (by first | (with_reducible assumption) | assumption)
             have q405 : x31_2 < (l0.length : Int) := of_decide_eq_true (by first | (with_reducible assumption) | assumption)
             obtain ⟨ad405, e405, hx405_0⟩ := Kd.at_int HR0.out x31_2 p405 q405
             cases e405
             replace hx405_0 := (HB.out.cell (World.block_lt_of_cell? w _ hx405_0)).trans hx405_0
             replace p405 := eq_true p405
             replace q405 := eq_true q405
             have p28 : 0 ≤ (x31_2 : Int) := of_decide_eq_true (by first | (with_reducible assumption) | assumption)
             have q28 : (x31_2 : Int) < ((x6_2.length : Int) : Int) := of_decide_eq_true (by first | (with_reducible assumption) | assumption)
             obtain ⟨go28, co28, eo28, gb28, gl28, cl28, HG28⟩ := Kd.R_form HO_6.out (by omega)
             (first | cases eo28 | (injection eo28 with ea_ en_ ec_; (first | subst ea_ | (injection ea_ with ea_; subst ea_)); subst ec_; clear en_))
             have GB28 := Aside0.mk gb28
             have GG28 := Aside0.mk HG28
             clear gb28 gl28 HG28
             obtain ⟨hx28_0, hf28_0⟩ := Kd.R_celln 0 HO_6.out (x31_2 : Int) p28 q28
             replace p28 := eq_true p28
             replace q28 := eq_true q28
             have HP29 := Kd.R_putg HO_6.out (x31_2 : Int) 0
             go_wp2_with (first | ((with_reducible refine gate_store (t := 3) (p := 54) rfl ?_); refine store_event (t := 3) (p := 54) (v := ?vo_w30) (w1 := (wr.setCell ⟨go28, (x31_2 : Int).toNat, none⟩ (.int .i64 0))) ?hg ?ho ?hn ?hr ?_; (case ho => rfl); (case hg => rfl); (case hn => rfl); (case hr => first | (go_simp; done) | (go_simp; rfl)); intro w30 hw; have hg : wr.grownBy w30 (some go28) := (by rw [hw]; exact HP29.2); have hp_ : Kd.R (Kd.int .i64) 3 w30 w.heap.size (fun _ => True) (.slice (some ⟨go28, 0, none⟩) x6_2.length co28) y407 := (by rw [hw, Ny407.out]; exact HP29.1); clear HP29; have n0_ := Aside0.mk (hp_); have n1_ := Aside0.mk ((by rw [hw]; exact below_set (HB.out) GB28.out : Below w.heap.size w w30)); clear HO_6; clear HB; have HO_6 := n0_; have HB := n1_; clear n0_ n1_; clear hg hw hp_))
             go_roundg k2
             case measure => have := HJ2.out; have := HK2.out; omega
             case rel => exact ⟨(y407), (wrap64 (x31_2 + 1)), (by first | rfl | (simp; done) | (simp [*]; done)), H', ⟨by have := HJ2.out; have := HK2.out; omega⟩, ⟨by apply rbW; exact HO_6.out⟩, ⟨nbW HB.out⟩⟩
            ·rw [if_neg c27] at H
             exact absurd H (by simp)
           ·rw [if_neg c26] at H
            have c26b0 : ((rd l0 x31_2) == a1) = false := beq_eq_false_iff_ne.mpr c26
            have c26b1 : ((rd l0 x31_2) != a1) = true := bne_iff_ne.mpr c26
            have H' := Aside0.mk H
            clear H
            have p405 : 0 ≤ (x31_2 : Int) := of_decide_eq_true (by first | (with_reducible assumption) | assumption)
            have q405 : x31_2 < (l0.length : Int) := of_decide_eq_true (by first | (with_reducible assumption) | assumption)
            obtain ⟨ad405, e405, hx405_0⟩ := Kd.at_int HR0.out x31_2 p405 q405
            cases e405
            replace hx405_0 := (HB.out.cell (World.block_lt_of_cell? w _ hx405_0)).trans hx405_0
            replace p405 := eq_true p405
            replace q405 := eq_true q405
            go_wp2
            go_roundg k2
            case measure => have := HJ2.out; have := HK2.out; omega
            case rel => exact ⟨(x6_2), (wrap64 (x31_2 + 1)), (by first | rfl | (simp; done) | (simp [*]; done)), H', ⟨by have := HJ2.out; have := HK2.out; omega⟩, ⟨by apply rbW; exact HO_6.out⟩, ⟨nbW HB.out⟩⟩
        ·rw [if_neg c19] at H
         exact absurd H (by simp)
       ·rw [if_neg c18] at H
        exact absurd H (by simp)
      ·rw [if_neg c17] at H
       have c17b0 := decide_eq_false c17
       clear c17
       simp only [Option.some.injEq, Prod.mk.injEq] at H
       obtain ⟨rfl, rfl⟩ := H
       go_wp2
       go_ret2
       exact ⟨_, by first | rfl | (simp [errW_none, errW_some] <;> rfl) | (simp [*, errW_none, errW_some] <;> rfl), by apply rbW; exact HO_6.out, nbW HB.out⟩

end Go.Proofs.YtlknoidcopkmfaaGreatDoor.PFnTreesRenamed
