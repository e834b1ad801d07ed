-- Written by a program of this session for this claim (its own turn of the print).
import Derived.Test.YtlknoidcopkmfaaGreatDoorPFnWalkTextsx0
import Derived.Test.YtlknoidcopkmfaaGreatDoorPFnWalkTextsx5
import Derived.Test.YtlknoidcopkmfaaGreatDoorPFnWalkTextsx8
import Derived.Test.YtlknoidcopkmfaaGreatDoorPFnWalkTextsx10
import Derived.Test.YtlknoidcopkmfaaGreatDoorPFnWalkTextsx11
import Derived.Test.YtlknoidcopkmfaaGreatDoorPFnWalkTextsx12
import Derived.Test.YtlknoidcopkmfaaGreatDoorPFnWalkTextsx14
namespace Go.Proofs.YtlknoidcopkmfaaGreatDoor.PFnWalkTexts
open Go.RowKit Go.Proofs.YtlknoidcopkmfaaGreatDoorW.PrintWords Go.Proofs.YtlknoidcopkmfaaGreatDoorW.PrintLast Go.Proofs.YtlknoidcopkmfaaGreatDoorW.PrintMore
attribute [local go_sem] max2_int min2_int max_two min_two max_three min_three max_four min_four   -- for this text's walks alone
set_option linter.unusedVariables false
set_option linter.unusedSimpArgs false

/-! ### laws_FnWalkTexts: function 5 -/
mutual
def laws_FnWalkTexts.j0 : Nat → List Int → ByteArray → Bool → Bool → List Int → List Int → Option (Bool)
 | 0, _, _, _, _, _, _ => none
 | k + 1, x1, x6, x7, x58, x533000, x533001 => if x58 = true then (some false) else (if x7 = true then ((impl_ParseWalk.f k x6).bind fun bt538 => (if bt538.2.2 = true then ((laws_wSameWalk.f k bt538.1 bt538.2.1 x533000 x533001).bind fun t546 => (if t546 = true then (laws_FnWalkTexts.j1 k x1) else (some false))) else (some false))) else (laws_FnWalkTexts.j1 k x1))
def laws_FnWalkTexts.j1 : Nat → List Int → Option (Bool)
 | 0, _ => none
 | k + 1, x1 => (spec_DrawParseWalk.f k x1).bind fun t547 => ((impl_ParseWalk.f k t547).bind fun bt548 => ((spec_ParseWalk.f k t547).bind fun bt556 => (if (bt548.2.2 != bt556.2.2) = true then (laws_FnWalkTexts.j2 k x1 t547 bt548.2.2 true bt548.1 bt548.2.1) else ((laws_wSameWalk.f k bt548.1 bt548.2.1 bt556.1 bt556.2.1).bind fun t564 => (laws_FnWalkTexts.j2 k x1 t547 bt548.2.2 (!t564) bt548.1 bt548.2.1)))))
def laws_FnWalkTexts.j2 : Nat → List Int → ByteArray → Bool → Bool → List Int → List Int → Option (Bool)
 | 0, _, _, _, _, _, _ => none
 | k + 1, x1, x12, x14, x93, x556000, x556001 => if x93 = true then (some false) else (if x14 = true then ((impl_WalkText.f k x556000 x556001).bind fun bt565 => (if bt565.2 = true then (if bt565.1.toList = x12.toList then (laws_FnWalkTexts.j3 k x1) else (some false)) else (some false))) else (laws_FnWalkTexts.j3 k x1))
def laws_FnWalkTexts.j3 : Nat → List Int → Option (Bool)
 | 0, _ => none
 | k + 1, x1 => (spec_DrawCountLabels.f k x1).bind fun t567 => ((impl_CountLabels.f k t567).bind fun bt570 => ((spec_CountLabels.f k t567).bind fun bt572 => (if (bt570.2 != bt572.2) = true then (laws_FnWalkTexts.j4 k t567 bt570.1 bt570.2 true) else (laws_FnWalkTexts.j4 k t567 bt570.1 bt570.2 (bt570.1 != bt572.1)))))
def laws_FnWalkTexts.j4 : Nat → List Int → Int → Bool → Bool → Option (Bool)
 | 0, _, _, _, _ => none
 | k + 1, x19, x20, x21, x126 => if x126 = true then (some false) else (if x21 = true then ((impl_FirstLabels.f k x19).bind fun bt574 => ((impl_ParkingOfWalk.f k bt574.1 bt574.2.1).bind fun bt582 => ((impl_CountOrders.f k bt582.1).bind fun bt586 => (if bt574.2.2 = true then (if bt582.2 = true then (if bt586.2 = true then (some (bt586.1 == x20)) else (some false)) else (some false)) else (some false))))) else (some true))
end
def laws_FnWalkTexts.f (k : Nat) (l0 : List Int) (l1 : List Int) : Option (Bool) := (laws_big.f l0 l1).bind fun t525 => (if t525 = true then (some true) else ((spec_DrawWalkText.f k l0).bind fun bt526 => ((impl_WalkText.f k bt526.1 bt526.2).bind fun bt533 => ((spec_WalkText.f k bt526.1 bt526.2).bind fun bt535 => (if (bt533.2 != bt535.2) = true then (laws_FnWalkTexts.j0 k l1 bt533.1 bt533.2 true bt526.1 bt526.2) else (if bt533.1.toList = bt535.1.toList then ((impl_IsWalk.f k bt526.1 bt526.2).bind fun t537 => (laws_FnWalkTexts.j0 k l1 bt533.1 bt533.2 (bt533.2 != t537) bt526.1 bt526.2)) else (laws_FnWalkTexts.j0 k l1 bt533.1 bt533.2 true bt526.1 bt526.2)))))))
theorem laws_FnWalkTexts.mono_l : ∀ k, (∀ y0 y1 y2 y3 y4 y5, LeO (laws_FnWalkTexts.j0 k y0 y1 y2 y3 y4 y5) (laws_FnWalkTexts.j0 (k + 1) y0 y1 y2 y3 y4 y5)) ∧ (∀ y0, LeO (laws_FnWalkTexts.j1 k y0) (laws_FnWalkTexts.j1 (k + 1) y0)) ∧ (∀ y0 y1 y2 y3 y4 y5, LeO (laws_FnWalkTexts.j2 k y0 y1 y2 y3 y4 y5) (laws_FnWalkTexts.j2 (k + 1) y0 y1 y2 y3 y4 y5)) ∧ (∀ y0, LeO (laws_FnWalkTexts.j3 k y0) (laws_FnWalkTexts.j3 (k + 1) y0)) ∧ (∀ y0 y1 y2 y3, LeO (laws_FnWalkTexts.j4 k y0 y1 y2 y3) (laws_FnWalkTexts.j4 (k + 1) y0 y1 y2 y3))
 | 0 => ⟨fun _ _ _ _ _ _ r h => by simp [laws_FnWalkTexts.j0] at h, fun _ r h => by simp [laws_FnWalkTexts.j1] at h, fun _ _ _ _ _ _ r h => by simp [laws_FnWalkTexts.j2] at h, fun _ r h => by simp [laws_FnWalkTexts.j3] at h, fun _ _ _ _ r h => by simp [laws_FnWalkTexts.j4] at h⟩
 | k + 1 => by
  obtain ⟨ih0, ih1, ih2, ih3, ih4⟩ := laws_FnWalkTexts.mono_l k
  refine ⟨?_, ?_, ?_, ?_, ?_⟩
  all_goals intros
  all_goals (first | unfold laws_FnWalkTexts.j0 | unfold laws_FnWalkTexts.j1 | unfold laws_FnWalkTexts.j2 | unfold laws_FnWalkTexts.j3 | unfold laws_FnWalkTexts.j4)
  all_goals (repeat' first | (with_reducible first | exact ih0 _ _ _ _ _ _ | exact ih1 _ | exact ih2 _ _ _ _ _ _ | exact ih3 _ | exact ih4 _ _ _ _ | exact impl_CountLabels.mono _ _ | exact impl_CountOrders.mono _ _ | exact impl_FirstLabels.mono _ _ | exact impl_IsWalk.mono _ _ _ | exact impl_ParkingOfWalk.mono _ _ _ | exact impl_ParseWalk.mono _ _ | exact impl_WalkText.mono _ _ _ | exact laws_wSameWalk.mono _ _ _ _ _ | exact spec_CountLabels.mono _ _ | exact spec_DrawCountLabels.mono _ _ | exact spec_DrawParseWalk.mono _ _ | exact spec_DrawWalkText.mono _ _ | exact spec_ParseWalk.mono _ _ | exact spec_WalkText.mono _ _ _ | exact LeO.refl _ | exact LeO.none _ | refine LeO.ite ?_ ?_ | refine LeO.bind ?_ (fun _ => ?_)) | exact LeO.none _ | refine LeO.ite ?_ ?_ | refine LeO.bind ?_ (fun _ => ?_))
theorem laws_FnWalkTexts.mono : ∀ a0 a1 k, LeO (laws_FnWalkTexts.f k a0 a1) (laws_FnWalkTexts.f (k + 1) a0 a1) := by
 intro a0 a1 k
 obtain ⟨ih0, ih1, ih2, ih3, ih4⟩ := laws_FnWalkTexts.mono_l k
 unfold laws_FnWalkTexts.f
 repeat' first | (with_reducible first | exact ih0 _ _ _ _ _ _ | exact ih1 _ | exact ih2 _ _ _ _ _ _ | exact ih3 _ | exact ih4 _ _ _ _ | exact impl_CountLabels.mono _ _ | exact impl_CountOrders.mono _ _ | exact impl_FirstLabels.mono _ _ | exact impl_IsWalk.mono _ _ _ | exact impl_ParkingOfWalk.mono _ _ _ | exact impl_ParseWalk.mono _ _ | exact impl_WalkText.mono _ _ _ | exact laws_wSameWalk.mono _ _ _ _ _ | exact spec_CountLabels.mono _ _ | exact spec_DrawCountLabels.mono _ _ | exact spec_DrawParseWalk.mono _ _ | exact spec_DrawWalkText.mono _ _ | exact spec_ParseWalk.mono _ _ | exact spec_WalkText.mono _ _ _ | exact LeO.refl _ | exact LeO.none _ | refine LeO.ite ?_ ?_ | refine LeO.bind ?_ (fun _ => ?_)) | exact LeO.none _ | refine LeO.ite ?_ ?_ | refine LeO.bind ?_ (fun _ => ?_)
set_option maxHeartbeats 8000000 in
set_option maxRecDepth 100000 in
theorem laws_FnWalkTexts.calls (k : Nat) (A0 : Option Addr) (c0 : Nat) (l0 : List Int) (A1 : Option Addr) (c1 : Nat) (l1 : List Int) (r : Bool) (w : World) (hg : Gl w) (hr0 : Kd.C (Kd.int .u8) w A0 l0.length l0) (hc0 : l0.length ≤ c0) (hr1 : Kd.C (Kd.int .u8) w A1 l1.length l1) (hc1 : l1.length ≤ c1) (h : laws_FnWalkTexts.f k l0 l1 = some r) :
  Calls Tryz.prog 5 #[.slice A0 l0.length c0, .slice A1 l1.length c1] w fun e w' => e = .returned (.bool r) ∧ Below w.heap.size w w' := by
 have HGL := Aside0.mk hg
 clear hg
 have hu24 := Tryz.underlying24
 have HR0 := Aside0.mk hr0
 have HC0 := Aside0.mk hc0
 clear hr0 hc0
 have HR1 := Aside0.mk hr1
 have HC1 := Aside0.mk hc1
 clear hr1 hc1
 have HB := Aside0.mk (Below.refl w.heap.size w)
 have H : ((laws_big.f l0 l1).bind fun t525 => (if t525 = true then (some true) else ((spec_DrawWalkText.f k l0).bind fun bt526 => ((impl_WalkText.f k bt526.1 bt526.2).bind fun bt533 => ((spec_WalkText.f k bt526.1 bt526.2).bind fun bt535 => (if (bt533.2 != bt535.2) = true then (laws_FnWalkTexts.j0 k l1 bt533.1 bt533.2 true bt526.1 bt526.2) else (if bt533.1.toList = bt535.1.toList then ((impl_IsWalk.f k bt526.1 bt526.2).bind fun t537 => (laws_FnWalkTexts.j0 k l1 bt533.1 bt533.2 (bt533.2 != t537) bt526.1 bt526.2)) else (laws_FnWalkTexts.j0 k l1 bt533.1 bt533.2 true bt526.1 bt526.2)))))))) = some r := h
 clear h
 replace H := Option.bind_eq_some_iff.mp H
 obtain ⟨t525, A30, H⟩ := H
 (try dsimp -simprocs only at H)
 have A3 := Aside0.mk A30
 clear A30
 by_cases c4 : t525 = true
 ·subst c4
  rw [if_pos rfl] at H
  obtain rfl := Option.some.inj H
  go_enter Tryz.func5, Tryz.ntmps5
  go_wp2_with (first | ((with_reducible refine gate_callee (f := 11) rfl ?_); refine gcW 32 Tryz.func11 #[.slice A0 l0.length c0, .slice A1 l1.length c1] rfl ?_; (with_reducible refine (laws_big.calls _ _ l0 _ _ l1 true _ ?side1 ?side2 ?side3 ?side4 A3.out).mono ?_); (case side1 => exact cbW HR0.out); (case side2 => exact HC0.out); (case side3 => exact cbW HR1.out); (case side4 => exact HC1.out); rintro e w' ⟨rfl, ⟨nd, rfl⟩⟩; refine ⟨_, rfl, ?_⟩))
  go_ret
  exact ⟨by first | rfl | (simp [errW_none, errW_some] <;> rfl) | (simp [*, errW_none, errW_some] <;> rfl), nbW HB.out⟩
 ·as_aux_lemma =>
   replace c4 := Bool.eq_false_iff.mpr c4
   subst c4
   rw [if_neg (show ¬ (false = true) by decide)] at H
   replace H := Option.bind_eq_some_iff.mp H
   obtain ⟨⟨t526, t529⟩, A50, H⟩ := H
   (try dsimp -simprocs only at H)
   have A5 := Aside0.mk A50
   clear A50
   replace H := Option.bind_eq_some_iff.mp H
   obtain ⟨⟨t533, t534⟩, A60, H⟩ := H
   (try dsimp -simprocs only at H)
   have A6 := Aside0.mk A60
   clear A60
   replace H := Option.bind_eq_some_iff.mp H
   obtain ⟨⟨t535, t536⟩, A70, H⟩ := H
   (try dsimp -simprocs only at H)
   have A7 := Aside0.mk A70
   clear A70
   have HC8 := Aside0.mk H
   clear H
   go_enter Tryz.func5, Tryz.ntmps5
   go_upto_region 6 with (first | ((with_reducible refine gate_callee (f := 11) rfl ?_); refine gcW 32 Tryz.func11 #[.slice A0 l0.length c0, .slice A1 l1.length c1] rfl ?_; (with_reducible refine (laws_big.calls _ _ l0 _ _ l1 false _ ?side1 ?side2 ?side3 ?side4 A3.out).mono ?_); (case side1 => exact cbW HR0.out); (case side2 => exact HC0.out); (case side3 => exact cbW HR1.out); (case side4 => exact HC1.out); rintro e w' ⟨rfl, ⟨nd, rfl⟩⟩; refine ⟨_, rfl, ?_⟩) | ((with_reducible refine gate_callee (f := 28) rfl ?_); refine gcW 34 Tryz.func28 #[.slice A0 l0.length c0] rfl ?_; (with_reducible refine (spec_DrawWalkText.calls k _ _ l0 t526 t529 _ ?side1 ?side2 A5.out).mono ?_); (case side1 => exact cbW HR0.out); (case side2 => exact HC0.out); rintro e w9 ⟨v527, v530, rfl, ho0, ho1, hb⟩; refine ⟨_, rfl, ?_⟩; have n0_ := Aside0.mk (Kd.R_lower ho0 (below_size (nbW HB.out))); have n1_ := Aside0.mk (Kd.R_lower ho1 (below_size (nbW HB.out))); have n2_ := Aside0.mk (below_step (nbW HB.out) hb); clear HB; have HO528 := n0_; have HO531 := n1_; have HB := n2_; clear n0_ n1_ n2_; (try clear hb); (try clear hb2); (try clear hk); (try clear hi); (try clear ho0); (try clear ho1)) | ((with_reducible refine gate_dst (N := 5) rfl ?_); refine box_event ?hg (N := 5) ?hd (cs := #[.slice none 0 0, .slice none 0 0]) (t := 24) ?hr ?_; (case hd => rfl); (case hg => rfl); (case hr => first | (go_simp; done) | (go_simp; rfl)); intro gb532 hg w10 hbox hb; have n0_ := Aside0.mk (Kd.R_below (rbW HO528.out) hb); have n1_ := Aside0.mk (Kd.R_below (rbW HO531.out) hb); have n2_ := Aside0.mk (below_step (nbW HB.out) hb); have n3_ := Aside0.mk (hbox); have n4_ := Aside0.mk ((by rw [hg]; exact (below_size (nbW HB.out)) : w.heap.size ≤ gb532)); have n5_ := Aside0.mk ((by rw [hg]; exact (below_size (nbW HB.out)) : w.heap.size ≤ gb532)); clear HO528; clear HO531; clear HB; have HO528 := n0_; have HO531 := n1_; have HB := n2_; have BK532 := n3_; have GW532 := n4_; have GE532 := n5_; clear n0_ n1_ n2_ n3_ n4_ n5_; clear hb hbox hg; obtain ⟨Ao11, co11, eo11⟩ := Kd.R_slice HO528.out; subst eo11; have hcz12_0 : w10.cell? ⟨gb532, 0, none⟩ = some (.slice none 0 0) := (blk_cell BK532.out 0).trans rfl; have hcz12_1 : w10.cell? ⟨gb532, 1, none⟩ = some (.slice none 0 0) := (blk_cell BK532.out 1).trans rfl; have hfz12_0 := blk_frozen BK532.out 0; have hfz12_1 := blk_frozen BK532.out 1; obtain ⟨Ao13, co13, eo13⟩ := Kd.R_slice HO531.out; subst eo13) | ((with_reducible refine gate_callee (f := 29) rfl ?_); refine gcW 37 Tryz.func29 #[.agg #[.slice Ao11 t526.length co11, .slice Ao13 t529.length co13]] rfl ?_; (with_reducible refine (impl_WalkText.calls k _ _ t526 _ _ t529 t533 t534 _ ?side1 ?side2 ?side3 ?side4 A6.out).mono ?_); (case side1 => refine (Kd.R_reads' (e := 3) (base := w.heap.size) (ok := fun k_ => some k_ ≠ (.slice Ao13 t529.length co13 : Value).ownBlock) (n := t526.length) (c := co11) ?_).2.2; exact (by apply rbW; exact (Kd.R_mono (Kd.R_far (p := ⟨gb532, 1, none⟩) (Kd.R_far (p := ⟨gb532, 0, none⟩) (Kd.R_types HO528.out BK532.out (by decide)) (fun _ hk => hk.2) (.slice Ao11 t526.length co11)) (fun _ hk => hk.2) (.slice Ao13 t529.length co13)) (fun _ h_ => h_.1)))); (case side2 => exact (Kd.R_reads' HO528.out).2.1); (case side3 => refine (Kd.R_reads' (e := 3) (base := w.heap.size) (ok := fun k_ => some k_ ≠ (.slice Ao11 t526.length co11 : Value).ownBlock) (n := t529.length) (c := co13) ?_).2.2; exact (by apply rbW; exact (Kd.R_mono (Kd.R_far (p := ⟨gb532, 1, none⟩) (Kd.R_far (p := ⟨gb532, 0, none⟩) (Kd.R_types HO531.out BK532.out (by decide)) (fun _ hk => hk.2) (.slice Ao11 t526.length co11)) (fun _ hk => hk.2) (.slice Ao13 t529.length co13)) (fun _ h_ => h_.1)))); (case side4 => exact (Kd.R_reads' HO531.out).2.1); rintro e w14 ⟨rfl, hb⟩; refine ⟨_, rfl, ?_⟩; have n0_ := Aside0.mk (Kd.R_below (by apply rbW; exact (Kd.R_mono (Kd.R_far (p := ⟨gb532, 1, none⟩) (Kd.R_far (p := ⟨gb532, 0, none⟩) (Kd.R_types HO528.out BK532.out (by decide)) (fun _ hk => hk.2) (.slice Ao11 t526.length co11)) (fun _ hk => hk.2) (.slice Ao13 t529.length co13)) (fun _ h_ => h_.1))) hb); have n1_ := Aside0.mk (Kd.R_below (by apply rbW; exact (Kd.R_mono (Kd.R_far (p := ⟨gb532, 1, none⟩) (Kd.R_far (p := ⟨gb532, 0, none⟩) (Kd.R_types HO531.out BK532.out (by decide)) (fun _ hk => hk.2) (.slice Ao11 t526.length co11)) (fun _ hk => hk.2) (.slice Ao13 t529.length co13)) (fun _ h_ => h_.1))) hb); have n2_ := Aside0.mk (blk_below (g := gb532) (o := .cells #[.slice Ao11 t526.length co11, .slice Ao13 t529.length co13] 24 (0, 0)) (by apply kbW; refine blk_put (cs := #[.slice Ao11 t526.length co11, .slice none 0 0]) ?_ 1 _ rfl; apply kbW; refine blk_put (cs := #[.slice none 0 0, .slice none 0 0]) ?_ 0 _ rfl; apply kbW; exact BK532.out) hb); have n3_ := Aside0.mk (below_step (by repeat (first | exact nbW HB.out | refine nbW (below_set ?_ GE532.out))) hb); clear HO528; clear HO531; clear BK532; clear HB; have HO528 := n0_; have HO531 := n1_; have BK532 := n2_; have HB := n3_; clear n0_ n1_ n2_ n3_; (try clear hb); (try clear hb2); (try clear hk); (try clear hi); have hcz15_0 : w14.cell? ⟨gb532, 0, none⟩ = some (.slice Ao11 t526.length co11) := (blk_cell BK532.out 0).trans rfl; have hcz15_1 : w14.cell? ⟨gb532, 1, none⟩ = some (.slice Ao13 t529.length co13) := (blk_cell BK532.out 1).trans rfl; have hfz15_0 := blk_frozen BK532.out 0; have hfz15_1 := blk_frozen BK532.out 1) | ((with_reducible refine gate_callee (f := 30) rfl ?_); refine gcW 42 Tryz.func30 #[.agg #[.slice Ao11 t526.length co11, .slice Ao13 t529.length co13]] rfl ?_; (with_reducible refine (spec_WalkText.calls k _ _ t526 _ _ t529 t535 t536 _ ?side1 ?side2 ?side3 ?side4 A7.out).mono ?_); (case side1 => exact cbW (Kd.R_reads' HO528.out).2.2); (case side2 => exact (Kd.R_reads' HO528.out).2.1); (case side3 => exact cbW (Kd.R_reads' HO531.out).2.2); (case side4 => exact (Kd.R_reads' HO531.out).2.1); rintro e w16 ⟨rfl, hb⟩; refine ⟨_, rfl, ?_⟩; have n0_ := Aside0.mk (Kd.R_below (rbW HO528.out) hb); have n1_ := Aside0.mk (Kd.R_below (rbW HO531.out) hb); have n2_ := Aside0.mk (blk_below (kbW BK532.out) hb); have n3_ := Aside0.mk (below_step (by repeat (first | exact nbW HB.out | refine nbW (below_set ?_ GE532.out))) hb); clear HO528; clear HO531; clear BK532; clear HB; have HO528 := n0_; have HO531 := n1_; have BK532 := n2_; have HB := n3_; clear n0_ n1_ n2_ n3_; (try clear hb); (try clear hb2); (try clear hk); (try clear hi)))
   (try simp only [Act.put, List.setIfInBounds_toArray, List.set_cons_zero, List.set_cons_succ])
   go_cut [58] (fun v58 wc => ∃ (kq : Nat) (x58_7 : Bool), v58 = .bool x58_7 ∧ Aside0 (laws_FnWalkTexts.j0 kq l1 t533 t534 x58_7 t526 t529 = some r) ∧ Aside0 (kq ≤ k) ∧ Aside0 (Kd.R (Kd.int .i64) 3 wc w.heap.size (fun k_ => some k_ ≠ ((.slice Ao13 t529.length co13) : Value).ownBlock) (.slice Ao11 t526.length co11) t526) ∧ Aside0 (Kd.R (Kd.int .i64) 3 wc w.heap.size (fun k_ => some k_ ≠ ((.slice Ao11 t526.length co11) : Value).ownBlock) (.slice Ao13 t529.length co13) t529) ∧ Aside0 (wc.heap[gb532]? = some (.cells #[(.slice Ao11 t526.length co11), (.slice Ao13 t529.length co13)] 24 (0, 0))) ∧ Aside0 (Below w.heap.size w wc))
   case first =>
    have H := HC8.out
    clear HC8
    by_cases c17 : (t534 != t536) = true
    ·rw [if_pos c17] at H
     have c17b0 : (t534 != t536) = true := c17
     (try (have c17b1 : decide (t534 = t536) = false := by simpa using c17))
     (try (have c17b2 : (t534 == t536) = false := by simpa using c17))
     (try (have c17b3 : ¬ (t534 = t536) := by simpa using c17))
     clear c17
     (first | rw [c17b0] | (simp only [i64_w, i32_w]; rw [c17b0]) | rw [c17b1] | skip)
     have H' := Aside0.mk H
     clear H
     go_wp2
     go_meet
     case rel => exact ⟨_, (true), (by first | rfl | (simp; done) | (simp [*]; done)), H', ⟨by first | omega | exact Nat.le_refl _⟩, ⟨by apply rbW; exact HO528.out⟩, ⟨by apply rbW; exact HO531.out⟩, ⟨by apply kbW; exact BK532.out⟩, ⟨by repeat (first | exact nbW HB.out | refine nbW (below_set ?_ GE532.out))⟩⟩
    ·rw [if_neg c17] at H
     have c17b0 : (t534 != t536) = false := by simpa using c17
     (try (have c17b1 : decide (t534 = t536) = true := by simpa using c17))
     (try (have c17b2 : (t534 == t536) = true := by simpa using c17))
     clear c17
     (first | rw [c17b0] | (simp only [i64_w, i32_w]; rw [c17b0]) | rw [c17b1] | skip)
     by_cases c18 : t533.toList = t535.toList
     ·rw [if_pos c18] at H
      have c18b0 : (t533.toList == t535.toList) = true := beq_iff_eq.mpr c18
      have c18b1 : (t533.toList != t535.toList) = false := bne_eq_false_iff_eq.mpr c18
      clear c18
      replace H := Option.bind_eq_some_iff.mp H
      obtain ⟨t537, A190, H⟩ := H
      (try dsimp -simprocs only at H)
      have A19 := Aside0.mk A190
      clear A190
      have H' := Aside0.mk H
      clear H
      have hcz20_0 : w16.cell? ⟨gb532, 0, none⟩ = some (.slice Ao11 t526.length co11) := (blk_cell BK532.out 0).trans rfl
      have hcz20_1 : w16.cell? ⟨gb532, 1, none⟩ = some (.slice Ao13 t529.length co13) := (blk_cell BK532.out 1).trans rfl
      have hfz20_0 := blk_frozen BK532.out 0
      have hfz20_1 := blk_frozen BK532.out 1
      go_wp2_with (first | (go_at_call 31; (with_reducible refine (impl_IsWalk.calls k _ _ t526 _ _ t529 t537 _ ?side1 ?side2 ?side3 ?side4 A19.out).mono ?_); (case side1 => exact cbW (Kd.R_reads' HO528.out).2.2); (case side2 => exact (Kd.R_reads' HO528.out).2.1); (case side3 => exact cbW (Kd.R_reads' HO531.out).2.2); (case side4 => exact (Kd.R_reads' HO531.out).2.1); rintro e w21 ⟨rfl, hb⟩; have n0_ := Aside0.mk (Kd.R_below (rbW HO528.out) hb); have n1_ := Aside0.mk (Kd.R_below (rbW HO531.out) hb); have n2_ := Aside0.mk (blk_below (kbW BK532.out) hb); have n3_ := Aside0.mk (below_step (by repeat (first | exact nbW HB.out | refine nbW (below_set ?_ GE532.out))) hb); clear HO528; clear HO531; clear BK532; clear HB; have HO528 := n0_; have HO531 := n1_; have BK532 := n2_; have HB := n3_; clear n0_ n1_ n2_ n3_; (try clear hb); (try clear hb2); (try clear hk); (try clear hi)))
      go_meet
      case rel => exact ⟨_, ((t534 != t537)), (by first | rfl | (simp; done) | (simp [*]; done)), H', ⟨by first | omega | exact Nat.le_refl _⟩, ⟨by apply rbW; exact HO528.out⟩, ⟨by apply rbW; exact HO531.out⟩, ⟨by apply kbW; exact BK532.out⟩, ⟨by repeat (first | exact nbW HB.out | refine nbW (below_set ?_ GE532.out))⟩⟩
     ·rw [if_neg c18] at H
      have c18b0 : (t533.toList == t535.toList) = false := beq_eq_false_iff_ne.mpr c18
      have c18b1 : (t533.toList != t535.toList) = true := bne_iff_ne.mpr c18
      have H' := Aside0.mk H
      clear H
      go_wp2
      go_meet
      case rel => exact ⟨_, (true), (by first | rfl | (simp; done) | (simp [*]; done)), H', ⟨by first | omega | exact Nat.le_refl _⟩, ⟨by apply rbW; exact HO528.out⟩, ⟨by apply rbW; exact HO531.out⟩, ⟨by apply kbW; exact BK532.out⟩, ⟨by repeat (first | exact nbW HB.out | refine nbW (below_set ?_ GE532.out))⟩⟩
   case rest =>
    clear HC8
    try clear c1
    try clear c2
    try clear p2
    try clear c3
    try clear c4
    try clear c5
    try clear c11
    try clear c17
    try clear c17b0
    try clear c17b1
    try clear c17b2
    try clear c18
    try clear c18b0
    try clear c18b1
    try clear hcz12_0
    try clear hcz12_1
    try clear hcz15_0
    try clear hcz15_1
    try clear hcz20_0
    try clear hcz20_1
    try clear hfz12_0
    try clear hfz12_1
    try clear hfz15_0
    try clear hfz15_1
    try clear hfz20_0
    try clear hfz20_1
    obtain ⟨kq, x58_7, rfl, HA, HJ7, HO_533000, HO_533001, BK532, HB⟩ := hcut
    cases kq with
    | zero => exact absurd HA.out (by simp [laws_FnWalkTexts.j0])
    | succ kj7 =>
     have H := HA.out
     clear HA
     simp only [laws_FnWalkTexts.j0] at H
     by_cases c22 : x58_7 = true
     ·subst c22
      rw [if_pos rfl] at H
      obtain rfl := Option.some.inj H
      go_wp2
      go_ret
      exact ⟨by first | rfl | (simp [errW_none, errW_some] <;> rfl) | (simp [*, errW_none, errW_some] <;> rfl), by repeat (first | exact nbW HB.out | refine nbW (below_set ?_ GE532.out))⟩
     ·as_aux_lemma =>
       replace c22 := Bool.eq_false_iff.mpr c22
       subst c22
       rw [if_neg (show ¬ (false = true) by decide)] at H
       have HC23 := Aside0.mk H
       clear H
       go_upto_if 59 with (fail)
       go_cut [] (fun wc => ∃ (kq : Nat), Aside0 (laws_FnWalkTexts.j1 kq l1 = some r) ∧ Aside0 (kq ≤ kj7) ∧ Aside0 (Kd.R (Kd.int .i64) 3 wc w.heap.size (fun k_ => some k_ ≠ ((.slice Ao13 t529.length co13) : Value).ownBlock) (.slice Ao11 t526.length co11) t526) ∧ Aside0 (Kd.R (Kd.int .i64) 3 wc w.heap.size (fun k_ => some k_ ≠ ((.slice Ao11 t526.length co11) : Value).ownBlock) (.slice Ao13 t529.length co13) t529) ∧ Aside0 (wc.heap[gb532]? = some (.cells #[(.slice Ao11 t526.length co11), (.slice Ao13 t529.length co13)] 24 (0, 0))) ∧ Aside0 (Below w.heap.size w wc))
       case first =>
        have H := HC23.out
        clear HC23
        by_cases c24 : t534 = true
        ·subst c24
         rw [if_pos rfl] at H
         replace H := Option.bind_eq_some_iff.mp H
         obtain ⟨⟨t538, t541, t544⟩, A250, H⟩ := H
         (try dsimp -simprocs only at H)
         have A25 := Aside0.mk A250
         clear A250
         by_cases c26 : t544 = true
         ·subst c26
          rw [if_pos rfl] at H
          replace H := Option.bind_eq_some_iff.mp H
          obtain ⟨t546, A270, H⟩ := H
          (try dsimp -simprocs only at H)
          have A27 := Aside0.mk A270
          clear A270
          by_cases c28 : t546 = true
          ·subst c28
           rw [if_pos rfl] at H
           have H' := Aside0.mk H
           clear H
           go_wp2_with (first | ((with_reducible refine gate_callee (f := 7) rfl ?_); refine gcW 62 Tryz.func7 #[.string t533] rfl ?_; (with_reducible refine (impl_ParseWalk.calls kj7 t533 t538 t541 true _ ?gl A25.out).mono ?_); (case gl => exact Gl.below HGL.out (by repeat (first | exact nbW HB.out | refine nbW (below_set ?_ GE532.out) | refine nbW (below_set ?_ GE545.out) | refine nbW (below_set ?_ GE555.out) | refine nbW (below_set ?_ GE563.out) | refine nbW (below_set ?_ GE581.out)))); rintro e w29 ⟨v539, v542, rfl, ho0, ho1, hb⟩; refine ⟨_, rfl, ?_⟩; have n0_ := Aside0.mk (Kd.R_mono (Kd.R_told (Kd.R_told (Kd.R_old (rbW HO_533000.out) hb) (Kd.R_base ho0)) (Kd.R_base ho1)) (fun _ h_ => h_.1)); have n1_ := Aside0.mk (Kd.R_mono (Kd.R_told (Kd.R_told (Kd.R_old (rbW HO_533001.out) hb) (Kd.R_base ho0)) (Kd.R_base ho1)) (fun _ h_ => h_.1)); have n2_ := Aside0.mk (Kd.R_lower (Kd.R_new' (Kd.R_new' ho0 (Kd.R_lt (rbW HO_533000.out))) (Kd.R_lt (rbW HO_533001.out))) (below_size (by repeat (first | exact nbW HB.out | refine nbW (below_set ?_ GE532.out))))); have n3_ := Aside0.mk (Kd.R_lower (Kd.R_new' (Kd.R_new' ho1 (Kd.R_lt (rbW HO_533000.out))) (Kd.R_lt (rbW HO_533001.out))) (below_size (by repeat (first | exact nbW HB.out | refine nbW (below_set ?_ GE532.out))))); have n4_ := Aside0.mk (blk_below (kbW BK532.out) hb); have n5_ := Aside0.mk (below_step (by repeat (first | exact nbW HB.out | refine nbW (below_set ?_ GE532.out))) hb); clear HO_533000; clear HO_533001; clear BK532; clear HB; have HO_533000 := n0_; have HO_533001 := n1_; have HO540 := n2_; have HO543 := n3_; have BK532 := n4_; have HB := n5_; clear n0_ n1_ n2_ n3_ n4_ n5_; (try clear hb); (try clear hb2); (try clear hk); (try clear hi); (try clear ho0); (try clear ho1)) | ((with_reducible refine gate_dst (N := 10) rfl ?_); refine box_event ?hg (N := 10) ?hd (cs := #[.slice none 0 0, .slice none 0 0]) (t := 24) ?hr ?_; (case hd => rfl); (case hg => rfl); (case hr => first | (go_simp; done) | (go_simp; rfl)); intro gb545 hg w30 hbox hb; have n0_ := Aside0.mk (Kd.R_below (rbW HO_533000.out) hb); have n1_ := Aside0.mk (Kd.R_below (rbW HO_533001.out) hb); have n2_ := Aside0.mk (Kd.R_below (rbW HO540.out) hb); have n3_ := Aside0.mk (Kd.R_below (rbW HO543.out) hb); have n4_ := Aside0.mk (blk_below (kbW BK532.out) hb); have n5_ := Aside0.mk (below_step (by repeat (first | exact nbW HB.out | refine nbW (below_set ?_ GE532.out))) hb); have n6_ := Aside0.mk (hbox); have n7_ := Aside0.mk ((by rw [hg]; exact (below_size (by repeat (first | exact nbW HB.out | refine nbW (below_set ?_ GE532.out)))) : w.heap.size ≤ gb545)); have n8_ := Aside0.mk ((by rw [hg]; exact (below_size (by repeat (first | exact nbW HB.out | refine nbW (below_set ?_ GE532.out)))) : w.heap.size ≤ gb545)); have n9_ := Aside0.mk ((by rw [hg]; exact Nat.ne_of_lt (blk_lt (g := gb532) (o := .cells #[.slice Ao11 t526.length co11, .slice Ao13 t529.length co13] 24 (0, 0)) (kbW BK532.out)) : gb532 ≠ gb545)); have n10_ := Aside0.mk ((by rw [hg]; exact Nat.ne_of_gt (blk_lt (g := gb532) (o := .cells #[.slice Ao11 t526.length co11, .slice Ao13 t529.length co13] 24 (0, 0)) (kbW BK532.out)) : gb545 ≠ gb532)); clear HO_533000; clear HO_533001; clear HO540; clear HO543; clear BK532; clear HB; have HO_533000 := n0_; have HO_533001 := n1_; have HO540 := n2_; have HO543 := n3_; have BK532 := n4_; have HB := n5_; have BK545 := n6_; have GW545 := n7_; have GE545 := n8_; have NB532_545 := n9_; have NB545_532 := n10_; clear n0_ n1_ n2_ n3_ n4_ n5_ n6_ n7_ n8_ n9_ n10_; clear hb hbox hg; obtain ⟨Ao31, co31, eo31⟩ := Kd.R_slice HO540.out; subst eo31; have hnb32 := NB545_532.out; have hnc32 := NB532_545.out; have hcz33_0 : w30.cell? ⟨gb545, 0, none⟩ = some (.slice none 0 0) := (blk_cell BK545.out 0).trans rfl; have hcz33_1 : w30.cell? ⟨gb545, 1, none⟩ = some (.slice none 0 0) := (blk_cell BK545.out 1).trans rfl; have hfz33_0 := blk_frozen BK545.out 0; have hfz33_1 := blk_frozen BK545.out 1; obtain ⟨Ao34, co34, eo34⟩ := Kd.R_slice HO543.out; subst eo34; have hcz35_0 : w30.cell? ⟨gb532, 0, none⟩ = some (.slice Ao11 t526.length co11) := (blk_cell BK532.out 0).trans rfl; have hcz35_1 : w30.cell? ⟨gb532, 1, none⟩ = some (.slice Ao13 t529.length co13) := (blk_cell BK532.out 1).trans rfl; have hfz35_0 := blk_frozen BK532.out 0; have hfz35_1 := blk_frozen BK532.out 1) | (go_at_call 32; (with_reducible refine (laws_wSameWalk.calls kj7 _ _ t538 _ _ t541 _ _ t526 _ _ t529 true _ ?side1 ?side2 ?side3 ?side4 ?side5 ?side6 ?side7 ?side8 A27.out).mono ?_); (case side1 => refine (Kd.R_reads' (e := 3) (base := w.heap.size) (ok := fun k_ => ((some k_ ≠ (.slice Ao34 t541.length co34 : Value).ownBlock ∧ some k_ ≠ (.slice Ao11 t526.length co11 : Value).ownBlock) ∧ some k_ ≠ (.slice Ao13 t529.length co13 : Value).ownBlock)) (n := t538.length) (c := co31) ?_).2.2; exact (by apply rbW; exact (Kd.R_mono (Kd.R_far (p := ⟨gb545, 1, none⟩) (Kd.R_far (p := ⟨gb545, 0, none⟩) (Kd.R_types HO540.out BK545.out (by decide)) (fun _ hk => hk.2) (.slice Ao31 t538.length co31)) (fun _ hk => hk.2) (.slice Ao34 t541.length co34)) (fun _ h_ => h_.1)))); (case side2 => exact (Kd.R_reads' HO540.out).2.1); (case side3 => refine (Kd.R_reads' (e := 3) (base := w.heap.size) (ok := fun k_ => ((some k_ ≠ (.slice Ao31 t538.length co31 : Value).ownBlock ∧ some k_ ≠ (.slice Ao11 t526.length co11 : Value).ownBlock) ∧ some k_ ≠ (.slice Ao13 t529.length co13 : Value).ownBlock)) (n := t541.length) (c := co34) ?_).2.2; exact (by apply rbW; exact (Kd.R_mono (Kd.R_far (p := ⟨gb545, 1, none⟩) (Kd.R_far (p := ⟨gb545, 0, none⟩) (Kd.R_types HO543.out BK545.out (by decide)) (fun _ hk => hk.2) (.slice Ao31 t538.length co31)) (fun _ hk => hk.2) (.slice Ao34 t541.length co34)) (fun _ h_ => h_.1)))); (case side4 => exact (Kd.R_reads' HO543.out).2.1); (case side5 => refine (Kd.R_reads' (e := 3) (base := w.heap.size) (ok := fun k_ => ((some k_ ≠ (.slice Ao13 t529.length co13 : Value).ownBlock ∧ some k_ ≠ (.slice Ao31 t538.length co31 : Value).ownBlock) ∧ some k_ ≠ (.slice Ao34 t541.length co34 : Value).ownBlock)) (n := t526.length) (c := co11) ?_).2.2; exact (by apply rbW; exact (Kd.R_mono (Kd.R_far (p := ⟨gb545, 1, none⟩) (Kd.R_far (p := ⟨gb545, 0, none⟩) (Kd.R_types HO_533000.out BK545.out (by decide)) (fun _ hk => hk.2) (.slice Ao31 t538.length co31)) (fun _ hk => hk.2) (.slice Ao34 t541.length co34)) (fun _ h_ => h_.1)))); (case side6 => exact (Kd.R_reads' HO_533000.out).2.1); (case side7 => refine (Kd.R_reads' (e := 3) (base := w.heap.size) (ok := fun k_ => ((some k_ ≠ (.slice Ao11 t526.length co11 : Value).ownBlock ∧ some k_ ≠ (.slice Ao31 t538.length co31 : Value).ownBlock) ∧ some k_ ≠ (.slice Ao34 t541.length co34 : Value).ownBlock)) (n := t529.length) (c := co13) ?_).2.2; exact (by apply rbW; exact (Kd.R_mono (Kd.R_far (p := ⟨gb545, 1, none⟩) (Kd.R_far (p := ⟨gb545, 0, none⟩) (Kd.R_types HO_533001.out BK545.out (by decide)) (fun _ hk => hk.2) (.slice Ao31 t538.length co31)) (fun _ hk => hk.2) (.slice Ao34 t541.length co34)) (fun _ h_ => h_.1)))); (case side8 => exact (Kd.R_reads' HO_533001.out).2.1); rintro e w36 ⟨rfl, hb⟩; have n0_ := Aside0.mk (Kd.R_below (by apply rbW; exact (Kd.R_mono (Kd.R_far (p := ⟨gb545, 1, none⟩) (Kd.R_far (p := ⟨gb545, 0, none⟩) (Kd.R_types HO_533000.out BK545.out (by decide)) (fun _ hk => hk.2) (.slice Ao31 t538.length co31)) (fun _ hk => hk.2) (.slice Ao34 t541.length co34)) (fun _ h_ => h_.1))) hb); have n1_ := Aside0.mk (Kd.R_below (by apply rbW; exact (Kd.R_mono (Kd.R_far (p := ⟨gb545, 1, none⟩) (Kd.R_far (p := ⟨gb545, 0, none⟩) (Kd.R_types HO_533001.out BK545.out (by decide)) (fun _ hk => hk.2) (.slice Ao31 t538.length co31)) (fun _ hk => hk.2) (.slice Ao34 t541.length co34)) (fun _ h_ => h_.1))) hb); have n2_ := Aside0.mk (Kd.R_below (by apply rbW; exact (Kd.R_mono (Kd.R_far (p := ⟨gb545, 1, none⟩) (Kd.R_far (p := ⟨gb545, 0, none⟩) (Kd.R_types HO540.out BK545.out (by decide)) (fun _ hk => hk.2) (.slice Ao31 t538.length co31)) (fun _ hk => hk.2) (.slice Ao34 t541.length co34)) (fun _ h_ => h_.1))) hb); have n3_ := Aside0.mk (Kd.R_below (by apply rbW; exact (Kd.R_mono (Kd.R_far (p := ⟨gb545, 1, none⟩) (Kd.R_far (p := ⟨gb545, 0, none⟩) (Kd.R_types HO543.out BK545.out (by decide)) (fun _ hk => hk.2) (.slice Ao31 t538.length co31)) (fun _ hk => hk.2) (.slice Ao34 t541.length co34)) (fun _ h_ => h_.1))) hb); have n4_ := Aside0.mk (blk_below (g := gb532) (o := .cells #[.slice Ao11 t526.length co11, .slice Ao13 t529.length co13] 24 (0, 0)) (by apply kbW; refine blk_far ?_ NB532_545.out _; apply kbW; refine blk_far ?_ NB532_545.out _; apply kbW; exact BK532.out) hb); have n5_ := Aside0.mk (blk_below (g := gb545) (o := .cells #[.slice Ao31 t538.length co31, .slice Ao34 t541.length co34] 24 (0, 0)) (by apply kbW; refine blk_put (cs := #[.slice Ao31 t538.length co31, .slice none 0 0]) ?_ 1 _ rfl; apply kbW; refine blk_put (cs := #[.slice none 0 0, .slice none 0 0]) ?_ 0 _ rfl; apply kbW; exact BK545.out) hb); have n6_ := Aside0.mk (below_step (by repeat (first | exact nbW HB.out | refine nbW (below_set ?_ GE532.out) | refine nbW (below_set ?_ GE545.out))) hb); clear HO_533000; clear HO_533001; clear HO540; clear HO543; clear BK532; clear BK545; clear HB; have HO_533000 := n0_; have HO_533001 := n1_; have HO540 := n2_; have HO543 := n3_; have BK532 := n4_; have BK545 := n5_; have HB := n6_; clear n0_ n1_ n2_ n3_ n4_ n5_ n6_; (try clear hb); (try clear hb2); (try clear hk); (try clear hi)))
           go_meet
           case rel => exact ⟨_, H', ⟨by have := HJ7.out; first | omega | exact Nat.le_refl _⟩, ⟨by apply rbW; exact Kd.R_mono HO_533000.out (fun _ hk => hk.1.1)⟩, ⟨by apply rbW; exact Kd.R_mono HO_533001.out (fun _ hk => hk.1.1)⟩, ⟨by apply kbW; exact BK532.out⟩, ⟨by repeat (first | exact nbW HB.out | refine nbW (below_set ?_ GE532.out) | refine nbW (below_set ?_ GE545.out))⟩⟩
          ·replace c28 := Bool.eq_false_iff.mpr c28
           subst c28
           rw [if_neg (show ¬ (false = true) by decide)] at H
           obtain rfl := Option.some.inj H
           go_wp2_with (first | ((with_reducible refine gate_callee (f := 7) rfl ?_); refine gcW 62 Tryz.func7 #[.string t533] rfl ?_; (with_reducible refine (impl_ParseWalk.calls kj7 t533 t538 t541 true _ ?gl A25.out).mono ?_); (case gl => exact Gl.below HGL.out (by repeat (first | exact nbW HB.out | refine nbW (below_set ?_ GE532.out) | refine nbW (below_set ?_ GE545.out) | refine nbW (below_set ?_ GE555.out) | refine nbW (below_set ?_ GE563.out) | refine nbW (below_set ?_ GE581.out)))); rintro e w37 ⟨v539, v542, rfl, ho0, ho1, hb⟩; refine ⟨_, rfl, ?_⟩; have n0_ := Aside0.mk (Kd.R_mono (Kd.R_told (Kd.R_told (Kd.R_old (rbW HO_533000.out) hb) (Kd.R_base ho0)) (Kd.R_base ho1)) (fun _ h_ => h_.1)); have n1_ := Aside0.mk (Kd.R_mono (Kd.R_told (Kd.R_told (Kd.R_old (rbW HO_533001.out) hb) (Kd.R_base ho0)) (Kd.R_base ho1)) (fun _ h_ => h_.1)); have n2_ := Aside0.mk (Kd.R_lower (Kd.R_new' (Kd.R_new' ho0 (Kd.R_lt (rbW HO_533000.out))) (Kd.R_lt (rbW HO_533001.out))) (below_size (by repeat (first | exact nbW HB.out | refine nbW (below_set ?_ GE532.out))))); have n3_ := Aside0.mk (Kd.R_lower (Kd.R_new' (Kd.R_new' ho1 (Kd.R_lt (rbW HO_533000.out))) (Kd.R_lt (rbW HO_533001.out))) (below_size (by repeat (first | exact nbW HB.out | refine nbW (below_set ?_ GE532.out))))); have n4_ := Aside0.mk (blk_below (kbW BK532.out) hb); have n5_ := Aside0.mk (below_step (by repeat (first | exact nbW HB.out | refine nbW (below_set ?_ GE532.out))) hb); clear HO_533000; clear HO_533001; clear BK532; clear HB; have HO_533000 := n0_; have HO_533001 := n1_; have HO540 := n2_; have HO543 := n3_; have BK532 := n4_; have HB := n5_; clear n0_ n1_ n2_ n3_ n4_ n5_; (try clear hb); (try clear hb2); (try clear hk); (try clear hi); (try clear ho0); (try clear ho1)) | ((with_reducible refine gate_dst (N := 10) rfl ?_); refine box_event ?hg (N := 10) ?hd (cs := #[.slice none 0 0, .slice none 0 0]) (t := 24) ?hr ?_; (case hd => rfl); (case hg => rfl); (case hr => first | (go_simp; done) | (go_simp; rfl)); intro gb545 hg w38 hbox hb; have n0_ := Aside0.mk (Kd.R_below (rbW HO_533000.out) hb); have n1_ := Aside0.mk (Kd.R_below (rbW HO_533001.out) hb); have n2_ := Aside0.mk (Kd.R_below (rbW HO540.out) hb); have n3_ := Aside0.mk (Kd.R_below (rbW HO543.out) hb); have n4_ := Aside0.mk (blk_below (kbW BK532.out) hb); have n5_ := Aside0.mk (below_step (by repeat (first | exact nbW HB.out | refine nbW (below_set ?_ GE532.out))) hb); have n6_ := Aside0.mk (hbox); have n7_ := Aside0.mk ((by rw [hg]; exact (below_size (by repeat (first | exact nbW HB.out | refine nbW (below_set ?_ GE532.out)))) : w.heap.size ≤ gb545)); have n8_ := Aside0.mk ((by rw [hg]; exact (below_size (by repeat (first | exact nbW HB.out | refine nbW (below_set ?_ GE532.out)))) : w.heap.size ≤ gb545)); have n9_ := Aside0.mk ((by rw [hg]; exact Nat.ne_of_lt (blk_lt (g := gb532) (o := .cells #[.slice Ao11 t526.length co11, .slice Ao13 t529.length co13] 24 (0, 0)) (kbW BK532.out)) : gb532 ≠ gb545)); have n10_ := Aside0.mk ((by rw [hg]; exact Nat.ne_of_gt (blk_lt (g := gb532) (o := .cells #[.slice Ao11 t526.length co11, .slice Ao13 t529.length co13] 24 (0, 0)) (kbW BK532.out)) : gb545 ≠ gb532)); clear HO_533000; clear HO_533001; clear HO540; clear HO543; clear BK532; clear HB; have HO_533000 := n0_; have HO_533001 := n1_; have HO540 := n2_; have HO543 := n3_; have BK532 := n4_; have HB := n5_; have BK545 := n6_; have GW545 := n7_; have GE545 := n8_; have NB532_545 := n9_; have NB545_532 := n10_; clear n0_ n1_ n2_ n3_ n4_ n5_ n6_ n7_ n8_ n9_ n10_; clear hb hbox hg; obtain ⟨Ao39, co39, eo39⟩ := Kd.R_slice HO540.out; subst eo39; have hnb40 := NB545_532.out; have hnc40 := NB532_545.out; have hcz41_0 : w38.cell? ⟨gb545, 0, none⟩ = some (.slice none 0 0) := (blk_cell BK545.out 0).trans rfl; have hcz41_1 : w38.cell? ⟨gb545, 1, none⟩ = some (.slice none 0 0) := (blk_cell BK545.out 1).trans rfl; have hfz41_0 := blk_frozen BK545.out 0; have hfz41_1 := blk_frozen BK545.out 1; obtain ⟨Ao42, co42, eo42⟩ := Kd.R_slice HO543.out; subst eo42; have hcz43_0 : w38.cell? ⟨gb532, 0, none⟩ = some (.slice Ao11 t526.length co11) := (blk_cell BK532.out 0).trans rfl; have hcz43_1 : w38.cell? ⟨gb532, 1, none⟩ = some (.slice Ao13 t529.length co13) := (blk_cell BK532.out 1).trans rfl; have hfz43_0 := blk_frozen BK532.out 0; have hfz43_1 := blk_frozen BK532.out 1) | (go_at_call 32; (with_reducible refine (laws_wSameWalk.calls kj7 _ _ t538 _ _ t541 _ _ t526 _ _ t529 false _ ?side1 ?side2 ?side3 ?side4 ?side5 ?side6 ?side7 ?side8 A27.out).mono ?_); (case side1 => refine (Kd.R_reads' (e := 3) (base := w.heap.size) (ok := fun k_ => ((some k_ ≠ (.slice Ao42 t541.length co42 : Value).ownBlock ∧ some k_ ≠ (.slice Ao11 t526.length co11 : Value).ownBlock) ∧ some k_ ≠ (.slice Ao13 t529.length co13 : Value).ownBlock)) (n := t538.length) (c := co39) ?_).2.2; exact (by apply rbW; exact (Kd.R_mono (Kd.R_far (p := ⟨gb545, 1, none⟩) (Kd.R_far (p := ⟨gb545, 0, none⟩) (Kd.R_types HO540.out BK545.out (by decide)) (fun _ hk => hk.2) (.slice Ao39 t538.length co39)) (fun _ hk => hk.2) (.slice Ao42 t541.length co42)) (fun _ h_ => h_.1)))); (case side2 => exact (Kd.R_reads' HO540.out).2.1); (case side3 => refine (Kd.R_reads' (e := 3) (base := w.heap.size) (ok := fun k_ => ((some k_ ≠ (.slice Ao39 t538.length co39 : Value).ownBlock ∧ some k_ ≠ (.slice Ao11 t526.length co11 : Value).ownBlock) ∧ some k_ ≠ (.slice Ao13 t529.length co13 : Value).ownBlock)) (n := t541.length) (c := co42) ?_).2.2; exact (by apply rbW; exact (Kd.R_mono (Kd.R_far (p := ⟨gb545, 1, none⟩) (Kd.R_far (p := ⟨gb545, 0, none⟩) (Kd.R_types HO543.out BK545.out (by decide)) (fun _ hk => hk.2) (.slice Ao39 t538.length co39)) (fun _ hk => hk.2) (.slice Ao42 t541.length co42)) (fun _ h_ => h_.1)))); (case side4 => exact (Kd.R_reads' HO543.out).2.1); (case side5 => refine (Kd.R_reads' (e := 3) (base := w.heap.size) (ok := fun k_ => ((some k_ ≠ (.slice Ao13 t529.length co13 : Value).ownBlock ∧ some k_ ≠ (.slice Ao39 t538.length co39 : Value).ownBlock) ∧ some k_ ≠ (.slice Ao42 t541.length co42 : Value).ownBlock)) (n := t526.length) (c := co11) ?_).2.2; exact (by apply rbW; exact (Kd.R_mono (Kd.R_far (p := ⟨gb545, 1, none⟩) (Kd.R_far (p := ⟨gb545, 0, none⟩) (Kd.R_types HO_533000.out BK545.out (by decide)) (fun _ hk => hk.2) (.slice Ao39 t538.length co39)) (fun _ hk => hk.2) (.slice Ao42 t541.length co42)) (fun _ h_ => h_.1)))); (case side6 => exact (Kd.R_reads' HO_533000.out).2.1); (case side7 => refine (Kd.R_reads' (e := 3) (base := w.heap.size) (ok := fun k_ => ((some k_ ≠ (.slice Ao11 t526.length co11 : Value).ownBlock ∧ some k_ ≠ (.slice Ao39 t538.length co39 : Value).ownBlock) ∧ some k_ ≠ (.slice Ao42 t541.length co42 : Value).ownBlock)) (n := t529.length) (c := co13) ?_).2.2; exact (by apply rbW; exact (Kd.R_mono (Kd.R_far (p := ⟨gb545, 1, none⟩) (Kd.R_far (p := ⟨gb545, 0, none⟩) (Kd.R_types HO_533001.out BK545.out (by decide)) (fun _ hk => hk.2) (.slice Ao39 t538.length co39)) (fun _ hk => hk.2) (.slice Ao42 t541.length co42)) (fun _ h_ => h_.1)))); (case side8 => exact (Kd.R_reads' HO_533001.out).2.1); rintro e w44 ⟨rfl, hb⟩; have n0_ := Aside0.mk (Kd.R_below (by apply rbW; exact (Kd.R_mono (Kd.R_far (p := ⟨gb545, 1, none⟩) (Kd.R_far (p := ⟨gb545, 0, none⟩) (Kd.R_types HO_533000.out BK545.out (by decide)) (fun _ hk => hk.2) (.slice Ao39 t538.length co39)) (fun _ hk => hk.2) (.slice Ao42 t541.length co42)) (fun _ h_ => h_.1))) hb); have n1_ := Aside0.mk (Kd.R_below (by apply rbW; exact (Kd.R_mono (Kd.R_far (p := ⟨gb545, 1, none⟩) (Kd.R_far (p := ⟨gb545, 0, none⟩) (Kd.R_types HO_533001.out BK545.out (by decide)) (fun _ hk => hk.2) (.slice Ao39 t538.length co39)) (fun _ hk => hk.2) (.slice Ao42 t541.length co42)) (fun _ h_ => h_.1))) hb); have n2_ := Aside0.mk (Kd.R_below (by apply rbW; exact (Kd.R_mono (Kd.R_far (p := ⟨gb545, 1, none⟩) (Kd.R_far (p := ⟨gb545, 0, none⟩) (Kd.R_types HO540.out BK545.out (by decide)) (fun _ hk => hk.2) (.slice Ao39 t538.length co39)) (fun _ hk => hk.2) (.slice Ao42 t541.length co42)) (fun _ h_ => h_.1))) hb); have n3_ := Aside0.mk (Kd.R_below (by apply rbW; exact (Kd.R_mono (Kd.R_far (p := ⟨gb545, 1, none⟩) (Kd.R_far (p := ⟨gb545, 0, none⟩) (Kd.R_types HO543.out BK545.out (by decide)) (fun _ hk => hk.2) (.slice Ao39 t538.length co39)) (fun _ hk => hk.2) (.slice Ao42 t541.length co42)) (fun _ h_ => h_.1))) hb); have n4_ := Aside0.mk (blk_below (g := gb532) (o := .cells #[.slice Ao11 t526.length co11, .slice Ao13 t529.length co13] 24 (0, 0)) (by apply kbW; refine blk_far ?_ NB532_545.out _; apply kbW; refine blk_far ?_ NB532_545.out _; apply kbW; exact BK532.out) hb); have n5_ := Aside0.mk (blk_below (g := gb545) (o := .cells #[.slice Ao39 t538.length co39, .slice Ao42 t541.length co42] 24 (0, 0)) (by apply kbW; refine blk_put (cs := #[.slice Ao39 t538.length co39, .slice none 0 0]) ?_ 1 _ rfl; apply kbW; refine blk_put (cs := #[.slice none 0 0, .slice none 0 0]) ?_ 0 _ rfl; apply kbW; exact BK545.out) hb); have n6_ := Aside0.mk (below_step (by repeat (first | exact nbW HB.out | refine nbW (below_set ?_ GE532.out) | refine nbW (below_set ?_ GE545.out))) hb); clear HO_533000; clear HO_533001; clear HO540; clear HO543; clear BK532; clear BK545; clear HB; have HO_533000 := n0_; have HO_533001 := n1_; have HO540 := n2_; have HO543 := n3_; have BK532 := n4_; have BK545 := n5_; have HB := n6_; clear n0_ n1_ n2_ n3_ n4_ n5_ n6_; (try clear hb); (try clear hb2); (try clear hk); (try clear hi)))
           go_ret
           exact ⟨by first | rfl | (simp [errW_none, errW_some] <;> rfl) | (simp [*, errW_none, errW_some] <;> rfl), by repeat (first | exact nbW HB.out | refine nbW (below_set ?_ GE532.out) | refine nbW (below_set ?_ GE545.out))⟩
         ·replace c26 := Bool.eq_false_iff.mpr c26
          subst c26
          rw [if_neg (show ¬ (false = true) by decide)] at H
          obtain rfl := Option.some.inj H
          go_wp2_with (first | ((with_reducible refine gate_callee (f := 7) rfl ?_); refine gcW 62 Tryz.func7 #[.string t533] rfl ?_; (with_reducible refine (impl_ParseWalk.calls kj7 t533 t538 t541 false _ ?gl A25.out).mono ?_); (case gl => exact Gl.below HGL.out (by repeat (first | exact nbW HB.out | refine nbW (below_set ?_ GE532.out) | refine nbW (below_set ?_ GE545.out) | refine nbW (below_set ?_ GE555.out) | refine nbW (below_set ?_ GE563.out) | refine nbW (below_set ?_ GE581.out)))); rintro e w45 ⟨v539, v542, rfl, ho0, ho1, hb⟩; refine ⟨_, rfl, ?_⟩; have n0_ := Aside0.mk (Kd.R_mono (Kd.R_told (Kd.R_told (Kd.R_old (rbW HO_533000.out) hb) (Kd.R_base ho0)) (Kd.R_base ho1)) (fun _ h_ => h_.1)); have n1_ := Aside0.mk (Kd.R_mono (Kd.R_told (Kd.R_told (Kd.R_old (rbW HO_533001.out) hb) (Kd.R_base ho0)) (Kd.R_base ho1)) (fun _ h_ => h_.1)); have n2_ := Aside0.mk (Kd.R_lower (Kd.R_new' (Kd.R_new' ho0 (Kd.R_lt (rbW HO_533000.out))) (Kd.R_lt (rbW HO_533001.out))) (below_size (by repeat (first | exact nbW HB.out | refine nbW (below_set ?_ GE532.out))))); have n3_ := Aside0.mk (Kd.R_lower (Kd.R_new' (Kd.R_new' ho1 (Kd.R_lt (rbW HO_533000.out))) (Kd.R_lt (rbW HO_533001.out))) (below_size (by repeat (first | exact nbW HB.out | refine nbW (below_set ?_ GE532.out))))); have n4_ := Aside0.mk (blk_below (kbW BK532.out) hb); have n5_ := Aside0.mk (below_step (by repeat (first | exact nbW HB.out | refine nbW (below_set ?_ GE532.out))) hb); clear HO_533000; clear HO_533001; clear BK532; clear HB; have HO_533000 := n0_; have HO_533001 := n1_; have HO540 := n2_; have HO543 := n3_; have BK532 := n4_; have HB := n5_; clear n0_ n1_ n2_ n3_ n4_ n5_; (try clear hb); (try clear hb2); (try clear hk); (try clear hi); (try clear ho0); (try clear ho1)) | ((with_reducible refine gate_dst (N := 10) rfl ?_); refine box_event ?hg (N := 10) ?hd (cs := #[.slice none 0 0, .slice none 0 0]) (t := 24) ?hr ?_; (case hd => rfl); (case hg => rfl); (case hr => first | (go_simp; done) | (go_simp; rfl)); intro gb545 hg w46 hbox hb; have n0_ := Aside0.mk (Kd.R_below (rbW HO_533000.out) hb); have n1_ := Aside0.mk (Kd.R_below (rbW HO_533001.out) hb); have n2_ := Aside0.mk (Kd.R_below (rbW HO540.out) hb); have n3_ := Aside0.mk (Kd.R_below (rbW HO543.out) hb); have n4_ := Aside0.mk (blk_below (kbW BK532.out) hb); have n5_ := Aside0.mk (below_step (by repeat (first | exact nbW HB.out | refine nbW (below_set ?_ GE532.out))) hb); have n6_ := Aside0.mk (hbox); have n7_ := Aside0.mk ((by rw [hg]; exact (below_size (by repeat (first | exact nbW HB.out | refine nbW (below_set ?_ GE532.out)))) : w.heap.size ≤ gb545)); have n8_ := Aside0.mk ((by rw [hg]; exact (below_size (by repeat (first | exact nbW HB.out | refine nbW (below_set ?_ GE532.out)))) : w.heap.size ≤ gb545)); have n9_ := Aside0.mk ((by rw [hg]; exact Nat.ne_of_lt (blk_lt (g := gb532) (o := .cells #[.slice Ao11 t526.length co11, .slice Ao13 t529.length co13] 24 (0, 0)) (kbW BK532.out)) : gb532 ≠ gb545)); have n10_ := Aside0.mk ((by rw [hg]; exact Nat.ne_of_gt (blk_lt (g := gb532) (o := .cells #[.slice Ao11 t526.length co11, .slice Ao13 t529.length co13] 24 (0, 0)) (kbW BK532.out)) : gb545 ≠ gb532)); clear HO_533000; clear HO_533001; clear HO540; clear HO543; clear BK532; clear HB; have HO_533000 := n0_; have HO_533001 := n1_; have HO540 := n2_; have HO543 := n3_; have BK532 := n4_; have HB := n5_; have BK545 := n6_; have GW545 := n7_; have GE545 := n8_; have NB532_545 := n9_; have NB545_532 := n10_; clear n0_ n1_ n2_ n3_ n4_ n5_ n6_ n7_ n8_ n9_ n10_; clear hb hbox hg; obtain ⟨Ao47, co47, eo47⟩ := Kd.R_slice HO540.out; subst eo47; have hnb48 := NB545_532.out; have hnc48 := NB532_545.out; have hcz49_0 : w46.cell? ⟨gb545, 0, none⟩ = some (.slice none 0 0) := (blk_cell BK545.out 0).trans rfl; have hcz49_1 : w46.cell? ⟨gb545, 1, none⟩ = some (.slice none 0 0) := (blk_cell BK545.out 1).trans rfl; have hfz49_0 := blk_frozen BK545.out 0; have hfz49_1 := blk_frozen BK545.out 1; obtain ⟨Ao50, co50, eo50⟩ := Kd.R_slice HO543.out; subst eo50))
          go_ret
          exact ⟨by first | rfl | (simp [errW_none, errW_some] <;> rfl) | (simp [*, errW_none, errW_some] <;> rfl), by repeat (first | exact nbW HB.out | refine nbW (below_set ?_ GE532.out) | refine nbW (below_set ?_ GE545.out))⟩
        ·replace c24 := Bool.eq_false_iff.mpr c24
         subst c24
         rw [if_neg (show ¬ (false = true) by decide)] at H
         have H' := Aside0.mk H
         clear H
         go_wp2
         go_meet
         case rel => exact ⟨_, H', ⟨by have := HJ7.out; first | omega | exact Nat.le_refl _⟩, ⟨by apply rbW; exact HO_533000.out⟩, ⟨by apply rbW; exact HO_533001.out⟩, ⟨by apply kbW; exact BK532.out⟩, ⟨by repeat (first | exact nbW HB.out | refine nbW (below_set ?_ GE532.out))⟩⟩
       case rest =>
        clear HC23
        try clear c1
        try clear c2
        try clear p2
        try clear c3
        try clear c4
        try clear c5
        try clear c7
        try clear c11
        try clear c17
        try clear c17b0
        try clear c17b1
        try clear c17b2
        try clear c18
        try clear c18b0
        try clear c18b1
        try clear c22
        try clear c24
        try clear c26
        try clear c28
        try clear c29
        try clear c30
        try clear c32
        try clear c40
        try clear c48
        try clear hcz12_0
        try clear hcz12_1
        try clear hcz15_0
        try clear hcz15_1
        try clear hcz20_0
        try clear hcz20_1
        try clear hcz33_0
        try clear hcz33_1
        try clear hcz35_0
        try clear hcz35_1
        try clear hcz41_0
        try clear hcz41_1
        try clear hcz43_0
        try clear hcz43_1
        try clear hcz49_0
        try clear hcz49_1
        try clear hfz12_0
        try clear hfz12_1
        try clear hfz15_0
        try clear hfz15_1
        try clear hfz20_0
        try clear hfz20_1
        try clear hfz33_0
        try clear hfz33_1
        try clear hfz35_0
        try clear hfz35_1
        try clear hfz41_0
        try clear hfz41_1
        try clear hfz43_0
        try clear hfz43_1
        try clear hfz49_0
        try clear hfz49_1
        try clear p2
        obtain ⟨kq, HA, HJ22, HO_533000, HO_533001, BK532, HB⟩ := hcut
        cases kq with
        | zero => exact absurd HA.out (by simp [laws_FnWalkTexts.j1])
        | succ kj22 =>
         have H := HA.out
         clear HA
         simp only [laws_FnWalkTexts.j1] at H
         replace H := Option.bind_eq_some_iff.mp H
         obtain ⟨t547, A510, H⟩ := H
         (try dsimp -simprocs only at H)
         have A51 := Aside0.mk A510
         clear A510
         replace H := Option.bind_eq_some_iff.mp H
         obtain ⟨⟨t548, t551, t554⟩, A520, H⟩ := H
         (try dsimp -simprocs only at H)
         have A52 := Aside0.mk A520
         clear A520
         replace H := Option.bind_eq_some_iff.mp H
         obtain ⟨⟨t556, t559, t562⟩, A530, H⟩ := H
         (try dsimp -simprocs only at H)
         have A53 := Aside0.mk A530
         clear A530
         have HC54 := Aside0.mk H
         clear H
         go_upto_region 15 with (first | ((with_reducible refine gate_callee (f := 33) rfl ?_); refine gcW 74 Tryz.func33 #[.slice A1 l1.length c1] rfl ?_; (with_reducible refine (spec_DrawParseWalk.calls kj22 _ _ l1 t547 _ ?side1 ?side2 A51.out).mono ?_); (case side1 => exact cbW (Kd.C_below HR1.out HB.out)); (case side2 => exact HC1.out); rintro e w55 ⟨rfl, hb⟩; refine ⟨_, rfl, ?_⟩; have n0_ := Aside0.mk (Kd.R_below (rbW HO_533000.out) hb); have n1_ := Aside0.mk (Kd.R_below (rbW HO_533001.out) hb); have n2_ := Aside0.mk (blk_below (kbW BK532.out) hb); have n3_ := Aside0.mk (below_step (by repeat (first | exact nbW HB.out | refine nbW (below_set ?_ GE532.out))) hb); clear HO_533000; clear HO_533001; clear BK532; clear HB; have HO_533000 := n0_; have HO_533001 := n1_; have BK532 := n2_; have HB := n3_; clear n0_ n1_ n2_ n3_; (try clear hb); (try clear hb2); (try clear hk); (try clear hi)) | ((with_reducible refine gate_callee (f := 7) rfl ?_); refine gcW 77 Tryz.func7 #[.string t547] rfl ?_; (with_reducible refine (impl_ParseWalk.calls kj22 t547 t548 t551 t554 _ ?gl A52.out).mono ?_); (case gl => exact Gl.below HGL.out (by repeat (first | exact nbW HB.out | refine nbW (below_set ?_ GE532.out) | refine nbW (below_set ?_ GE545.out) | refine nbW (below_set ?_ GE555.out) | refine nbW (below_set ?_ GE563.out) | refine nbW (below_set ?_ GE581.out)))); rintro e w56 ⟨v549, v552, rfl, ho0, ho1, hb⟩; refine ⟨_, rfl, ?_⟩; have n0_ := Aside0.mk (Kd.R_mono (Kd.R_told (Kd.R_told (Kd.R_old (rbW HO_533000.out) hb) (Kd.R_base ho0)) (Kd.R_base ho1)) (fun _ h_ => h_.1)); have n1_ := Aside0.mk (Kd.R_mono (Kd.R_told (Kd.R_told (Kd.R_old (rbW HO_533001.out) hb) (Kd.R_base ho0)) (Kd.R_base ho1)) (fun _ h_ => h_.1)); have n2_ := Aside0.mk (Kd.R_lower (Kd.R_new' (Kd.R_new' ho0 (Kd.R_lt (rbW HO_533000.out))) (Kd.R_lt (rbW HO_533001.out))) (below_size (by repeat (first | exact nbW HB.out | refine nbW (below_set ?_ GE532.out))))); have n3_ := Aside0.mk (Kd.R_lower (Kd.R_new' (Kd.R_new' ho1 (Kd.R_lt (rbW HO_533000.out))) (Kd.R_lt (rbW HO_533001.out))) (below_size (by repeat (first | exact nbW HB.out | refine nbW (below_set ?_ GE532.out))))); have n4_ := Aside0.mk (blk_below (kbW BK532.out) hb); have n5_ := Aside0.mk (below_step (by repeat (first | exact nbW HB.out | refine nbW (below_set ?_ GE532.out))) hb); clear HO_533000; clear HO_533001; clear BK532; clear HB; have HO_533000 := n0_; have HO_533001 := n1_; have HO550 := n2_; have HO553 := n3_; have BK532 := n4_; have HB := n5_; clear n0_ n1_ n2_ n3_ n4_ n5_; (try clear hb); (try clear hb2); (try clear hk); (try clear hi); (try clear ho0); (try clear ho1)) | ((with_reducible refine gate_dst (N := 13) rfl ?_); refine box_event ?hg (N := 13) ?hd (cs := #[.slice none 0 0, .slice none 0 0]) (t := 24) ?hr ?_; (case hd => rfl); (case hg => rfl); (case hr => first | (go_simp; done) | (go_simp; rfl)); intro gb555 hg w57 hbox hb; have n0_ := Aside0.mk (Kd.R_below (rbW HO_533000.out) hb); have n1_ := Aside0.mk (Kd.R_below (rbW HO_533001.out) hb); have n2_ := Aside0.mk (Kd.R_below (rbW HO550.out) hb); have n3_ := Aside0.mk (Kd.R_below (rbW HO553.out) hb); have n4_ := Aside0.mk (blk_below (kbW BK532.out) hb); have n5_ := Aside0.mk (below_step (by repeat (first | exact nbW HB.out | refine nbW (below_set ?_ GE532.out))) hb); have n6_ := Aside0.mk (hbox); have n7_ := Aside0.mk ((by rw [hg]; exact (below_size (by repeat (first | exact nbW HB.out | refine nbW (below_set ?_ GE532.out)))) : w.heap.size ≤ gb555)); have n8_ := Aside0.mk ((by rw [hg]; exact (below_size (by repeat (first | exact nbW HB.out | refine nbW (below_set ?_ GE532.out)))) : w.heap.size ≤ gb555)); have n9_ := Aside0.mk ((by rw [hg]; exact Nat.ne_of_lt (blk_lt (g := gb532) (o := .cells #[.slice Ao11 t526.length co11, .slice Ao13 t529.length co13] 24 (0, 0)) (kbW BK532.out)) : gb532 ≠ gb555)); have n10_ := Aside0.mk ((by rw [hg]; exact Nat.ne_of_gt (blk_lt (g := gb532) (o := .cells #[.slice Ao11 t526.length co11, .slice Ao13 t529.length co13] 24 (0, 0)) (kbW BK532.out)) : gb555 ≠ gb532)); clear HO_533000; clear HO_533001; clear HO550; clear HO553; clear BK532; clear HB; have HO_533000 := n0_; have HO_533001 := n1_; have HO550 := n2_; have HO553 := n3_; have BK532 := n4_; have HB := n5_; have BK555 := n6_; have GW555 := n7_; have GE555 := n8_; have NB532_555 := n9_; have NB555_532 := n10_; clear n0_ n1_ n2_ n3_ n4_ n5_ n6_ n7_ n8_ n9_ n10_; clear hb hbox hg; obtain ⟨Ao58, co58, eo58⟩ := Kd.R_slice HO550.out; subst eo58; have hnb59 := NB555_532.out; have hnc59 := NB532_555.out; have hcz60_0 : w57.cell? ⟨gb555, 0, none⟩ = some (.slice none 0 0) := (blk_cell BK555.out 0).trans rfl; have hcz60_1 : w57.cell? ⟨gb555, 1, none⟩ = some (.slice none 0 0) := (blk_cell BK555.out 1).trans rfl; have hfz60_0 := blk_frozen BK555.out 0; have hfz60_1 := blk_frozen BK555.out 1; obtain ⟨Ao61, co61, eo61⟩ := Kd.R_slice HO553.out; subst eo61) | ((with_reducible refine gate_callee (f := 6) rfl ?_); refine gcW 82 Tryz.func6 #[.string t547] rfl ?_; (with_reducible refine (spec_ParseWalk.calls kj22 t547 t556 t559 t562 _ A53.out).mono ?_); rintro e w62 ⟨v557, v560, rfl, ho0, ho1, hb⟩; refine ⟨_, rfl, ?_⟩; have n0_ := Aside0.mk (Kd.R_mono (Kd.R_told (Kd.R_told (Kd.R_old (by apply rbW; exact (Kd.R_mono (Kd.R_far (p := ⟨gb555, 1, none⟩) (Kd.R_far (p := ⟨gb555, 0, none⟩) (Kd.R_types HO_533000.out BK555.out (by decide)) (fun _ hk => hk.2) (.slice Ao58 t548.length co58)) (fun _ hk => hk.2) (.slice Ao61 t551.length co61)) (fun _ h_ => h_.1))) hb) (Kd.R_base ho0)) (Kd.R_base ho1)) (fun _ h_ => h_.1)); have n1_ := Aside0.mk (Kd.R_mono (Kd.R_told (Kd.R_told (Kd.R_old (by apply rbW; exact (Kd.R_mono (Kd.R_far (p := ⟨gb555, 1, none⟩) (Kd.R_far (p := ⟨gb555, 0, none⟩) (Kd.R_types HO_533001.out BK555.out (by decide)) (fun _ hk => hk.2) (.slice Ao58 t548.length co58)) (fun _ hk => hk.2) (.slice Ao61 t551.length co61)) (fun _ h_ => h_.1))) hb) (Kd.R_base ho0)) (Kd.R_base ho1)) (fun _ h_ => h_.1)); have n2_ := Aside0.mk (Kd.R_mono (Kd.R_told (Kd.R_told (Kd.R_old (by apply rbW; exact (Kd.R_mono (Kd.R_far (p := ⟨gb555, 1, none⟩) (Kd.R_far (p := ⟨gb555, 0, none⟩) (Kd.R_types HO550.out BK555.out (by decide)) (fun _ hk => hk.2) (.slice Ao58 t548.length co58)) (fun _ hk => hk.2) (.slice Ao61 t551.length co61)) (fun _ h_ => h_.1))) hb) (Kd.R_base ho0)) (Kd.R_base ho1)) (fun _ h_ => h_.1)); have n3_ := Aside0.mk (Kd.R_mono (Kd.R_told (Kd.R_told (Kd.R_old (by apply rbW; exact (Kd.R_mono (Kd.R_far (p := ⟨gb555, 1, none⟩) (Kd.R_far (p := ⟨gb555, 0, none⟩) (Kd.R_types HO553.out BK555.out (by decide)) (fun _ hk => hk.2) (.slice Ao58 t548.length co58)) (fun _ hk => hk.2) (.slice Ao61 t551.length co61)) (fun _ h_ => h_.1))) hb) (Kd.R_base ho0)) (Kd.R_base ho1)) (fun _ h_ => h_.1)); have n4_ := Aside0.mk (Kd.R_lower (Kd.R_new' (Kd.R_new' (Kd.R_new' (Kd.R_new' ho0 (Kd.R_lt (by apply rbW; exact (Kd.R_mono (Kd.R_far (p := ⟨gb555, 1, none⟩) (Kd.R_far (p := ⟨gb555, 0, none⟩) (Kd.R_types HO_533000.out BK555.out (by decide)) (fun _ hk => hk.2) (.slice Ao58 t548.length co58)) (fun _ hk => hk.2) (.slice Ao61 t551.length co61)) (fun _ h_ => h_.1))))) (Kd.R_lt (by apply rbW; exact (Kd.R_mono (Kd.R_far (p := ⟨gb555, 1, none⟩) (Kd.R_far (p := ⟨gb555, 0, none⟩) (Kd.R_types HO_533001.out BK555.out (by decide)) (fun _ hk => hk.2) (.slice Ao58 t548.length co58)) (fun _ hk => hk.2) (.slice Ao61 t551.length co61)) (fun _ h_ => h_.1))))) (Kd.R_lt (by apply rbW; exact (Kd.R_mono (Kd.R_far (p := ⟨gb555, 1, none⟩) (Kd.R_far (p := ⟨gb555, 0, none⟩) (Kd.R_types HO550.out BK555.out (by decide)) (fun _ hk => hk.2) (.slice Ao58 t548.length co58)) (fun _ hk => hk.2) (.slice Ao61 t551.length co61)) (fun _ h_ => h_.1))))) (Kd.R_lt (by apply rbW; exact (Kd.R_mono (Kd.R_far (p := ⟨gb555, 1, none⟩) (Kd.R_far (p := ⟨gb555, 0, none⟩) (Kd.R_types HO553.out BK555.out (by decide)) (fun _ hk => hk.2) (.slice Ao58 t548.length co58)) (fun _ hk => hk.2) (.slice Ao61 t551.length co61)) (fun _ h_ => h_.1))))) (below_size (by repeat (first | exact nbW HB.out | refine nbW (below_set ?_ GE532.out) | refine nbW (below_set ?_ GE555.out))))); have n5_ := Aside0.mk (Kd.R_lower (Kd.R_new' (Kd.R_new' (Kd.R_new' (Kd.R_new' ho1 (Kd.R_lt (by apply rbW; exact (Kd.R_mono (Kd.R_far (p := ⟨gb555, 1, none⟩) (Kd.R_far (p := ⟨gb555, 0, none⟩) (Kd.R_types HO_533000.out BK555.out (by decide)) (fun _ hk => hk.2) (.slice Ao58 t548.length co58)) (fun _ hk => hk.2) (.slice Ao61 t551.length co61)) (fun _ h_ => h_.1))))) (Kd.R_lt (by apply rbW; exact (Kd.R_mono (Kd.R_far (p := ⟨gb555, 1, none⟩) (Kd.R_far (p := ⟨gb555, 0, none⟩) (Kd.R_types HO_533001.out BK555.out (by decide)) (fun _ hk => hk.2) (.slice Ao58 t548.length co58)) (fun _ hk => hk.2) (.slice Ao61 t551.length co61)) (fun _ h_ => h_.1))))) (Kd.R_lt (by apply rbW; exact (Kd.R_mono (Kd.R_far (p := ⟨gb555, 1, none⟩) (Kd.R_far (p := ⟨gb555, 0, none⟩) (Kd.R_types HO550.out BK555.out (by decide)) (fun _ hk => hk.2) (.slice Ao58 t548.length co58)) (fun _ hk => hk.2) (.slice Ao61 t551.length co61)) (fun _ h_ => h_.1))))) (Kd.R_lt (by apply rbW; exact (Kd.R_mono (Kd.R_far (p := ⟨gb555, 1, none⟩) (Kd.R_far (p := ⟨gb555, 0, none⟩) (Kd.R_types HO553.out BK555.out (by decide)) (fun _ hk => hk.2) (.slice Ao58 t548.length co58)) (fun _ hk => hk.2) (.slice Ao61 t551.length co61)) (fun _ h_ => h_.1))))) (below_size (by repeat (first | exact nbW HB.out | refine nbW (below_set ?_ GE532.out) | refine nbW (below_set ?_ GE555.out))))); have n6_ := Aside0.mk (blk_below (g := gb532) (o := .cells #[.slice Ao11 t526.length co11, .slice Ao13 t529.length co13] 24 (0, 0)) (by apply kbW; refine blk_far ?_ NB532_555.out _; apply kbW; refine blk_far ?_ NB532_555.out _; apply kbW; exact BK532.out) hb); have n7_ := Aside0.mk (blk_below (g := gb555) (o := .cells #[.slice Ao58 t548.length co58, .slice Ao61 t551.length co61] 24 (0, 0)) (by apply kbW; refine blk_put (cs := #[.slice Ao58 t548.length co58, .slice none 0 0]) ?_ 1 _ rfl; apply kbW; refine blk_put (cs := #[.slice none 0 0, .slice none 0 0]) ?_ 0 _ rfl; apply kbW; exact BK555.out) hb); have n8_ := Aside0.mk (below_step (by repeat (first | exact nbW HB.out | refine nbW (below_set ?_ GE532.out) | refine nbW (below_set ?_ GE555.out))) hb); clear HO_533000; clear HO_533001; clear HO550; clear HO553; clear BK532; clear BK555; clear HB; have HO_533000 := n0_; have HO_533001 := n1_; have HO550 := n2_; have HO553 := n3_; have HO558 := n4_; have HO561 := n5_; have BK532 := n6_; have BK555 := n7_; have HB := n8_; clear n0_ n1_ n2_ n3_ n4_ n5_ n6_ n7_ n8_; (try clear hb); (try clear hb2); (try clear hk); (try clear hi); (try clear ho0); (try clear ho1)) | ((with_reducible refine gate_dst (N := 15) rfl ?_); refine box_event ?hg (N := 15) ?hd (cs := #[.slice none 0 0, .slice none 0 0]) (t := 24) ?hr ?_; (case hd => rfl); (case hg => rfl); (case hr => first | (go_simp; done) | (go_simp; rfl)); intro gb563 hg w63 hbox hb; have n0_ := Aside0.mk (Kd.R_below (rbW HO_533000.out) hb); have n1_ := Aside0.mk (Kd.R_below (rbW HO_533001.out) hb); have n2_ := Aside0.mk (Kd.R_below (rbW HO550.out) hb); have n3_ := Aside0.mk (Kd.R_below (rbW HO553.out) hb); have n4_ := Aside0.mk (Kd.R_below (rbW HO558.out) hb); have n5_ := Aside0.mk (Kd.R_below (rbW HO561.out) hb); have n6_ := Aside0.mk (blk_below (kbW BK532.out) hb); have n7_ := Aside0.mk (blk_below (kbW BK555.out) hb); have n8_ := Aside0.mk (below_step (by repeat (first | exact nbW HB.out | refine nbW (below_set ?_ GE532.out) | refine nbW (below_set ?_ GE555.out))) hb); have n9_ := Aside0.mk (hbox); have n10_ := Aside0.mk ((by rw [hg]; exact (below_size (by repeat (first | exact nbW HB.out | refine nbW (below_set ?_ GE532.out) | refine nbW (below_set ?_ GE555.out)))) : w.heap.size ≤ gb563)); have n11_ := Aside0.mk ((by rw [hg]; exact (below_size (by repeat (first | exact nbW HB.out | refine nbW (below_set ?_ GE532.out) | refine nbW (below_set ?_ GE555.out)))) : w.heap.size ≤ gb563)); have n12_ := Aside0.mk ((by rw [hg]; exact Nat.ne_of_lt (blk_lt (g := gb532) (o := .cells #[.slice Ao11 t526.length co11, .slice Ao13 t529.length co13] 24 (0, 0)) (kbW BK532.out)) : gb532 ≠ gb563)); have n13_ := Aside0.mk ((by rw [hg]; exact Nat.ne_of_gt (blk_lt (g := gb532) (o := .cells #[.slice Ao11 t526.length co11, .slice Ao13 t529.length co13] 24 (0, 0)) (kbW BK532.out)) : gb563 ≠ gb532)); have n14_ := Aside0.mk ((by rw [hg]; exact Nat.ne_of_lt (blk_lt (g := gb555) (o := .cells #[.slice Ao58 t548.length co58, .slice Ao61 t551.length co61] 24 (0, 0)) (kbW BK555.out)) : gb555 ≠ gb563)); have n15_ := Aside0.mk ((by rw [hg]; exact Nat.ne_of_gt (blk_lt (g := gb555) (o := .cells #[.slice Ao58 t548.length co58, .slice Ao61 t551.length co61] 24 (0, 0)) (kbW BK555.out)) : gb563 ≠ gb555)); clear HO_533000; clear HO_533001; clear HO550; clear HO553; clear HO558; clear HO561; clear BK532; clear BK555; clear HB; have HO_533000 := n0_; have HO_533001 := n1_; have HO550 := n2_; have HO553 := n3_; have HO558 := n4_; have HO561 := n5_; have BK532 := n6_; have BK555 := n7_; have HB := n8_; have BK563 := n9_; have GW563 := n10_; have GE563 := n11_; have NB532_563 := n12_; have NB563_532 := n13_; have NB555_563 := n14_; have NB563_555 := n15_; clear n0_ n1_ n2_ n3_ n4_ n5_ n6_ n7_ n8_ n9_ n10_ n11_ n12_ n13_ n14_ n15_; clear hb hbox hg; obtain ⟨Ao64, co64, eo64⟩ := Kd.R_slice HO558.out; subst eo64; have hnb65 := NB563_532.out; have hnc65 := NB532_563.out; have hnb66 := NB563_555.out; have hnc66 := NB555_563.out; have hcz67_0 : w63.cell? ⟨gb563, 0, none⟩ = some (.slice none 0 0) := (blk_cell BK563.out 0).trans rfl; have hcz67_1 : w63.cell? ⟨gb563, 1, none⟩ = some (.slice none 0 0) := (blk_cell BK563.out 1).trans rfl; have hfz67_0 := blk_frozen BK563.out 0; have hfz67_1 := blk_frozen BK563.out 1; obtain ⟨Ao68, co68, eo68⟩ := Kd.R_slice HO561.out; subst eo68))
         (try simp only [Act.put, List.setIfInBounds_toArray, List.set_cons_zero, List.set_cons_succ])
         go_cut [93] (fun v93 wc => ∃ (kq : Nat) (x93_53 : Bool), v93 = .bool x93_53 ∧ Aside0 (laws_FnWalkTexts.j2 kq l1 t547 t554 x93_53 t548 t551 = some r) ∧ Aside0 (kq ≤ kj22) ∧ Aside0 (Kd.R (Kd.int .i64) 3 wc w.heap.size (fun k_ => some k_ ≠ ((.slice Ao13 t529.length co13) : Value).ownBlock ∧ some k_ ≠ ((.slice Ao58 t548.length co58) : Value).ownBlock ∧ some k_ ≠ ((.slice Ao61 t551.length co61) : Value).ownBlock ∧ some k_ ≠ ((.slice Ao64 t556.length co64) : Value).ownBlock ∧ some k_ ≠ ((.slice Ao68 t559.length co68) : Value).ownBlock) (.slice Ao11 t526.length co11) t526) ∧ Aside0 (Kd.R (Kd.int .i64) 3 wc w.heap.size (fun k_ => some k_ ≠ ((.slice Ao11 t526.length co11) : Value).ownBlock ∧ some k_ ≠ ((.slice Ao58 t548.length co58) : Value).ownBlock ∧ some k_ ≠ ((.slice Ao61 t551.length co61) : Value).ownBlock ∧ some k_ ≠ ((.slice Ao64 t556.length co64) : Value).ownBlock ∧ some k_ ≠ ((.slice Ao68 t559.length co68) : Value).ownBlock) (.slice Ao13 t529.length co13) t529) ∧ Aside0 (Kd.R (Kd.int .i64) 3 wc w.heap.size (fun k_ => some k_ ≠ ((.slice Ao11 t526.length co11) : Value).ownBlock ∧ some k_ ≠ ((.slice Ao13 t529.length co13) : Value).ownBlock ∧ some k_ ≠ ((.slice Ao61 t551.length co61) : Value).ownBlock ∧ some k_ ≠ ((.slice Ao64 t556.length co64) : Value).ownBlock ∧ some k_ ≠ ((.slice Ao68 t559.length co68) : Value).ownBlock) (.slice Ao58 t548.length co58) t548) ∧ Aside0 (Kd.R (Kd.int .i64) 3 wc w.heap.size (fun k_ => some k_ ≠ ((.slice Ao11 t526.length co11) : Value).ownBlock ∧ some k_ ≠ ((.slice Ao13 t529.length co13) : Value).ownBlock ∧ some k_ ≠ ((.slice Ao58 t548.length co58) : Value).ownBlock ∧ some k_ ≠ ((.slice Ao64 t556.length co64) : Value).ownBlock ∧ some k_ ≠ ((.slice Ao68 t559.length co68) : Value).ownBlock) (.slice Ao61 t551.length co61) t551) ∧ Aside0 (Kd.R (Kd.int .i64) 3 wc w.heap.size (fun k_ => some k_ ≠ ((.slice Ao11 t526.length co11) : Value).ownBlock ∧ some k_ ≠ ((.slice Ao13 t529.length co13) : Value).ownBlock ∧ some k_ ≠ ((.slice Ao58 t548.length co58) : Value).ownBlock ∧ some k_ ≠ ((.slice Ao61 t551.length co61) : Value).ownBlock ∧ some k_ ≠ ((.slice Ao68 t559.length co68) : Value).ownBlock) (.slice Ao64 t556.length co64) t556) ∧ Aside0 (Kd.R (Kd.int .i64) 3 wc w.heap.size (fun k_ => some k_ ≠ ((.slice Ao11 t526.length co11) : Value).ownBlock ∧ some k_ ≠ ((.slice Ao13 t529.length co13) : Value).ownBlock ∧ some k_ ≠ ((.slice Ao58 t548.length co58) : Value).ownBlock ∧ some k_ ≠ ((.slice Ao61 t551.length co61) : Value).ownBlock ∧ some k_ ≠ ((.slice Ao64 t556.length co64) : Value).ownBlock) (.slice Ao68 t559.length co68) t559) ∧ Aside0 (wc.heap[gb532]? = some (.cells #[(.slice Ao11 t526.length co11), (.slice Ao13 t529.length co13)] 24 (0, 0))) ∧ Aside0 (wc.heap[gb555]? = some (.cells #[(.slice Ao58 t548.length co58), (.slice Ao61 t551.length co61)] 24 (0, 0))) ∧ Aside0 (wc.heap[gb563]? = some (.cells #[(.slice Ao64 t556.length co64), (.slice Ao68 t559.length co68)] 24 (0, 0))) ∧ Aside0 (Below w.heap.size w wc))
         case first =>
          have H := HC54.out
          clear HC54
          by_cases c69 : (t554 != t562) = true
          ·rw [if_pos c69] at H
           have c69b0 : (t554 != t562) = true := c69
           (try (have c69b1 : decide (t554 = t562) = false := by simpa using c69))
           (try (have c69b2 : (t554 == t562) = false := by simpa using c69))
           (try (have c69b3 : ¬ (t554 = t562) := by simpa using c69))
           clear c69
           (first | rw [c69b0] | (simp only [i64_w, i32_w]; rw [c69b0]) | rw [c69b1] | skip)
           have H' := Aside0.mk H
           clear H
           go_wp2
           go_meet
           case rel => exact ⟨_, (true), (by first | rfl | (simp; done) | (simp [*]; done)), H', ⟨by have := HJ7.out; have := HJ22.out; first | omega | exact Nat.le_refl _⟩, ⟨by apply rbW; exact Kd.R_mono (Kd.R_far (p := ⟨gb563, 1, none⟩) (Kd.R_far (p := ⟨gb563, 0, none⟩) (Kd.R_types HO_533000.out BK563.out (by decide)) (fun _ hk => hk.2) (.slice Ao64 t556.length co64)) (fun _ hk => hk.2) (.slice Ao68 t559.length co68)) (fun _ hk => ⟨hk.1.1.1.1.1, ⟨hk.1.1.1.1.2, ⟨hk.1.1.1.2, ⟨hk.1.1.2, hk.1.2⟩⟩⟩⟩)⟩, ⟨by apply rbW; exact Kd.R_mono (Kd.R_far (p := ⟨gb563, 1, none⟩) (Kd.R_far (p := ⟨gb563, 0, none⟩) (Kd.R_types HO_533001.out BK563.out (by decide)) (fun _ hk => hk.2) (.slice Ao64 t556.length co64)) (fun _ hk => hk.2) (.slice Ao68 t559.length co68)) (fun _ hk => ⟨hk.1.1.1.1.1, ⟨hk.1.1.1.1.2, ⟨hk.1.1.1.2, ⟨hk.1.1.2, hk.1.2⟩⟩⟩⟩)⟩, ⟨by apply rbW; exact Kd.R_mono (Kd.R_far (p := ⟨gb563, 1, none⟩) (Kd.R_far (p := ⟨gb563, 0, none⟩) (Kd.R_types HO550.out BK563.out (by decide)) (fun _ hk => hk.2) (.slice Ao64 t556.length co64)) (fun _ hk => hk.2) (.slice Ao68 t559.length co68)) (fun _ hk => ⟨hk.1.1.1.1.2, ⟨hk.1.1.1.2, ⟨hk.1.1.1.1.1, ⟨hk.1.1.2, hk.1.2⟩⟩⟩⟩)⟩, ⟨by apply rbW; exact Kd.R_mono (Kd.R_far (p := ⟨gb563, 1, none⟩) (Kd.R_far (p := ⟨gb563, 0, none⟩) (Kd.R_types HO553.out BK563.out (by decide)) (fun _ hk => hk.2) (.slice Ao64 t556.length co64)) (fun _ hk => hk.2) (.slice Ao68 t559.length co68)) (fun _ hk => ⟨hk.1.1.1.1.2, ⟨hk.1.1.1.2, ⟨hk.1.1.1.1.1, ⟨hk.1.1.2, hk.1.2⟩⟩⟩⟩)⟩, ⟨by apply rbW; exact Kd.R_mono (Kd.R_far (p := ⟨gb563, 1, none⟩) (Kd.R_far (p := ⟨gb563, 0, none⟩) (Kd.R_types HO558.out BK563.out (by decide)) (fun _ hk => hk.2) (.slice Ao64 t556.length co64)) (fun _ hk => hk.2) (.slice Ao68 t559.length co68)) (fun _ hk => ⟨hk.1.1.1.1.2, ⟨hk.1.1.1.2, ⟨hk.1.1.2, ⟨hk.1.2, hk.1.1.1.1.1⟩⟩⟩⟩)⟩, ⟨by apply rbW; exact Kd.R_mono (Kd.R_far (p := ⟨gb563, 1, none⟩) (Kd.R_far (p := ⟨gb563, 0, none⟩) (Kd.R_types HO561.out BK563.out (by decide)) (fun _ hk => hk.2) (.slice Ao64 t556.length co64)) (fun _ hk => hk.2) (.slice Ao68 t559.length co68)) (fun _ hk => ⟨hk.1.1.1.1.2, ⟨hk.1.1.1.2, ⟨hk.1.1.2, ⟨hk.1.2, hk.1.1.1.1.1⟩⟩⟩⟩)⟩, ⟨by apply kbW; refine blk_far ?_ NB532_563.out _; apply kbW; refine blk_far ?_ NB532_563.out _; apply kbW; exact BK532.out⟩, ⟨by apply kbW; refine blk_far ?_ NB555_563.out _; apply kbW; refine blk_far ?_ NB555_563.out _; apply kbW; exact BK555.out⟩, ⟨by apply kbW; refine blk_put (cs := #[.slice Ao64 t556.length co64, .slice none 0 0]) ?_ 1 _ rfl; apply kbW; refine blk_put (cs := #[.slice none 0 0, .slice none 0 0]) ?_ 0 _ rfl; apply kbW; exact BK563.out⟩, ⟨by repeat (first | exact nbW HB.out | refine nbW (below_set ?_ GE532.out) | refine nbW (below_set ?_ GE555.out) | refine nbW (below_set ?_ GE563.out))⟩⟩
          ·rw [if_neg c69] at H
           have c69b0 : (t554 != t562) = false := by simpa using c69
           (try (have c69b1 : decide (t554 = t562) = true := by simpa using c69))
           (try (have c69b2 : (t554 == t562) = true := by simpa using c69))
           clear c69
           (first | rw [c69b0] | (simp only [i64_w, i32_w]; rw [c69b0]) | rw [c69b1] | skip)
           replace H := Option.bind_eq_some_iff.mp H
           obtain ⟨t564, A700, H⟩ := H
           (try dsimp -simprocs only at H)
           have A70 := Aside0.mk A700
           clear A700
           have H' := Aside0.mk H
           clear H
           have hnb71 := NB555_532.out
           have hnc71 := NB532_555.out
           have hnb72 := NB555_563.out
           have hnc72 := NB563_555.out
           have hcz73_0 : w63.cell? ⟨gb555, 0, none⟩ = some (.slice Ao58 t548.length co58) := (blk_cell BK555.out 0).trans rfl
           have hcz73_1 : w63.cell? ⟨gb555, 1, none⟩ = some (.slice Ao61 t551.length co61) := (blk_cell BK555.out 1).trans rfl
           have hfz73_0 := blk_frozen BK555.out 0
           have hfz73_1 := blk_frozen BK555.out 1
           have hnb74 := NB563_532.out
           have hnc74 := NB532_563.out
           have hcz75_0 : w63.cell? ⟨gb563, 0, none⟩ = some (.slice none 0 0) := (blk_cell BK563.out 0).trans rfl
           have hcz75_1 : w63.cell? ⟨gb563, 1, none⟩ = some (.slice none 0 0) := (blk_cell BK563.out 1).trans rfl
           have hfz75_0 := blk_frozen BK563.out 0
           have hfz75_1 := blk_frozen BK563.out 1
           go_wp2_with (first | (go_at_call 32; (with_reducible refine (laws_wSameWalk.calls kj22 _ _ t548 _ _ t551 _ _ t556 _ _ t559 t564 _ ?side1 ?side2 ?side3 ?side4 ?side5 ?side6 ?side7 ?side8 A70.out).mono ?_); (case side1 => refine (Kd.R_reads' (e := 3) (base := w.heap.size) (ok := fun k_ => ((((some k_ ≠ (.slice Ao61 t551.length co61 : Value).ownBlock ∧ some k_ ≠ (.slice Ao11 t526.length co11 : Value).ownBlock) ∧ some k_ ≠ (.slice Ao13 t529.length co13 : Value).ownBlock) ∧ some k_ ≠ (.slice Ao64 t556.length co64 : Value).ownBlock) ∧ some k_ ≠ (.slice Ao68 t559.length co68 : Value).ownBlock)) (n := t548.length) (c := co58) ?_).2.2; exact (by apply rbW; exact (Kd.R_mono (Kd.R_far (p := ⟨gb563, 1, none⟩) (Kd.R_far (p := ⟨gb563, 0, none⟩) (Kd.R_types HO550.out BK563.out (by decide)) (fun _ hk => hk.2) (.slice Ao64 t556.length co64)) (fun _ hk => hk.2) (.slice Ao68 t559.length co68)) (fun _ h_ => h_.1)))); (case side2 => exact (Kd.R_reads' HO550.out).2.1); (case side3 => refine (Kd.R_reads' (e := 3) (base := w.heap.size) (ok := fun k_ => ((((some k_ ≠ (.slice Ao58 t548.length co58 : Value).ownBlock ∧ some k_ ≠ (.slice Ao11 t526.length co11 : Value).ownBlock) ∧ some k_ ≠ (.slice Ao13 t529.length co13 : Value).ownBlock) ∧ some k_ ≠ (.slice Ao64 t556.length co64 : Value).ownBlock) ∧ some k_ ≠ (.slice Ao68 t559.length co68 : Value).ownBlock)) (n := t551.length) (c := co61) ?_).2.2; exact (by apply rbW; exact (Kd.R_mono (Kd.R_far (p := ⟨gb563, 1, none⟩) (Kd.R_far (p := ⟨gb563, 0, none⟩) (Kd.R_types HO553.out BK563.out (by decide)) (fun _ hk => hk.2) (.slice Ao64 t556.length co64)) (fun _ hk => hk.2) (.slice Ao68 t559.length co68)) (fun _ h_ => h_.1)))); (case side4 => exact (Kd.R_reads' HO553.out).2.1); (case side5 => refine (Kd.R_reads' (e := 3) (base := w.heap.size) (ok := fun k_ => ((((some k_ ≠ (.slice Ao68 t559.length co68 : Value).ownBlock ∧ some k_ ≠ (.slice Ao11 t526.length co11 : Value).ownBlock) ∧ some k_ ≠ (.slice Ao13 t529.length co13 : Value).ownBlock) ∧ some k_ ≠ (.slice Ao58 t548.length co58 : Value).ownBlock) ∧ some k_ ≠ (.slice Ao61 t551.length co61 : Value).ownBlock)) (n := t556.length) (c := co64) ?_).2.2; exact (by apply rbW; exact (Kd.R_mono (Kd.R_far (p := ⟨gb563, 1, none⟩) (Kd.R_far (p := ⟨gb563, 0, none⟩) (Kd.R_types HO558.out BK563.out (by decide)) (fun _ hk => hk.2) (.slice Ao64 t556.length co64)) (fun _ hk => hk.2) (.slice Ao68 t559.length co68)) (fun _ h_ => h_.1)))); (case side6 => exact (Kd.R_reads' HO558.out).2.1); (case side7 => refine (Kd.R_reads' (e := 3) (base := w.heap.size) (ok := fun k_ => ((((some k_ ≠ (.slice Ao64 t556.length co64 : Value).ownBlock ∧ some k_ ≠ (.slice Ao11 t526.length co11 : Value).ownBlock) ∧ some k_ ≠ (.slice Ao13 t529.length co13 : Value).ownBlock) ∧ some k_ ≠ (.slice Ao58 t548.length co58 : Value).ownBlock) ∧ some k_ ≠ (.slice Ao61 t551.length co61 : Value).ownBlock)) (n := t559.length) (c := co68) ?_).2.2; exact (by apply rbW; exact (Kd.R_mono (Kd.R_far (p := ⟨gb563, 1, none⟩) (Kd.R_far (p := ⟨gb563, 0, none⟩) (Kd.R_types HO561.out BK563.out (by decide)) (fun _ hk => hk.2) (.slice Ao64 t556.length co64)) (fun _ hk => hk.2) (.slice Ao68 t559.length co68)) (fun _ h_ => h_.1)))); (case side8 => exact (Kd.R_reads' HO561.out).2.1); rintro e w76 ⟨rfl, hb⟩; have n0_ := Aside0.mk (Kd.R_below (by apply rbW; exact (Kd.R_mono (Kd.R_far (p := ⟨gb563, 1, none⟩) (Kd.R_far (p := ⟨gb563, 0, none⟩) (Kd.R_types HO_533000.out BK563.out (by decide)) (fun _ hk => hk.2) (.slice Ao64 t556.length co64)) (fun _ hk => hk.2) (.slice Ao68 t559.length co68)) (fun _ h_ => h_.1))) hb); have n1_ := Aside0.mk (Kd.R_below (by apply rbW; exact (Kd.R_mono (Kd.R_far (p := ⟨gb563, 1, none⟩) (Kd.R_far (p := ⟨gb563, 0, none⟩) (Kd.R_types HO_533001.out BK563.out (by decide)) (fun _ hk => hk.2) (.slice Ao64 t556.length co64)) (fun _ hk => hk.2) (.slice Ao68 t559.length co68)) (fun _ h_ => h_.1))) hb); have n2_ := Aside0.mk (Kd.R_below (by apply rbW; exact (Kd.R_mono (Kd.R_far (p := ⟨gb563, 1, none⟩) (Kd.R_far (p := ⟨gb563, 0, none⟩) (Kd.R_types HO550.out BK563.out (by decide)) (fun _ hk => hk.2) (.slice Ao64 t556.length co64)) (fun _ hk => hk.2) (.slice Ao68 t559.length co68)) (fun _ h_ => h_.1))) hb); have n3_ := Aside0.mk (Kd.R_below (by apply rbW; exact (Kd.R_mono (Kd.R_far (p := ⟨gb563, 1, none⟩) (Kd.R_far (p := ⟨gb563, 0, none⟩) (Kd.R_types HO553.out BK563.out (by decide)) (fun _ hk => hk.2) (.slice Ao64 t556.length co64)) (fun _ hk => hk.2) (.slice Ao68 t559.length co68)) (fun _ h_ => h_.1))) hb); have n4_ := Aside0.mk (Kd.R_below (by apply rbW; exact (Kd.R_mono (Kd.R_far (p := ⟨gb563, 1, none⟩) (Kd.R_far (p := ⟨gb563, 0, none⟩) (Kd.R_types HO558.out BK563.out (by decide)) (fun _ hk => hk.2) (.slice Ao64 t556.length co64)) (fun _ hk => hk.2) (.slice Ao68 t559.length co68)) (fun _ h_ => h_.1))) hb); have n5_ := Aside0.mk (Kd.R_below (by apply rbW; exact (Kd.R_mono (Kd.R_far (p := ⟨gb563, 1, none⟩) (Kd.R_far (p := ⟨gb563, 0, none⟩) (Kd.R_types HO561.out BK563.out (by decide)) (fun _ hk => hk.2) (.slice Ao64 t556.length co64)) (fun _ hk => hk.2) (.slice Ao68 t559.length co68)) (fun _ h_ => h_.1))) hb); have n6_ := Aside0.mk (blk_below (g := gb532) (o := .cells #[.slice Ao11 t526.length co11, .slice Ao13 t529.length co13] 24 (0, 0)) (by apply kbW; refine blk_far ?_ NB532_563.out _; apply kbW; refine blk_far ?_ NB532_563.out _; apply kbW; exact BK532.out) hb); have n7_ := Aside0.mk (blk_below (g := gb555) (o := .cells #[.slice Ao58 t548.length co58, .slice Ao61 t551.length co61] 24 (0, 0)) (by apply kbW; refine blk_far ?_ NB555_563.out _; apply kbW; refine blk_far ?_ NB555_563.out _; apply kbW; exact BK555.out) hb); have n8_ := Aside0.mk (blk_below (g := gb563) (o := .cells #[.slice Ao64 t556.length co64, .slice Ao68 t559.length co68] 24 (0, 0)) (by apply kbW; refine blk_put (cs := #[.slice Ao64 t556.length co64, .slice none 0 0]) ?_ 1 _ rfl; apply kbW; refine blk_put (cs := #[.slice none 0 0, .slice none 0 0]) ?_ 0 _ rfl; apply kbW; exact BK563.out) hb); have n9_ := Aside0.mk (below_step (by repeat (first | exact nbW HB.out | refine nbW (below_set ?_ GE532.out) | refine nbW (below_set ?_ GE555.out) | refine nbW (below_set ?_ GE563.out))) hb); clear HO_533000; clear HO_533001; clear HO550; clear HO553; clear HO558; clear HO561; clear BK532; clear BK555; clear BK563; clear HB; have HO_533000 := n0_; have HO_533001 := n1_; have HO550 := n2_; have HO553 := n3_; have HO558 := n4_; have HO561 := n5_; have BK532 := n6_; have BK555 := n7_; have BK563 := n8_; have HB := n9_; clear n0_ n1_ n2_ n3_ n4_ n5_ n6_ n7_ n8_ n9_; (try clear hb); (try clear hb2); (try clear hk); (try clear hi)))
           go_meet
           case rel => exact ⟨_, (!t564), (by first | rfl | (simp; done) | (simp [*]; done)), H', ⟨by have := HJ7.out; have := HJ22.out; first | omega | exact Nat.le_refl _⟩, ⟨by apply rbW; exact Kd.R_mono HO_533000.out (fun _ hk => ⟨hk.1.1.1.1, ⟨hk.1.1.1.2, ⟨hk.1.1.2, ⟨hk.1.2, hk.2⟩⟩⟩⟩)⟩, ⟨by apply rbW; exact Kd.R_mono HO_533001.out (fun _ hk => ⟨hk.1.1.1.1, ⟨hk.1.1.1.2, ⟨hk.1.1.2, ⟨hk.1.2, hk.2⟩⟩⟩⟩)⟩, ⟨by apply rbW; exact Kd.R_mono HO550.out (fun _ hk => ⟨hk.1.1.1.2, ⟨hk.1.1.2, ⟨hk.1.1.1.1, ⟨hk.1.2, hk.2⟩⟩⟩⟩)⟩, ⟨by apply rbW; exact Kd.R_mono HO553.out (fun _ hk => ⟨hk.1.1.1.2, ⟨hk.1.1.2, ⟨hk.1.1.1.1, ⟨hk.1.2, hk.2⟩⟩⟩⟩)⟩, ⟨by apply rbW; exact Kd.R_mono HO558.out (fun _ hk => ⟨hk.1.1.1.2, ⟨hk.1.1.2, ⟨hk.1.2, ⟨hk.2, hk.1.1.1.1⟩⟩⟩⟩)⟩, ⟨by apply rbW; exact Kd.R_mono HO561.out (fun _ hk => ⟨hk.1.1.1.2, ⟨hk.1.1.2, ⟨hk.1.2, ⟨hk.2, hk.1.1.1.1⟩⟩⟩⟩)⟩, ⟨by apply kbW; exact BK532.out⟩, ⟨by apply kbW; exact BK555.out⟩, ⟨by apply kbW; exact BK563.out⟩, ⟨by repeat (first | exact nbW HB.out | refine nbW (below_set ?_ GE532.out) | refine nbW (below_set ?_ GE555.out) | refine nbW (below_set ?_ GE563.out))⟩⟩
         case rest =>
          clear HC54
          try clear c1
          try clear c2
          try clear p2
          try clear c3
          try clear c4
          try clear c5
          try clear c6
          try clear c7
          try clear c11
          try clear c17
          try clear c17b0
          try clear c17b1
          try clear c17b2
          try clear c18
          try clear c18b0
          try clear c18b1
          try clear c22
          try clear c24
          try clear c26
          try clear c28
          try clear c29
          try clear c30
          try clear c32
          try clear c33
          try clear c40
          try clear c48
          try clear c59
          try clear c65
          try clear c66
          try clear c69
          try clear c69b0
          try clear c69b1
          try clear c69b2
          try clear c71
          try clear c72
          try clear c74
          try clear hcz12_0
          try clear hcz12_1
          try clear hcz15_0
          try clear hcz15_1
          try clear hcz20_0
          try clear hcz20_1
          try clear hcz33_0
          try clear hcz33_1
          try clear hcz35_0
          try clear hcz35_1
          try clear hcz41_0
          try clear hcz41_1
          try clear hcz43_0
          try clear hcz43_1
          try clear hcz49_0
          try clear hcz49_1
          try clear hcz60_0
          try clear hcz60_1
          try clear hcz67_0
          try clear hcz67_1
          try clear hcz73_0
          try clear hcz73_1
          try clear hcz75_0
          try clear hcz75_1
          try clear hfz12_0
          try clear hfz12_1
          try clear hfz15_0
          try clear hfz15_1
          try clear hfz20_0
          try clear hfz20_1
          try clear hfz33_0
          try clear hfz33_1
          try clear hfz35_0
          try clear hfz35_1
          try clear hfz41_0
          try clear hfz41_1
          try clear hfz43_0
          try clear hfz43_1
          try clear hfz49_0
          try clear hfz49_1
          try clear hfz60_0
          try clear hfz60_1
          try clear hfz67_0
          try clear hfz67_1
          try clear hfz73_0
          try clear hfz73_1
          try clear hfz75_0
          try clear hfz75_1
          try clear p2
          obtain ⟨kq, x93_53, rfl, HA, HJ53, HO_533000, HO_533001, HO_556000, HO_556001, HO_564000, HO_564001, BK532, BK555, BK563, HB⟩ := hcut
          cases kq with
          | zero => exact absurd HA.out (by simp [laws_FnWalkTexts.j2])
          | succ kj53 =>
           have H := HA.out
           clear HA
           simp only [laws_FnWalkTexts.j2] at H
           by_cases c77 : x93_53 = true
           ·subst c77
            rw [if_pos rfl] at H
            obtain rfl := Option.some.inj H
            go_wp2
            go_ret
            exact ⟨by first | rfl | (simp [errW_none, errW_some] <;> rfl) | (simp [*, errW_none, errW_some] <;> rfl), by repeat (first | exact nbW HB.out | refine nbW (below_set ?_ GE532.out) | refine nbW (below_set ?_ GE555.out) | refine nbW (below_set ?_ GE563.out))⟩
           ·as_aux_lemma =>
             replace c77 := Bool.eq_false_iff.mpr c77
             subst c77
             rw [if_neg (show ¬ (false = true) by decide)] at H
             have HC78 := Aside0.mk H
             clear H
             go_upto_if 94 with (fail)
             go_cut [] (fun wc => ∃ (kq : Nat), Aside0 (laws_FnWalkTexts.j3 kq l1 = some r) ∧ Aside0 (kq ≤ kj53) ∧ Aside0 (Kd.R (Kd.int .i64) 3 wc w.heap.size (fun k_ => some k_ ≠ ((.slice Ao13 t529.length co13) : Value).ownBlock ∧ some k_ ≠ ((.slice Ao58 t548.length co58) : Value).ownBlock ∧ some k_ ≠ ((.slice Ao61 t551.length co61) : Value).ownBlock ∧ some k_ ≠ ((.slice Ao64 t556.length co64) : Value).ownBlock ∧ some k_ ≠ ((.slice Ao68 t559.length co68) : Value).ownBlock) (.slice Ao11 t526.length co11) t526) ∧ Aside0 (Kd.R (Kd.int .i64) 3 wc w.heap.size (fun k_ => some k_ ≠ ((.slice Ao11 t526.length co11) : Value).ownBlock ∧ some k_ ≠ ((.slice Ao58 t548.length co58) : Value).ownBlock ∧ some k_ ≠ ((.slice Ao61 t551.length co61) : Value).ownBlock ∧ some k_ ≠ ((.slice Ao64 t556.length co64) : Value).ownBlock ∧ some k_ ≠ ((.slice Ao68 t559.length co68) : Value).ownBlock) (.slice Ao13 t529.length co13) t529) ∧ Aside0 (Kd.R (Kd.int .i64) 3 wc w.heap.size (fun k_ => some k_ ≠ ((.slice Ao11 t526.length co11) : Value).ownBlock ∧ some k_ ≠ ((.slice Ao13 t529.length co13) : Value).ownBlock ∧ some k_ ≠ ((.slice Ao61 t551.length co61) : Value).ownBlock ∧ some k_ ≠ ((.slice Ao64 t556.length co64) : Value).ownBlock ∧ some k_ ≠ ((.slice Ao68 t559.length co68) : Value).ownBlock) (.slice Ao58 t548.length co58) t548) ∧ Aside0 (Kd.R (Kd.int .i64) 3 wc w.heap.size (fun k_ => some k_ ≠ ((.slice Ao11 t526.length co11) : Value).ownBlock ∧ some k_ ≠ ((.slice Ao13 t529.length co13) : Value).ownBlock ∧ some k_ ≠ ((.slice Ao58 t548.length co58) : Value).ownBlock ∧ some k_ ≠ ((.slice Ao64 t556.length co64) : Value).ownBlock ∧ some k_ ≠ ((.slice Ao68 t559.length co68) : Value).ownBlock) (.slice Ao61 t551.length co61) t551) ∧ Aside0 (Kd.R (Kd.int .i64) 3 wc w.heap.size (fun k_ => some k_ ≠ ((.slice Ao11 t526.length co11) : Value).ownBlock ∧ some k_ ≠ ((.slice Ao13 t529.length co13) : Value).ownBlock ∧ some k_ ≠ ((.slice Ao58 t548.length co58) : Value).ownBlock ∧ some k_ ≠ ((.slice Ao61 t551.length co61) : Value).ownBlock ∧ some k_ ≠ ((.slice Ao68 t559.length co68) : Value).ownBlock) (.slice Ao64 t556.length co64) t556) ∧ Aside0 (Kd.R (Kd.int .i64) 3 wc w.heap.size (fun k_ => some k_ ≠ ((.slice Ao11 t526.length co11) : Value).ownBlock ∧ some k_ ≠ ((.slice Ao13 t529.length co13) : Value).ownBlock ∧ some k_ ≠ ((.slice Ao58 t548.length co58) : Value).ownBlock ∧ some k_ ≠ ((.slice Ao61 t551.length co61) : Value).ownBlock ∧ some k_ ≠ ((.slice Ao64 t556.length co64) : Value).ownBlock) (.slice Ao68 t559.length co68) t559) ∧ Aside0 (wc.heap[gb532]? = some (.cells #[(.slice Ao11 t526.length co11), (.slice Ao13 t529.length co13)] 24 (0, 0))) ∧ Aside0 (wc.heap[gb555]? = some (.cells #[(.slice Ao58 t548.length co58), (.slice Ao61 t551.length co61)] 24 (0, 0))) ∧ Aside0 (wc.heap[gb563]? = some (.cells #[(.slice Ao64 t556.length co64), (.slice Ao68 t559.length co68)] 24 (0, 0))) ∧ Aside0 (Below w.heap.size w wc))
             case first =>
              have H := HC78.out
              clear HC78
              by_cases c79 : t554 = true
              ·subst c79
               rw [if_pos rfl] at H
               replace H := Option.bind_eq_some_iff.mp H
               obtain ⟨⟨t565, t566⟩, A800, H⟩ := H
               (try dsimp -simprocs only at H)
               have A80 := Aside0.mk A800
               clear A800
               by_cases c81 : t566 = true
               ·subst c81
                rw [if_pos rfl] at H
                by_cases c82 : t565.toList = t547.toList
                ·rw [if_pos c82] at H
                 have c82b0 : (t565.toList == t547.toList) = true := beq_iff_eq.mpr c82
                 have c82b1 : (t565.toList != t547.toList) = false := bne_eq_false_iff_eq.mpr c82
                 clear c82
                 (first | rw [c82b0] | (simp only [i64_w, i32_w]; rw [c82b0]) | rw [c82b1] | skip)
                 have H' := Aside0.mk H
                 clear H
                 have hnb83 := NB555_532.out
                 have hnc83 := NB532_555.out
                 have hnb84 := NB555_563.out
                 have hnc84 := NB563_555.out
                 have hcz85_0 : wc.cell? ⟨gb555, 0, none⟩ = some (.slice Ao58 t548.length co58) := (blk_cell BK555.out 0).trans rfl
                 have hcz85_1 : wc.cell? ⟨gb555, 1, none⟩ = some (.slice Ao61 t551.length co61) := (blk_cell BK555.out 1).trans rfl
                 have hfz85_0 := blk_frozen BK555.out 0
                 have hfz85_1 := blk_frozen BK555.out 1
                 go_wp2_with (first | ((with_reducible refine gate_callee (f := 29) rfl ?_); refine gcW 97 Tryz.func29 #[.agg #[.slice Ao58 t548.length co58, .slice Ao61 t551.length co61]] rfl ?_; (with_reducible refine (impl_WalkText.calls kj53 _ _ t548 _ _ t551 t565 true _ ?side1 ?side2 ?side3 ?side4 A80.out).mono ?_); (case side1 => exact cbW (Kd.R_reads' HO_556000.out).2.2); (case side2 => exact (Kd.R_reads' HO_556000.out).2.1); (case side3 => exact cbW (Kd.R_reads' HO_556001.out).2.2); (case side4 => exact (Kd.R_reads' HO_556001.out).2.1); rintro e w86 ⟨rfl, hb⟩; refine ⟨_, rfl, ?_⟩; have n0_ := Aside0.mk (Kd.R_below (rbW HO_533000.out) hb); have n1_ := Aside0.mk (Kd.R_below (rbW HO_533001.out) hb); have n2_ := Aside0.mk (Kd.R_below (rbW HO_556000.out) hb); have n3_ := Aside0.mk (Kd.R_below (rbW HO_556001.out) hb); have n4_ := Aside0.mk (Kd.R_below (rbW HO_564000.out) hb); have n5_ := Aside0.mk (Kd.R_below (rbW HO_564001.out) hb); have n6_ := Aside0.mk (blk_below (kbW BK532.out) hb); have n7_ := Aside0.mk (blk_below (kbW BK555.out) hb); have n8_ := Aside0.mk (blk_below (kbW BK563.out) hb); have n9_ := Aside0.mk (below_step (by repeat (first | exact nbW HB.out | refine nbW (below_set ?_ GE532.out) | refine nbW (below_set ?_ GE555.out) | refine nbW (below_set ?_ GE563.out))) hb); clear HO_533000; clear HO_533001; clear HO_556000; clear HO_556001; clear HO_564000; clear HO_564001; clear BK532; clear BK555; clear BK563; clear HB; have HO_533000 := n0_; have HO_533001 := n1_; have HO_556000 := n2_; have HO_556001 := n3_; have HO_564000 := n4_; have HO_564001 := n5_; have BK532 := n6_; have BK555 := n7_; have BK563 := n8_; have HB := n9_; clear n0_ n1_ n2_ n3_ n4_ n5_ n6_ n7_ n8_ n9_; (try clear hb); (try clear hb2); (try clear hk); (try clear hi)))
                 go_meet
                 case rel => exact ⟨_, H', ⟨by have := HJ7.out; have := HJ22.out; have := HJ53.out; first | omega | exact Nat.le_refl _⟩, ⟨by apply rbW; exact HO_533000.out⟩, ⟨by apply rbW; exact HO_533001.out⟩, ⟨by apply rbW; exact HO_556000.out⟩, ⟨by apply rbW; exact HO_556001.out⟩, ⟨by apply rbW; exact HO_564000.out⟩, ⟨by apply rbW; exact HO_564001.out⟩, ⟨by apply kbW; exact BK532.out⟩, ⟨by apply kbW; exact BK555.out⟩, ⟨by apply kbW; exact BK563.out⟩, ⟨by repeat (first | exact nbW HB.out | refine nbW (below_set ?_ GE532.out) | refine nbW (below_set ?_ GE555.out) | refine nbW (below_set ?_ GE563.out))⟩⟩
                ·rw [if_neg c82] at H
                 have c82b0 : (t565.toList == t547.toList) = false := beq_eq_false_iff_ne.mpr c82
                 have c82b1 : (t565.toList != t547.toList) = true := bne_iff_ne.mpr c82
                 (first | rw [c82b0] | (simp only [i64_w, i32_w]; rw [c82b0]) | rw [c82b1] | skip)
                 obtain rfl := Option.some.inj H
                 have hnb87 := NB555_532.out
                 have hnc87 := NB532_555.out
                 have hnb88 := NB555_563.out
                 have hnc88 := NB563_555.out
                 have hcz89_0 : wc.cell? ⟨gb555, 0, none⟩ = some (.slice Ao58 t548.length co58) := (blk_cell BK555.out 0).trans rfl
                 have hcz89_1 : wc.cell? ⟨gb555, 1, none⟩ = some (.slice Ao61 t551.length co61) := (blk_cell BK555.out 1).trans rfl
                 have hfz89_0 := blk_frozen BK555.out 0
                 have hfz89_1 := blk_frozen BK555.out 1
                 go_wp2_with (first | ((with_reducible refine gate_callee (f := 29) rfl ?_); refine gcW 97 Tryz.func29 #[.agg #[.slice Ao58 t548.length co58, .slice Ao61 t551.length co61]] rfl ?_; (with_reducible refine (impl_WalkText.calls kj53 _ _ t548 _ _ t551 t565 true _ ?side1 ?side2 ?side3 ?side4 A80.out).mono ?_); (case side1 => exact cbW (Kd.R_reads' HO_556000.out).2.2); (case side2 => exact (Kd.R_reads' HO_556000.out).2.1); (case side3 => exact cbW (Kd.R_reads' HO_556001.out).2.2); (case side4 => exact (Kd.R_reads' HO_556001.out).2.1); rintro e w90 ⟨rfl, hb⟩; refine ⟨_, rfl, ?_⟩; have n0_ := Aside0.mk (Kd.R_below (rbW HO_533000.out) hb); have n1_ := Aside0.mk (Kd.R_below (rbW HO_533001.out) hb); have n2_ := Aside0.mk (Kd.R_below (rbW HO_556000.out) hb); have n3_ := Aside0.mk (Kd.R_below (rbW HO_556001.out) hb); have n4_ := Aside0.mk (Kd.R_below (rbW HO_564000.out) hb); have n5_ := Aside0.mk (Kd.R_below (rbW HO_564001.out) hb); have n6_ := Aside0.mk (blk_below (kbW BK532.out) hb); have n7_ := Aside0.mk (blk_below (kbW BK555.out) hb); have n8_ := Aside0.mk (blk_below (kbW BK563.out) hb); have n9_ := Aside0.mk (below_step (by repeat (first | exact nbW HB.out | refine nbW (below_set ?_ GE532.out) | refine nbW (below_set ?_ GE555.out) | refine nbW (below_set ?_ GE563.out))) hb); clear HO_533000; clear HO_533001; clear HO_556000; clear HO_556001; clear HO_564000; clear HO_564001; clear BK532; clear BK555; clear BK563; clear HB; have HO_533000 := n0_; have HO_533001 := n1_; have HO_556000 := n2_; have HO_556001 := n3_; have HO_564000 := n4_; have HO_564001 := n5_; have BK532 := n6_; have BK555 := n7_; have BK563 := n8_; have HB := n9_; clear n0_ n1_ n2_ n3_ n4_ n5_ n6_ n7_ n8_ n9_; (try clear hb); (try clear hb2); (try clear hk); (try clear hi)))
                 go_ret
                 exact ⟨by first | rfl | (simp [errW_none, errW_some] <;> rfl) | (simp [*, errW_none, errW_some] <;> rfl), by repeat (first | exact nbW HB.out | refine nbW (below_set ?_ GE532.out) | refine nbW (below_set ?_ GE555.out) | refine nbW (below_set ?_ GE563.out))⟩
               ·replace c81 := Bool.eq_false_iff.mpr c81
                subst c81
                rw [if_neg (show ¬ (false = true) by decide)] at H
                obtain rfl := Option.some.inj H
                have hnb91 := NB555_532.out
                have hnc91 := NB532_555.out
                have hnb92 := NB555_563.out
                have hnc92 := NB563_555.out
                have hcz93_0 : wc.cell? ⟨gb555, 0, none⟩ = some (.slice Ao58 t548.length co58) := (blk_cell BK555.out 0).trans rfl
                have hcz93_1 : wc.cell? ⟨gb555, 1, none⟩ = some (.slice Ao61 t551.length co61) := (blk_cell BK555.out 1).trans rfl
                have hfz93_0 := blk_frozen BK555.out 0
                have hfz93_1 := blk_frozen BK555.out 1
                go_wp2_with (first | ((with_reducible refine gate_callee (f := 29) rfl ?_); refine gcW 97 Tryz.func29 #[.agg #[.slice Ao58 t548.length co58, .slice Ao61 t551.length co61]] rfl ?_; (with_reducible refine (impl_WalkText.calls kj53 _ _ t548 _ _ t551 t565 false _ ?side1 ?side2 ?side3 ?side4 A80.out).mono ?_); (case side1 => exact cbW (Kd.R_reads' HO_556000.out).2.2); (case side2 => exact (Kd.R_reads' HO_556000.out).2.1); (case side3 => exact cbW (Kd.R_reads' HO_556001.out).2.2); (case side4 => exact (Kd.R_reads' HO_556001.out).2.1); rintro e w94 ⟨rfl, hb⟩; refine ⟨_, rfl, ?_⟩; have n0_ := Aside0.mk (Kd.R_below (rbW HO_533000.out) hb); have n1_ := Aside0.mk (Kd.R_below (rbW HO_533001.out) hb); have n2_ := Aside0.mk (Kd.R_below (rbW HO_556000.out) hb); have n3_ := Aside0.mk (Kd.R_below (rbW HO_556001.out) hb); have n4_ := Aside0.mk (Kd.R_below (rbW HO_564000.out) hb); have n5_ := Aside0.mk (Kd.R_below (rbW HO_564001.out) hb); have n6_ := Aside0.mk (blk_below (kbW BK532.out) hb); have n7_ := Aside0.mk (blk_below (kbW BK555.out) hb); have n8_ := Aside0.mk (blk_below (kbW BK563.out) hb); have n9_ := Aside0.mk (below_step (by repeat (first | exact nbW HB.out | refine nbW (below_set ?_ GE532.out) | refine nbW (below_set ?_ GE555.out) | refine nbW (below_set ?_ GE563.out))) hb); clear HO_533000; clear HO_533001; clear HO_556000; clear HO_556001; clear HO_564000; clear HO_564001; clear BK532; clear BK555; clear BK563; clear HB; have HO_533000 := n0_; have HO_533001 := n1_; have HO_556000 := n2_; have HO_556001 := n3_; have HO_564000 := n4_; have HO_564001 := n5_; have BK532 := n6_; have BK555 := n7_; have BK563 := n8_; have HB := n9_; clear n0_ n1_ n2_ n3_ n4_ n5_ n6_ n7_ n8_ n9_; (try clear hb); (try clear hb2); (try clear hk); (try clear hi)))
                go_ret
                exact ⟨by first | rfl | (simp [errW_none, errW_some] <;> rfl) | (simp [*, errW_none, errW_some] <;> rfl), by repeat (first | exact nbW HB.out | refine nbW (below_set ?_ GE532.out) | refine nbW (below_set ?_ GE555.out) | refine nbW (below_set ?_ GE563.out))⟩
              ·replace c79 := Bool.eq_false_iff.mpr c79
               subst c79
               rw [if_neg (show ¬ (false = true) by decide)] at H
               have H' := Aside0.mk H
               clear H
               go_wp2
               go_meet
               case rel => exact ⟨_, H', ⟨by have := HJ7.out; have := HJ22.out; have := HJ53.out; first | omega | exact Nat.le_refl _⟩, ⟨by apply rbW; exact HO_533000.out⟩, ⟨by apply rbW; exact HO_533001.out⟩, ⟨by apply rbW; exact HO_556000.out⟩, ⟨by apply rbW; exact HO_556001.out⟩, ⟨by apply rbW; exact HO_564000.out⟩, ⟨by apply rbW; exact HO_564001.out⟩, ⟨by apply kbW; exact BK532.out⟩, ⟨by apply kbW; exact BK555.out⟩, ⟨by apply kbW; exact BK563.out⟩, ⟨by repeat (first | exact nbW HB.out | refine nbW (below_set ?_ GE532.out) | refine nbW (below_set ?_ GE555.out) | refine nbW (below_set ?_ GE563.out))⟩⟩
             case rest =>
              clear HC78
              try clear c1
              try clear c2
              try clear p2
              try clear c3
              try clear c4
              try clear c5
              try clear c6
              try clear c7
              try clear c8
              try clear c9
              try clear c11
              try clear c17
              try clear c17b0
              try clear c17b1
              try clear c17b2
              try clear c18
              try clear c18b0
              try clear c18b1
              try clear c22
              try clear c24
              try clear c26
              try clear c28
              try clear c29
              try clear c30
              try clear c32
              try clear c33
              try clear c40
              try clear c48
              try clear c59
              try clear c65
              try clear c66
              try clear c69
              try clear c69b0
              try clear c69b1
              try clear c69b2
              try clear c71
              try clear c72
              try clear c74
              try clear c77
              try clear c79
              try clear c81
              try clear c82
              try clear c82b0
              try clear c82b1
              try clear c83
              try clear c84
              try clear c87
              try clear c88
              try clear c91
              try clear c92
              try clear hcz12_0
              try clear hcz12_1
              try clear hcz15_0
              try clear hcz15_1
              try clear hcz20_0
              try clear hcz20_1
              try clear hcz33_0
              try clear hcz33_1
              try clear hcz35_0
              try clear hcz35_1
              try clear hcz41_0
              try clear hcz41_1
              try clear hcz43_0
              try clear hcz43_1
              try clear hcz49_0
              try clear hcz49_1
              try clear hcz60_0
              try clear hcz60_1
              try clear hcz67_0
              try clear hcz67_1
              try clear hcz73_0
              try clear hcz73_1
              try clear hcz75_0
              try clear hcz75_1
              try clear hcz85_0
              try clear hcz85_1
              try clear hcz89_0
              try clear hcz89_1
              try clear hcz93_0
              try clear hcz93_1
              try clear hfz12_0
              try clear hfz12_1
              try clear hfz15_0
              try clear hfz15_1
              try clear hfz20_0
              try clear hfz20_1
              try clear hfz33_0
              try clear hfz33_1
              try clear hfz35_0
              try clear hfz35_1
              try clear hfz41_0
              try clear hfz41_1
              try clear hfz43_0
              try clear hfz43_1
              try clear hfz49_0
              try clear hfz49_1
              try clear hfz60_0
              try clear hfz60_1
              try clear hfz67_0
              try clear hfz67_1
              try clear hfz73_0
              try clear hfz73_1
              try clear hfz75_0
              try clear hfz75_1
              try clear hfz85_0
              try clear hfz85_1
              try clear hfz89_0
              try clear hfz89_1
              try clear hfz93_0
              try clear hfz93_1
              try clear p2
              obtain ⟨kq, HA, HJ77, HO_533000, HO_533001, HO_556000, HO_556001, HO_564000, HO_564001, BK532, BK555, BK563, HB⟩ := hcut
              cases kq with
              | zero => exact absurd HA.out (by simp [laws_FnWalkTexts.j3])
              | succ kj77 =>
               have H := HA.out
               clear HA
               simp only [laws_FnWalkTexts.j3] at H
               replace H := Option.bind_eq_some_iff.mp H
               obtain ⟨t567, A950, H⟩ := H
               (try dsimp -simprocs only at H)
               have A95 := Aside0.mk A950
               clear A950
               replace H := Option.bind_eq_some_iff.mp H
               obtain ⟨⟨t570, t571⟩, A960, H⟩ := H
               (try dsimp -simprocs only at H)
               have A96 := Aside0.mk A960
               clear A960
               replace H := Option.bind_eq_some_iff.mp H
               obtain ⟨⟨t572, t573⟩, A970, H⟩ := H
               (try dsimp -simprocs only at H)
               have A97 := Aside0.mk A970
               clear A970
               have HC98 := Aside0.mk H
               clear H
               go_upto_region 24 with (first | ((with_reducible refine gate_callee (f := 34) rfl ?_); refine gcW 108 Tryz.func34 #[.slice A1 l1.length c1] rfl ?_; (with_reducible refine (spec_DrawCountLabels.calls kj77 _ _ l1 t567 _ ?side1 ?side2 A95.out).mono ?_); (case side1 => exact cbW (Kd.C_below HR1.out HB.out)); (case side2 => exact HC1.out); rintro e w99 ⟨v568, rfl, ho0, hb⟩; refine ⟨_, rfl, ?_⟩; have n0_ := Aside0.mk (Kd.R_elder' (rbW HO_533000.out) (Kd.R_base ho0) hb); have n1_ := Aside0.mk (Kd.R_elder' (rbW HO_533001.out) (Kd.R_base ho0) hb); have n2_ := Aside0.mk (Kd.R_elder' (rbW HO_556000.out) (Kd.R_base ho0) hb); have n3_ := Aside0.mk (Kd.R_elder' (rbW HO_556001.out) (Kd.R_base ho0) hb); have n4_ := Aside0.mk (Kd.R_elder' (rbW HO_564000.out) (Kd.R_base ho0) hb); have n5_ := Aside0.mk (Kd.R_elder' (rbW HO_564001.out) (Kd.R_base ho0) hb); have n6_ := Aside0.mk (Kd.R_lower (Kd.R_new' (Kd.R_new' (Kd.R_new' (Kd.R_new' (Kd.R_new' (Kd.R_new' ho0 (Kd.R_lt (rbW HO_533000.out))) (Kd.R_lt (rbW HO_533001.out))) (Kd.R_lt (rbW HO_556000.out))) (Kd.R_lt (rbW HO_556001.out))) (Kd.R_lt (rbW HO_564000.out))) (Kd.R_lt (rbW HO_564001.out))) (below_size (by repeat (first | exact nbW HB.out | refine nbW (below_set ?_ GE532.out) | refine nbW (below_set ?_ GE555.out) | refine nbW (below_set ?_ GE563.out))))); have n7_ := Aside0.mk (blk_below (kbW BK532.out) hb); have n8_ := Aside0.mk (blk_below (kbW BK555.out) hb); have n9_ := Aside0.mk (blk_below (kbW BK563.out) hb); have n10_ := Aside0.mk (below_step (by repeat (first | exact nbW HB.out | refine nbW (below_set ?_ GE532.out) | refine nbW (below_set ?_ GE555.out) | refine nbW (below_set ?_ GE563.out))) hb); clear HO_533000; clear HO_533001; clear HO_556000; clear HO_556001; clear HO_564000; clear HO_564001; clear BK532; clear BK555; clear BK563; clear HB; have HO_533000 := n0_; have HO_533001 := n1_; have HO_556000 := n2_; have HO_556001 := n3_; have HO_564000 := n4_; have HO_564001 := n5_; have HO569 := n6_; have BK532 := n7_; have BK555 := n8_; have BK563 := n9_; have HB := n10_; clear n0_ n1_ n2_ n3_ n4_ n5_ n6_ n7_ n8_ n9_ n10_; (try clear hb); (try clear hb2); (try clear hk); (try clear hi); (try clear ho0); obtain ⟨Ao100, co100, eo100⟩ := Kd.R_slice HO569.out; subst eo100) | ((with_reducible refine gate_callee (f := 35) rfl ?_); refine gcW 111 Tryz.func35 #[.slice Ao100 t567.length co100] rfl ?_; (with_reducible refine (impl_CountLabels.calls kj77 _ _ t567 t570 t571 _ ?side1 ?side2 A96.out).mono ?_); (case side1 => exact cbW (Kd.R_reads' HO569.out).2.2); (case side2 => exact (Kd.R_reads' HO569.out).2.1); rintro e w' ⟨rfl, ⟨nd, rfl⟩⟩; refine ⟨_, rfl, ?_⟩) | ((with_reducible refine gate_callee (f := 36) rfl ?_); refine gcW 116 Tryz.func36 #[.slice Ao100 t567.length co100] rfl ?_; (with_reducible refine (spec_CountLabels.calls kj77 _ _ t567 t572 t573 _ ?side1 ?side2 A97.out).mono ?_); (case side1 => exact cbW (Kd.R_reads' HO569.out).2.2); (case side2 => exact (Kd.R_reads' HO569.out).2.1); rintro e w' ⟨rfl, ⟨nd, rfl⟩⟩; refine ⟨_, rfl, ?_⟩))
               (try simp only [Act.put, List.setIfInBounds_toArray, List.set_cons_zero, List.set_cons_succ])
               go_cut [126] (fun v126 wc => ∃ (kq : Nat) (x126_97 : Bool), v126 = .bool x126_97 ∧ Aside0 (laws_FnWalkTexts.j4 kq t567 t570 t571 x126_97 = some r) ∧ Aside0 (kq ≤ kj77) ∧ Aside0 (Kd.R (Kd.int .i64) 3 wc w.heap.size (fun k_ => some k_ ≠ ((.slice Ao11 t526.length co11) : Value).ownBlock ∧ some k_ ≠ ((.slice Ao13 t529.length co13) : Value).ownBlock ∧ some k_ ≠ ((.slice Ao58 t548.length co58) : Value).ownBlock ∧ some k_ ≠ ((.slice Ao61 t551.length co61) : Value).ownBlock ∧ some k_ ≠ ((.slice Ao64 t556.length co64) : Value).ownBlock ∧ some k_ ≠ ((.slice Ao68 t559.length co68) : Value).ownBlock) (.slice Ao100 t567.length co100) t567) ∧ Aside0 (Kd.R (Kd.int .i64) 3 wc w.heap.size (fun k_ => some k_ ≠ ((.slice Ao100 t567.length co100) : Value).ownBlock ∧ some k_ ≠ ((.slice Ao13 t529.length co13) : Value).ownBlock ∧ some k_ ≠ ((.slice Ao58 t548.length co58) : Value).ownBlock ∧ some k_ ≠ ((.slice Ao61 t551.length co61) : Value).ownBlock ∧ some k_ ≠ ((.slice Ao64 t556.length co64) : Value).ownBlock ∧ some k_ ≠ ((.slice Ao68 t559.length co68) : Value).ownBlock) (.slice Ao11 t526.length co11) t526) ∧ Aside0 (Kd.R (Kd.int .i64) 3 wc w.heap.size (fun k_ => some k_ ≠ ((.slice Ao100 t567.length co100) : Value).ownBlock ∧ some k_ ≠ ((.slice Ao11 t526.length co11) : Value).ownBlock ∧ some k_ ≠ ((.slice Ao58 t548.length co58) : Value).ownBlock ∧ some k_ ≠ ((.slice Ao61 t551.length co61) : Value).ownBlock ∧ some k_ ≠ ((.slice Ao64 t556.length co64) : Value).ownBlock ∧ some k_ ≠ ((.slice Ao68 t559.length co68) : Value).ownBlock) (.slice Ao13 t529.length co13) t529) ∧ Aside0 (Kd.R (Kd.int .i64) 3 wc w.heap.size (fun k_ => some k_ ≠ ((.slice Ao100 t567.length co100) : Value).ownBlock ∧ some k_ ≠ ((.slice Ao11 t526.length co11) : Value).ownBlock ∧ some k_ ≠ ((.slice Ao13 t529.length co13) : Value).ownBlock ∧ some k_ ≠ ((.slice Ao61 t551.length co61) : Value).ownBlock ∧ some k_ ≠ ((.slice Ao64 t556.length co64) : Value).ownBlock ∧ some k_ ≠ ((.slice Ao68 t559.length co68) : Value).ownBlock) (.slice Ao58 t548.length co58) t548) ∧ Aside0 (Kd.R (Kd.int .i64) 3 wc w.heap.size (fun k_ => some k_ ≠ ((.slice Ao100 t567.length co100) : Value).ownBlock ∧ some k_ ≠ ((.slice Ao11 t526.length co11) : Value).ownBlock ∧ some k_ ≠ ((.slice Ao13 t529.length co13) : Value).ownBlock ∧ some k_ ≠ ((.slice Ao58 t548.length co58) : Value).ownBlock ∧ some k_ ≠ ((.slice Ao64 t556.length co64) : Value).ownBlock ∧ some k_ ≠ ((.slice Ao68 t559.length co68) : Value).ownBlock) (.slice Ao61 t551.length co61) t551) ∧ Aside0 (Kd.R (Kd.int .i64) 3 wc w.heap.size (fun k_ => some k_ ≠ ((.slice Ao100 t567.length co100) : Value).ownBlock ∧ some k_ ≠ ((.slice Ao11 t526.length co11) : Value).ownBlock ∧ some k_ ≠ ((.slice Ao13 t529.length co13) : Value).ownBlock ∧ some k_ ≠ ((.slice Ao58 t548.length co58) : Value).ownBlock ∧ some k_ ≠ ((.slice Ao61 t551.length co61) : Value).ownBlock ∧ some k_ ≠ ((.slice Ao68 t559.length co68) : Value).ownBlock) (.slice Ao64 t556.length co64) t556) ∧ Aside0 (Kd.R (Kd.int .i64) 3 wc w.heap.size (fun k_ => some k_ ≠ ((.slice Ao100 t567.length co100) : Value).ownBlock ∧ some k_ ≠ ((.slice Ao11 t526.length co11) : Value).ownBlock ∧ some k_ ≠ ((.slice Ao13 t529.length co13) : Value).ownBlock ∧ some k_ ≠ ((.slice Ao58 t548.length co58) : Value).ownBlock ∧ some k_ ≠ ((.slice Ao61 t551.length co61) : Value).ownBlock ∧ some k_ ≠ ((.slice Ao64 t556.length co64) : Value).ownBlock) (.slice Ao68 t559.length co68) t559) ∧ Aside0 (wc.heap[gb532]? = some (.cells #[(.slice Ao11 t526.length co11), (.slice Ao13 t529.length co13)] 24 (0, 0))) ∧ Aside0 (wc.heap[gb555]? = some (.cells #[(.slice Ao58 t548.length co58), (.slice Ao61 t551.length co61)] 24 (0, 0))) ∧ Aside0 (wc.heap[gb563]? = some (.cells #[(.slice Ao64 t556.length co64), (.slice Ao68 t559.length co68)] 24 (0, 0))) ∧ Aside0 (Below w.heap.size w wc))
               case first =>
                have H := HC98.out
                clear HC98
                by_cases c101 : (t571 != t573) = true
                ·rw [if_pos c101] at H
                 have c101b0 : (t571 != t573) = true := c101
                 (try (have c101b1 : decide (t571 = t573) = false := by simpa using c101))
                 (try (have c101b2 : (t571 == t573) = false := by simpa using c101))
                 (try (have c101b3 : ¬ (t571 = t573) := by simpa using c101))
                 clear c101
                 (first | rw [c101b0] | (simp only [i64_w, i32_w]; rw [c101b0]) | rw [c101b1] | skip)
                 have H' := Aside0.mk H
                 clear H
                 go_wp2
                 go_meet
                 case rel => exact ⟨_, (true), (by first | rfl | (simp; done) | (simp [*]; done)), H', ⟨by have := HJ7.out; have := HJ22.out; have := HJ53.out; have := HJ77.out; first | omega | exact Nat.le_refl _⟩, ⟨by apply rbW; exact Kd.R_mono HO569.out (fun _ hk => ⟨hk.1.1.1.1.1.2, ⟨hk.1.1.1.1.2, ⟨hk.1.1.1.2, ⟨hk.1.1.2, ⟨hk.1.2, hk.2⟩⟩⟩⟩⟩)⟩, ⟨by apply rbW; exact Kd.R_mono HO_533000.out (fun _ hk => ⟨hk.2, ⟨hk.1.1, ⟨hk.1.2.1, ⟨hk.1.2.2.1, ⟨hk.1.2.2.2.1, hk.1.2.2.2.2⟩⟩⟩⟩⟩)⟩, ⟨by apply rbW; exact Kd.R_mono HO_533001.out (fun _ hk => ⟨hk.2, ⟨hk.1.1, ⟨hk.1.2.1, ⟨hk.1.2.2.1, ⟨hk.1.2.2.2.1, hk.1.2.2.2.2⟩⟩⟩⟩⟩)⟩, ⟨by apply rbW; exact Kd.R_mono HO_556000.out (fun _ hk => ⟨hk.2, ⟨hk.1.1, ⟨hk.1.2.1, ⟨hk.1.2.2.1, ⟨hk.1.2.2.2.1, hk.1.2.2.2.2⟩⟩⟩⟩⟩)⟩, ⟨by apply rbW; exact Kd.R_mono HO_556001.out (fun _ hk => ⟨hk.2, ⟨hk.1.1, ⟨hk.1.2.1, ⟨hk.1.2.2.1, ⟨hk.1.2.2.2.1, hk.1.2.2.2.2⟩⟩⟩⟩⟩)⟩, ⟨by apply rbW; exact Kd.R_mono HO_564000.out (fun _ hk => ⟨hk.2, ⟨hk.1.1, ⟨hk.1.2.1, ⟨hk.1.2.2.1, ⟨hk.1.2.2.2.1, hk.1.2.2.2.2⟩⟩⟩⟩⟩)⟩, ⟨by apply rbW; exact Kd.R_mono HO_564001.out (fun _ hk => ⟨hk.2, ⟨hk.1.1, ⟨hk.1.2.1, ⟨hk.1.2.2.1, ⟨hk.1.2.2.2.1, hk.1.2.2.2.2⟩⟩⟩⟩⟩)⟩, ⟨by apply kbW; exact BK532.out⟩, ⟨by apply kbW; exact BK555.out⟩, ⟨by apply kbW; exact BK563.out⟩, ⟨by repeat (first | exact nbW HB.out | refine nbW (below_set ?_ GE532.out) | refine nbW (below_set ?_ GE555.out) | refine nbW (below_set ?_ GE563.out))⟩⟩
                ·rw [if_neg c101] at H
                 have c101b0 : (t571 != t573) = false := by simpa using c101
                 (try (have c101b1 : decide (t571 = t573) = true := by simpa using c101))
                 (try (have c101b2 : (t571 == t573) = true := by simpa using c101))
                 clear c101
                 (first | rw [c101b0] | (simp only [i64_w, i32_w]; rw [c101b0]) | rw [c101b1] | skip)
                 have H' := Aside0.mk H
                 clear H
                 go_wp2
                 go_meet
                 case rel => exact ⟨_, ((t570 != t572)), (by first | rfl | (simp; done) | (simp [*]; done)), H', ⟨by have := HJ7.out; have := HJ22.out; have := HJ53.out; have := HJ77.out; first | omega | exact Nat.le_refl _⟩, ⟨by apply rbW; exact Kd.R_mono HO569.out (fun _ hk => ⟨hk.1.1.1.1.1.2, ⟨hk.1.1.1.1.2, ⟨hk.1.1.1.2, ⟨hk.1.1.2, ⟨hk.1.2, hk.2⟩⟩⟩⟩⟩)⟩, ⟨by apply rbW; exact Kd.R_mono HO_533000.out (fun _ hk => ⟨hk.2, ⟨hk.1.1, ⟨hk.1.2.1, ⟨hk.1.2.2.1, ⟨hk.1.2.2.2.1, hk.1.2.2.2.2⟩⟩⟩⟩⟩)⟩, ⟨by apply rbW; exact Kd.R_mono HO_533001.out (fun _ hk => ⟨hk.2, ⟨hk.1.1, ⟨hk.1.2.1, ⟨hk.1.2.2.1, ⟨hk.1.2.2.2.1, hk.1.2.2.2.2⟩⟩⟩⟩⟩)⟩, ⟨by apply rbW; exact Kd.R_mono HO_556000.out (fun _ hk => ⟨hk.2, ⟨hk.1.1, ⟨hk.1.2.1, ⟨hk.1.2.2.1, ⟨hk.1.2.2.2.1, hk.1.2.2.2.2⟩⟩⟩⟩⟩)⟩, ⟨by apply rbW; exact Kd.R_mono HO_556001.out (fun _ hk => ⟨hk.2, ⟨hk.1.1, ⟨hk.1.2.1, ⟨hk.1.2.2.1, ⟨hk.1.2.2.2.1, hk.1.2.2.2.2⟩⟩⟩⟩⟩)⟩, ⟨by apply rbW; exact Kd.R_mono HO_564000.out (fun _ hk => ⟨hk.2, ⟨hk.1.1, ⟨hk.1.2.1, ⟨hk.1.2.2.1, ⟨hk.1.2.2.2.1, hk.1.2.2.2.2⟩⟩⟩⟩⟩)⟩, ⟨by apply rbW; exact Kd.R_mono HO_564001.out (fun _ hk => ⟨hk.2, ⟨hk.1.1, ⟨hk.1.2.1, ⟨hk.1.2.2.1, ⟨hk.1.2.2.2.1, hk.1.2.2.2.2⟩⟩⟩⟩⟩)⟩, ⟨by apply kbW; exact BK532.out⟩, ⟨by apply kbW; exact BK555.out⟩, ⟨by apply kbW; exact BK563.out⟩, ⟨by repeat (first | exact nbW HB.out | refine nbW (below_set ?_ GE532.out) | refine nbW (below_set ?_ GE555.out) | refine nbW (below_set ?_ GE563.out))⟩⟩
               case rest =>
                clear HC98
                try clear c1
                try clear c2
                try clear p2
                try clear c3
                try clear c4
                try clear c5
                try clear c6
                try clear c7
                try clear c8
                try clear c9
                try clear c10
                try clear c11
                try clear c17
                try clear c17b0
                try clear c17b1
                try clear c17b2
                try clear c18
                try clear c18b0
                try clear c18b1
                try clear c22
                try clear c24
                try clear c26
                try clear c28
                try clear c29
                try clear c30
                try clear c32
                try clear c33
                try clear c34
                try clear c35
                try clear c36
                try clear c40
                try clear c48
                try clear c59
                try clear c65
                try clear c66
                try clear c69
                try clear c69b0
                try clear c69b1
                try clear c69b2
                try clear c71
                try clear c72
                try clear c74
                try clear c77
                try clear c79
                try clear c81
                try clear c82
                try clear c82b0
                try clear c82b1
                try clear c83
                try clear c84
                try clear c87
                try clear c88
                try clear c91
                try clear c92
                try clear c101
                try clear c101b0
                try clear c101b1
                try clear c101b2
                try clear hcz12_0
                try clear hcz12_1
                try clear hcz15_0
                try clear hcz15_1
                try clear hcz20_0
                try clear hcz20_1
                try clear hcz33_0
                try clear hcz33_1
                try clear hcz35_0
                try clear hcz35_1
                try clear hcz41_0
                try clear hcz41_1
                try clear hcz43_0
                try clear hcz43_1
                try clear hcz49_0
                try clear hcz49_1
                try clear hcz60_0
                try clear hcz60_1
                try clear hcz67_0
                try clear hcz67_1
                try clear hcz73_0
                try clear hcz73_1
                try clear hcz75_0
                try clear hcz75_1
                try clear hcz85_0
                try clear hcz85_1
                try clear hcz89_0
                try clear hcz89_1
                try clear hcz93_0
                try clear hcz93_1
                try clear hfz12_0
                try clear hfz12_1
                try clear hfz15_0
                try clear hfz15_1
                try clear hfz20_0
                try clear hfz20_1
                try clear hfz33_0
                try clear hfz33_1
                try clear hfz35_0
                try clear hfz35_1
                try clear hfz41_0
                try clear hfz41_1
                try clear hfz43_0
                try clear hfz43_1
                try clear hfz49_0
                try clear hfz49_1
                try clear hfz60_0
                try clear hfz60_1
                try clear hfz67_0
                try clear hfz67_1
                try clear hfz73_0
                try clear hfz73_1
                try clear hfz75_0
                try clear hfz75_1
                try clear hfz85_0
                try clear hfz85_1
                try clear hfz89_0
                try clear hfz89_1
                try clear hfz93_0
                try clear hfz93_1
                try clear p2
                obtain ⟨kq, x126_97, rfl, HA, HJ97, HO_19, HO_533000, HO_533001, HO_556000, HO_556001, HO_564000, HO_564001, BK532, BK555, BK563, HB⟩ := hcut
                cases kq with
                | zero => exact absurd HA.out (by simp [laws_FnWalkTexts.j4])
                | succ kj97 =>
                 have H := HA.out
                 clear HA
                 simp only [laws_FnWalkTexts.j4] at H
                 by_cases c102 : x126_97 = true
                 ·subst c102
                  rw [if_pos rfl] at H
                  obtain rfl := Option.some.inj H
                  go_wp2
                  go_ret
                  exact ⟨by first | rfl | (simp [errW_none, errW_some] <;> rfl) | (simp [*, errW_none, errW_some] <;> rfl), by repeat (first | exact nbW HB.out | refine nbW (below_set ?_ GE532.out) | refine nbW (below_set ?_ GE555.out) | refine nbW (below_set ?_ GE563.out))⟩
                 ·replace c102 := Bool.eq_false_iff.mpr c102
                  subst c102
                  rw [if_neg (show ¬ (false = true) by decide)] at H
                  by_cases c103 : t571 = true
                  ·subst c103
                   rw [if_pos rfl] at H
                   replace H := Option.bind_eq_some_iff.mp H
                   obtain ⟨⟨t574, t577, t580⟩, A1040, H⟩ := H
                   (try dsimp -simprocs only at H)
                   have A104 := Aside0.mk A1040
                   clear A1040
                   replace H := Option.bind_eq_some_iff.mp H
                   obtain ⟨⟨t582, t585⟩, A1050, H⟩ := H
                   (try dsimp -simprocs only at H)
                   have A105 := Aside0.mk A1050
                   clear A1050
                   replace H := Option.bind_eq_some_iff.mp H
                   obtain ⟨⟨t586, t587⟩, A1060, H⟩ := H
                   (try dsimp -simprocs only at H)
                   have A106 := Aside0.mk A1060
                   clear A1060
                   by_cases c107 : t580 = true
                   rotate_left
                   replace c107 := Bool.eq_false_iff.mpr c107
                   subst c107
                   rw [if_neg (show ¬ (false = true) by decide)] at H
                   obtain rfl := Option.some.inj H
                   rotate_right
                   subst c107
                   rw [if_pos rfl] at H
                   by_cases c108 : t585 = true
                   rotate_left
                   replace c108 := Bool.eq_false_iff.mpr c108
                   subst c108
                   rw [if_neg (show ¬ (false = true) by decide)] at H
                   obtain rfl := Option.some.inj H
                   rotate_right
                   subst c108
                   rw [if_pos rfl] at H
                   by_cases c109 : t587 = true
                   rotate_left
                   replace c109 := Bool.eq_false_iff.mpr c109
                   subst c109
                   rw [if_neg (show ¬ (false = true) by decide)] at H
                   obtain rfl := Option.some.inj H
                   rotate_right
                   subst c109
                   rw [if_pos rfl] at H
                   obtain rfl := Option.some.inj H
                   all_goals (go_wp2_with (first | ((with_reducible refine gate_callee (f := 37) rfl ?_); refine gcW 131 Tryz.func37 #[.slice Ao100 t567.length co100] rfl ?_; (with_reducible refine (impl_FirstLabels.calls kj97 _ _ t567 t574 t577 _ _ ?side1 ?side2 A104.out).mono ?_); (case side1 => exact cbW (Kd.R_reads' HO_19.out).2.2); (case side2 => exact (Kd.R_reads' HO_19.out).2.1); rintro e w110 ⟨v575, v578, rfl, ho0, ho1, hb⟩; refine ⟨_, rfl, ?_⟩; have n0_ := Aside0.mk (Kd.R_mono (Kd.R_told (Kd.R_told (Kd.R_old (rbW HO_19.out) hb) (Kd.R_base ho0)) (Kd.R_base ho1)) (fun _ h_ => h_.1)); have n1_ := Aside0.mk (Kd.R_mono (Kd.R_told (Kd.R_told (Kd.R_old (rbW HO_533000.out) hb) (Kd.R_base ho0)) (Kd.R_base ho1)) (fun _ h_ => h_.1)); have n2_ := Aside0.mk (Kd.R_mono (Kd.R_told (Kd.R_told (Kd.R_old (rbW HO_533001.out) hb) (Kd.R_base ho0)) (Kd.R_base ho1)) (fun _ h_ => h_.1)); have n3_ := Aside0.mk (Kd.R_mono (Kd.R_told (Kd.R_told (Kd.R_old (rbW HO_556000.out) hb) (Kd.R_base ho0)) (Kd.R_base ho1)) (fun _ h_ => h_.1)); have n4_ := Aside0.mk (Kd.R_mono (Kd.R_told (Kd.R_told (Kd.R_old (rbW HO_556001.out) hb) (Kd.R_base ho0)) (Kd.R_base ho1)) (fun _ h_ => h_.1)); have n5_ := Aside0.mk (Kd.R_mono (Kd.R_told (Kd.R_told (Kd.R_old (rbW HO_564000.out) hb) (Kd.R_base ho0)) (Kd.R_base ho1)) (fun _ h_ => h_.1)); have n6_ := Aside0.mk (Kd.R_mono (Kd.R_told (Kd.R_told (Kd.R_old (rbW HO_564001.out) hb) (Kd.R_base ho0)) (Kd.R_base ho1)) (fun _ h_ => h_.1)); have n7_ := Aside0.mk (Kd.R_lower (Kd.R_new' (Kd.R_new' (Kd.R_new' (Kd.R_new' (Kd.R_new' (Kd.R_new' (Kd.R_new' ho0 (Kd.R_lt (rbW HO_19.out))) (Kd.R_lt (rbW HO_533000.out))) (Kd.R_lt (rbW HO_533001.out))) (Kd.R_lt (rbW HO_556000.out))) (Kd.R_lt (rbW HO_556001.out))) (Kd.R_lt (rbW HO_564000.out))) (Kd.R_lt (rbW HO_564001.out))) (below_size (by repeat (first | exact nbW HB.out | refine nbW (below_set ?_ GE532.out) | refine nbW (below_set ?_ GE555.out) | refine nbW (below_set ?_ GE563.out))))); have n8_ := Aside0.mk (Kd.R_lower (Kd.R_new' (Kd.R_new' (Kd.R_new' (Kd.R_new' (Kd.R_new' (Kd.R_new' (Kd.R_new' ho1 (Kd.R_lt (rbW HO_19.out))) (Kd.R_lt (rbW HO_533000.out))) (Kd.R_lt (rbW HO_533001.out))) (Kd.R_lt (rbW HO_556000.out))) (Kd.R_lt (rbW HO_556001.out))) (Kd.R_lt (rbW HO_564000.out))) (Kd.R_lt (rbW HO_564001.out))) (below_size (by repeat (first | exact nbW HB.out | refine nbW (below_set ?_ GE532.out) | refine nbW (below_set ?_ GE555.out) | refine nbW (below_set ?_ GE563.out))))); have n9_ := Aside0.mk (blk_below (kbW BK532.out) hb); have n10_ := Aside0.mk (blk_below (kbW BK555.out) hb); have n11_ := Aside0.mk (blk_below (kbW BK563.out) hb); have n12_ := Aside0.mk (below_step (by repeat (first | exact nbW HB.out | refine nbW (below_set ?_ GE532.out) | refine nbW (below_set ?_ GE555.out) | refine nbW (below_set ?_ GE563.out))) hb); clear HO_19; clear HO_533000; clear HO_533001; clear HO_556000; clear HO_556001; clear HO_564000; clear HO_564001; clear BK532; clear BK555; clear BK563; clear HB; have HO_19 := n0_; have HO_533000 := n1_; have HO_533001 := n2_; have HO_556000 := n3_; have HO_556001 := n4_; have HO_564000 := n5_; have HO_564001 := n6_; have HO576 := n7_; have HO579 := n8_; have BK532 := n9_; have BK555 := n10_; have BK563 := n11_; have HB := n12_; clear n0_ n1_ n2_ n3_ n4_ n5_ n6_ n7_ n8_ n9_ n10_ n11_ n12_; (try clear hb); (try clear hb2); (try clear hk); (try clear hi); (try clear ho0); (try clear ho1)) | ((with_reducible refine gate_dst (N := 24) rfl ?_); refine box_event ?hg (N := 24) ?hd (cs := #[.slice none 0 0, .slice none 0 0]) (t := 24) ?hr ?_; (case hd => rfl); (case hg => rfl); (case hr => first | (go_simp; done) | (go_simp; rfl)); intro gb581 hg w111 hbox hb; have n0_ := Aside0.mk (Kd.R_below (rbW HO_19.out) hb); have n1_ := Aside0.mk (Kd.R_below (rbW HO_533000.out) hb); have n2_ := Aside0.mk (Kd.R_below (rbW HO_533001.out) hb); have n3_ := Aside0.mk (Kd.R_below (rbW HO_556000.out) hb); have n4_ := Aside0.mk (Kd.R_below (rbW HO_556001.out) hb); have n5_ := Aside0.mk (Kd.R_below (rbW HO_564000.out) hb); have n6_ := Aside0.mk (Kd.R_below (rbW HO_564001.out) hb); have n7_ := Aside0.mk (Kd.R_below (rbW HO576.out) hb); have n8_ := Aside0.mk (Kd.R_below (rbW HO579.out) hb); have n9_ := Aside0.mk (blk_below (kbW BK532.out) hb); have n10_ := Aside0.mk (blk_below (kbW BK555.out) hb); have n11_ := Aside0.mk (blk_below (kbW BK563.out) hb); have n12_ := Aside0.mk (below_step (by repeat (first | exact nbW HB.out | refine nbW (below_set ?_ GE532.out) | refine nbW (below_set ?_ GE555.out) | refine nbW (below_set ?_ GE563.out))) hb); have n13_ := Aside0.mk (hbox); have n14_ := Aside0.mk ((by rw [hg]; exact (below_size (by repeat (first | exact nbW HB.out | refine nbW (below_set ?_ GE532.out) | refine nbW (below_set ?_ GE555.out) | refine nbW (below_set ?_ GE563.out)))) : w.heap.size ≤ gb581)); have n15_ := Aside0.mk ((by rw [hg]; exact (below_size (by repeat (first | exact nbW HB.out | refine nbW (below_set ?_ GE532.out) | refine nbW (below_set ?_ GE555.out) | refine nbW (below_set ?_ GE563.out)))) : w.heap.size ≤ gb581)); have n16_ := Aside0.mk ((by rw [hg]; exact Nat.ne_of_lt (blk_lt (g := gb532) (o := .cells #[.slice Ao11 t526.length co11, .slice Ao13 t529.length co13] 24 (0, 0)) (kbW BK532.out)) : gb532 ≠ gb581)); have n17_ := Aside0.mk ((by rw [hg]; exact Nat.ne_of_gt (blk_lt (g := gb532) (o := .cells #[.slice Ao11 t526.length co11, .slice Ao13 t529.length co13] 24 (0, 0)) (kbW BK532.out)) : gb581 ≠ gb532)); have n18_ := Aside0.mk ((by rw [hg]; exact Nat.ne_of_lt (blk_lt (g := gb555) (o := .cells #[.slice Ao58 t548.length co58, .slice Ao61 t551.length co61] 24 (0, 0)) (kbW BK555.out)) : gb555 ≠ gb581)); have n19_ := Aside0.mk ((by rw [hg]; exact Nat.ne_of_gt (blk_lt (g := gb555) (o := .cells #[.slice Ao58 t548.length co58, .slice Ao61 t551.length co61] 24 (0, 0)) (kbW BK555.out)) : gb581 ≠ gb555)); have n20_ := Aside0.mk ((by rw [hg]; exact Nat.ne_of_lt (blk_lt (g := gb563) (o := .cells #[.slice Ao64 t556.length co64, .slice Ao68 t559.length co68] 24 (0, 0)) (kbW BK563.out)) : gb563 ≠ gb581)); have n21_ := Aside0.mk ((by rw [hg]; exact Nat.ne_of_gt (blk_lt (g := gb563) (o := .cells #[.slice Ao64 t556.length co64, .slice Ao68 t559.length co68] 24 (0, 0)) (kbW BK563.out)) : gb581 ≠ gb563)); clear HO_19; clear HO_533000; clear HO_533001; clear HO_556000; clear HO_556001; clear HO_564000; clear HO_564001; clear HO576; clear HO579; clear BK532; clear BK555; clear BK563; clear HB; have HO_19 := n0_; have HO_533000 := n1_; have HO_533001 := n2_; have HO_556000 := n3_; have HO_556001 := n4_; have HO_564000 := n5_; have HO_564001 := n6_; have HO576 := n7_; have HO579 := n8_; have BK532 := n9_; have BK555 := n10_; have BK563 := n11_; have HB := n12_; have BK581 := n13_; have GW581 := n14_; have GE581 := n15_; have NB532_581 := n16_; have NB581_532 := n17_; have NB555_581 := n18_; have NB581_555 := n19_; have NB563_581 := n20_; have NB581_563 := n21_; clear n0_ n1_ n2_ n3_ n4_ n5_ n6_ n7_ n8_ n9_ n10_ n11_ n12_ n13_ n14_ n15_ n16_ n17_ n18_ n19_ n20_ n21_; clear hb hbox hg; obtain ⟨Ao112, co112, eo112⟩ := Kd.R_slice HO576.out; subst eo112; have hnb113 := NB581_532.out; have hnc113 := NB532_581.out; have hnb114 := NB581_555.out; have hnc114 := NB555_581.out; have hnb115 := NB581_563.out; have hnc115 := NB563_581.out; have hcz116_0 : w111.cell? ⟨gb581, 0, none⟩ = some (.slice none 0 0) := (blk_cell BK581.out 0).trans rfl; have hcz116_1 : w111.cell? ⟨gb581, 1, none⟩ = some (.slice none 0 0) := (blk_cell BK581.out 1).trans rfl; have hfz116_0 := blk_frozen BK581.out 0; have hfz116_1 := blk_frozen BK581.out 1; obtain ⟨Ao117, co117, eo117⟩ := Kd.R_slice HO579.out; subst eo117) | ((with_reducible refine gate_callee (f := 38) rfl ?_); refine gcW 136 Tryz.func38 #[.agg #[.slice Ao112 t574.length co112, .slice Ao117 t577.length co117]] rfl ?_; (with_reducible refine (impl_ParkingOfWalk.calls kj97 _ _ t574 _ _ t577 t582 _ _ ?side1 ?side2 ?side3 ?side4 A105.out).mono ?_); (case side1 => refine (Kd.R_reads' (e := 3) (base := w.heap.size) (ok := fun k_ => (((((((some k_ ≠ (.slice Ao117 t577.length co117 : Value).ownBlock ∧ some k_ ≠ (.slice Ao100 t567.length co100 : Value).ownBlock) ∧ some k_ ≠ (.slice Ao11 t526.length co11 : Value).ownBlock) ∧ some k_ ≠ (.slice Ao13 t529.length co13 : Value).ownBlock) ∧ some k_ ≠ (.slice Ao58 t548.length co58 : Value).ownBlock) ∧ some k_ ≠ (.slice Ao61 t551.length co61 : Value).ownBlock) ∧ some k_ ≠ (.slice Ao64 t556.length co64 : Value).ownBlock) ∧ some k_ ≠ (.slice Ao68 t559.length co68 : Value).ownBlock)) (n := t574.length) (c := co112) ?_).2.2; exact (by apply rbW; exact (Kd.R_mono (Kd.R_far (p := ⟨gb581, 1, none⟩) (Kd.R_far (p := ⟨gb581, 0, none⟩) (Kd.R_types HO576.out BK581.out (by decide)) (fun _ hk => hk.2) (.slice Ao112 t574.length co112)) (fun _ hk => hk.2) (.slice Ao117 t577.length co117)) (fun _ h_ => h_.1)))); (case side2 => exact (Kd.R_reads' HO576.out).2.1); (case side3 => refine (Kd.R_reads' (e := 3) (base := w.heap.size) (ok := fun k_ => (((((((some k_ ≠ (.slice Ao112 t574.length co112 : Value).ownBlock ∧ some k_ ≠ (.slice Ao100 t567.length co100 : Value).ownBlock) ∧ some k_ ≠ (.slice Ao11 t526.length co11 : Value).ownBlock) ∧ some k_ ≠ (.slice Ao13 t529.length co13 : Value).ownBlock) ∧ some k_ ≠ (.slice Ao58 t548.length co58 : Value).ownBlock) ∧ some k_ ≠ (.slice Ao61 t551.length co61 : Value).ownBlock) ∧ some k_ ≠ (.slice Ao64 t556.length co64 : Value).ownBlock) ∧ some k_ ≠ (.slice Ao68 t559.length co68 : Value).ownBlock)) (n := t577.length) (c := co117) ?_).2.2; exact (by apply rbW; exact (Kd.R_mono (Kd.R_far (p := ⟨gb581, 1, none⟩) (Kd.R_far (p := ⟨gb581, 0, none⟩) (Kd.R_types HO579.out BK581.out (by decide)) (fun _ hk => hk.2) (.slice Ao112 t574.length co112)) (fun _ hk => hk.2) (.slice Ao117 t577.length co117)) (fun _ h_ => h_.1)))); (case side4 => exact (Kd.R_reads' HO579.out).2.1); rintro e w118 ⟨v583, rfl, ho0, hb⟩; refine ⟨_, rfl, ?_⟩; have n0_ := Aside0.mk (Kd.R_elder' (by apply rbW; exact (Kd.R_mono (Kd.R_far (p := ⟨gb581, 1, none⟩) (Kd.R_far (p := ⟨gb581, 0, none⟩) (Kd.R_types HO_19.out BK581.out (by decide)) (fun _ hk => hk.2) (.slice Ao112 t574.length co112)) (fun _ hk => hk.2) (.slice Ao117 t577.length co117)) (fun _ h_ => h_.1))) (Kd.R_base ho0) hb); have n1_ := Aside0.mk (Kd.R_elder' (by apply rbW; exact (Kd.R_mono (Kd.R_far (p := ⟨gb581, 1, none⟩) (Kd.R_far (p := ⟨gb581, 0, none⟩) (Kd.R_types HO_533000.out BK581.out (by decide)) (fun _ hk => hk.2) (.slice Ao112 t574.length co112)) (fun _ hk => hk.2) (.slice Ao117 t577.length co117)) (fun _ h_ => h_.1))) (Kd.R_base ho0) hb); have n2_ := Aside0.mk (Kd.R_elder' (by apply rbW; exact (Kd.R_mono (Kd.R_far (p := ⟨gb581, 1, none⟩) (Kd.R_far (p := ⟨gb581, 0, none⟩) (Kd.R_types HO_533001.out BK581.out (by decide)) (fun _ hk => hk.2) (.slice Ao112 t574.length co112)) (fun _ hk => hk.2) (.slice Ao117 t577.length co117)) (fun _ h_ => h_.1))) (Kd.R_base ho0) hb); have n3_ := Aside0.mk (Kd.R_elder' (by apply rbW; exact (Kd.R_mono (Kd.R_far (p := ⟨gb581, 1, none⟩) (Kd.R_far (p := ⟨gb581, 0, none⟩) (Kd.R_types HO_556000.out BK581.out (by decide)) (fun _ hk => hk.2) (.slice Ao112 t574.length co112)) (fun _ hk => hk.2) (.slice Ao117 t577.length co117)) (fun _ h_ => h_.1))) (Kd.R_base ho0) hb); have n4_ := Aside0.mk (Kd.R_elder' (by apply rbW; exact (Kd.R_mono (Kd.R_far (p := ⟨gb581, 1, none⟩) (Kd.R_far (p := ⟨gb581, 0, none⟩) (Kd.R_types HO_556001.out BK581.out (by decide)) (fun _ hk => hk.2) (.slice Ao112 t574.length co112)) (fun _ hk => hk.2) (.slice Ao117 t577.length co117)) (fun _ h_ => h_.1))) (Kd.R_base ho0) hb); have n5_ := Aside0.mk (Kd.R_elder' (by apply rbW; exact (Kd.R_mono (Kd.R_far (p := ⟨gb581, 1, none⟩) (Kd.R_far (p := ⟨gb581, 0, none⟩) (Kd.R_types HO_564000.out BK581.out (by decide)) (fun _ hk => hk.2) (.slice Ao112 t574.length co112)) (fun _ hk => hk.2) (.slice Ao117 t577.length co117)) (fun _ h_ => h_.1))) (Kd.R_base ho0) hb); have n6_ := Aside0.mk (Kd.R_elder' (by apply rbW; exact (Kd.R_mono (Kd.R_far (p := ⟨gb581, 1, none⟩) (Kd.R_far (p := ⟨gb581, 0, none⟩) (Kd.R_types HO_564001.out BK581.out (by decide)) (fun _ hk => hk.2) (.slice Ao112 t574.length co112)) (fun _ hk => hk.2) (.slice Ao117 t577.length co117)) (fun _ h_ => h_.1))) (Kd.R_base ho0) hb); have n7_ := Aside0.mk (Kd.R_elder' (by apply rbW; exact (Kd.R_mono (Kd.R_far (p := ⟨gb581, 1, none⟩) (Kd.R_far (p := ⟨gb581, 0, none⟩) (Kd.R_types HO576.out BK581.out (by decide)) (fun _ hk => hk.2) (.slice Ao112 t574.length co112)) (fun _ hk => hk.2) (.slice Ao117 t577.length co117)) (fun _ h_ => h_.1))) (Kd.R_base ho0) hb); have n8_ := Aside0.mk (Kd.R_elder' (by apply rbW; exact (Kd.R_mono (Kd.R_far (p := ⟨gb581, 1, none⟩) (Kd.R_far (p := ⟨gb581, 0, none⟩) (Kd.R_types HO579.out BK581.out (by decide)) (fun _ hk => hk.2) (.slice Ao112 t574.length co112)) (fun _ hk => hk.2) (.slice Ao117 t577.length co117)) (fun _ h_ => h_.1))) (Kd.R_base ho0) hb); have n9_ := Aside0.mk (Kd.R_lower (Kd.R_new' (Kd.R_new' (Kd.R_new' (Kd.R_new' (Kd.R_new' (Kd.R_new' (Kd.R_new' (Kd.R_new' (Kd.R_new' ho0 (Kd.R_lt (by apply rbW; exact (Kd.R_mono (Kd.R_far (p := ⟨gb581, 1, none⟩) (Kd.R_far (p := ⟨gb581, 0, none⟩) (Kd.R_types HO_19.out BK581.out (by decide)) (fun _ hk => hk.2) (.slice Ao112 t574.length co112)) (fun _ hk => hk.2) (.slice Ao117 t577.length co117)) (fun _ h_ => h_.1))))) (Kd.R_lt (by apply rbW; exact (Kd.R_mono (Kd.R_far (p := ⟨gb581, 1, none⟩) (Kd.R_far (p := ⟨gb581, 0, none⟩) (Kd.R_types HO_533000.out BK581.out (by decide)) (fun _ hk => hk.2) (.slice Ao112 t574.length co112)) (fun _ hk => hk.2) (.slice Ao117 t577.length co117)) (fun _ h_ => h_.1))))) (Kd.R_lt (by apply rbW; exact (Kd.R_mono (Kd.R_far (p := ⟨gb581, 1, none⟩) (Kd.R_far (p := ⟨gb581, 0, none⟩) (Kd.R_types HO_533001.out BK581.out (by decide)) (fun _ hk => hk.2) (.slice Ao112 t574.length co112)) (fun _ hk => hk.2) (.slice Ao117 t577.length co117)) (fun _ h_ => h_.1))))) (Kd.R_lt (by apply rbW; exact (Kd.R_mono (Kd.R_far (p := ⟨gb581, 1, none⟩) (Kd.R_far (p := ⟨gb581, 0, none⟩) (Kd.R_types HO_556000.out BK581.out (by decide)) (fun _ hk => hk.2) (.slice Ao112 t574.length co112)) (fun _ hk => hk.2) (.slice Ao117 t577.length co117)) (fun _ h_ => h_.1))))) (Kd.R_lt (by apply rbW; exact (Kd.R_mono (Kd.R_far (p := ⟨gb581, 1, none⟩) (Kd.R_far (p := ⟨gb581, 0, none⟩) (Kd.R_types HO_556001.out BK581.out (by decide)) (fun _ hk => hk.2) (.slice Ao112 t574.length co112)) (fun _ hk => hk.2) (.slice Ao117 t577.length co117)) (fun _ h_ => h_.1))))) (Kd.R_lt (by apply rbW; exact (Kd.R_mono (Kd.R_far (p := ⟨gb581, 1, none⟩) (Kd.R_far (p := ⟨gb581, 0, none⟩) (Kd.R_types HO_564000.out BK581.out (by decide)) (fun _ hk => hk.2) (.slice Ao112 t574.length co112)) (fun _ hk => hk.2) (.slice Ao117 t577.length co117)) (fun _ h_ => h_.1))))) (Kd.R_lt (by apply rbW; exact (Kd.R_mono (Kd.R_far (p := ⟨gb581, 1, none⟩) (Kd.R_far (p := ⟨gb581, 0, none⟩) (Kd.R_types HO_564001.out BK581.out (by decide)) (fun _ hk => hk.2) (.slice Ao112 t574.length co112)) (fun _ hk => hk.2) (.slice Ao117 t577.length co117)) (fun _ h_ => h_.1))))) (Kd.R_lt (by apply rbW; exact (Kd.R_mono (Kd.R_far (p := ⟨gb581, 1, none⟩) (Kd.R_far (p := ⟨gb581, 0, none⟩) (Kd.R_types HO576.out BK581.out (by decide)) (fun _ hk => hk.2) (.slice Ao112 t574.length co112)) (fun _ hk => hk.2) (.slice Ao117 t577.length co117)) (fun _ h_ => h_.1))))) (Kd.R_lt (by apply rbW; exact (Kd.R_mono (Kd.R_far (p := ⟨gb581, 1, none⟩) (Kd.R_far (p := ⟨gb581, 0, none⟩) (Kd.R_types HO579.out BK581.out (by decide)) (fun _ hk => hk.2) (.slice Ao112 t574.length co112)) (fun _ hk => hk.2) (.slice Ao117 t577.length co117)) (fun _ h_ => h_.1))))) (below_size (by repeat (first | exact nbW HB.out | refine nbW (below_set ?_ GE532.out) | refine nbW (below_set ?_ GE555.out) | refine nbW (below_set ?_ GE563.out) | refine nbW (below_set ?_ GE581.out))))); have n10_ := Aside0.mk (blk_below (g := gb532) (o := .cells #[.slice Ao11 t526.length co11, .slice Ao13 t529.length co13] 24 (0, 0)) (by apply kbW; refine blk_far ?_ NB532_581.out _; apply kbW; refine blk_far ?_ NB532_581.out _; apply kbW; exact BK532.out) hb); have n11_ := Aside0.mk (blk_below (g := gb555) (o := .cells #[.slice Ao58 t548.length co58, .slice Ao61 t551.length co61] 24 (0, 0)) (by apply kbW; refine blk_far ?_ NB555_581.out _; apply kbW; refine blk_far ?_ NB555_581.out _; apply kbW; exact BK555.out) hb); have n12_ := Aside0.mk (blk_below (g := gb563) (o := .cells #[.slice Ao64 t556.length co64, .slice Ao68 t559.length co68] 24 (0, 0)) (by apply kbW; refine blk_far ?_ NB563_581.out _; apply kbW; refine blk_far ?_ NB563_581.out _; apply kbW; exact BK563.out) hb); have n13_ := Aside0.mk (blk_below (g := gb581) (o := .cells #[.slice Ao112 t574.length co112, .slice Ao117 t577.length co117] 24 (0, 0)) (by apply kbW; refine blk_put (cs := #[.slice Ao112 t574.length co112, .slice none 0 0]) ?_ 1 _ rfl; apply kbW; refine blk_put (cs := #[.slice none 0 0, .slice none 0 0]) ?_ 0 _ rfl; apply kbW; exact BK581.out) hb); have n14_ := Aside0.mk (below_step (by repeat (first | exact nbW HB.out | refine nbW (below_set ?_ GE532.out) | refine nbW (below_set ?_ GE555.out) | refine nbW (below_set ?_ GE563.out) | refine nbW (below_set ?_ GE581.out))) hb); clear HO_19; clear HO_533000; clear HO_533001; clear HO_556000; clear HO_556001; clear HO_564000; clear HO_564001; clear HO576; clear HO579; clear BK532; clear BK555; clear BK563; clear BK581; clear HB; have HO_19 := n0_; have HO_533000 := n1_; have HO_533001 := n2_; have HO_556000 := n3_; have HO_556001 := n4_; have HO_564000 := n5_; have HO_564001 := n6_; have HO576 := n7_; have HO579 := n8_; have HO584 := n9_; have BK532 := n10_; have BK555 := n11_; have BK563 := n12_; have BK581 := n13_; have HB := n14_; clear n0_ n1_ n2_ n3_ n4_ n5_ n6_ n7_ n8_ n9_ n10_ n11_ n12_ n13_ n14_; (try clear hb); (try clear hb2); (try clear hk); (try clear hi); (try clear ho0); obtain ⟨Ao119, co119, eo119⟩ := Kd.R_slice HO584.out; subst eo119) | ((with_reducible refine gate_callee (f := 39) rfl ?_); refine gcW 141 Tryz.func39 #[.slice Ao119 t582.length co119] rfl ?_; (with_reducible refine (impl_CountOrders.calls kj97 _ _ t582 t586 _ _ ?side1 ?side2 A106.out).mono ?_); (case side1 => exact cbW (Kd.R_reads' HO584.out).2.2); (case side2 => exact (Kd.R_reads' HO584.out).2.1); rintro e w120 ⟨rfl, hb⟩; refine ⟨_, rfl, ?_⟩; have n0_ := Aside0.mk (Kd.R_below (rbW HO_19.out) hb); have n1_ := Aside0.mk (Kd.R_below (rbW HO_533000.out) hb); have n2_ := Aside0.mk (Kd.R_below (rbW HO_533001.out) hb); have n3_ := Aside0.mk (Kd.R_below (rbW HO_556000.out) hb); have n4_ := Aside0.mk (Kd.R_below (rbW HO_556001.out) hb); have n5_ := Aside0.mk (Kd.R_below (rbW HO_564000.out) hb); have n6_ := Aside0.mk (Kd.R_below (rbW HO_564001.out) hb); have n7_ := Aside0.mk (Kd.R_below (rbW HO576.out) hb); have n8_ := Aside0.mk (Kd.R_below (rbW HO579.out) hb); have n9_ := Aside0.mk (Kd.R_below (rbW HO584.out) hb); have n10_ := Aside0.mk (blk_below (kbW BK532.out) hb); have n11_ := Aside0.mk (blk_below (kbW BK555.out) hb); have n12_ := Aside0.mk (blk_below (kbW BK563.out) hb); have n13_ := Aside0.mk (blk_below (kbW BK581.out) hb); have n14_ := Aside0.mk (below_step (by repeat (first | exact nbW HB.out | refine nbW (below_set ?_ GE532.out) | refine nbW (below_set ?_ GE555.out) | refine nbW (below_set ?_ GE563.out) | refine nbW (below_set ?_ GE581.out))) hb); clear HO_19; clear HO_533000; clear HO_533001; clear HO_556000; clear HO_556001; clear HO_564000; clear HO_564001; clear HO576; clear HO579; clear HO584; clear BK532; clear BK555; clear BK563; clear BK581; clear HB; have HO_19 := n0_; have HO_533000 := n1_; have HO_533001 := n2_; have HO_556000 := n3_; have HO_556001 := n4_; have HO_564000 := n5_; have HO_564001 := n6_; have HO576 := n7_; have HO579 := n8_; have HO584 := n9_; have BK532 := n10_; have BK555 := n11_; have BK563 := n12_; have BK581 := n13_; have HB := n14_; clear n0_ n1_ n2_ n3_ n4_ n5_ n6_ n7_ n8_ n9_ n10_ n11_ n12_ n13_ n14_; (try clear hb); (try clear hb2); (try clear hk); (try clear hi))); go_ret; exact ⟨by first | rfl | (simp [errW_none, errW_some] <;> rfl) | (simp [*, errW_none, errW_some] <;> rfl), by repeat (first | exact nbW HB.out | refine nbW (below_set ?_ GE532.out) | refine nbW (below_set ?_ GE555.out) | refine nbW (below_set ?_ GE563.out) | refine nbW (below_set ?_ GE581.out))⟩)
                  ·replace c103 := Bool.eq_false_iff.mpr c103
                   subst c103
                   rw [if_neg (show ¬ (false = true) by decide)] at H
                   obtain rfl := Option.some.inj H
                   go_wp2
                   go_ret
                   exact ⟨by first | rfl | (simp [errW_none, errW_some] <;> rfl) | (simp [*, errW_none, errW_some] <;> rfl), by repeat (first | exact nbW HB.out | refine nbW (below_set ?_ GE532.out) | refine nbW (below_set ?_ GE555.out) | refine nbW (below_set ?_ GE563.out))⟩

/-- THE ONE PURE STATEMENT of laws_FnWalkTexts: yours. -/
def laws_FnWalkTexts.Pure : Prop := ∀ (l0 : List Int) (l1 : List Int), l0.length ≤ maxLen → l0.length * 1 ≤ 140737488351232 → (∀ x ∈ l0, (Lit.int .u8 x).wf = true) → l1.length ≤ maxLen → l1.length * 1 ≤ 140737488351232 → (∀ x ∈ l1, (Lit.int .u8 x).wf = true) → ∃ k, laws_FnWalkTexts.f k l0 l1 = some true
theorem laws_FnWalkTexts.walk (P : laws_FnWalkTexts.Pure) (a0 : Option Addr) (len0 cap0 : Nat) (z0 : List Int) (a1 : Option Addr) (len1 cap1 : Nat) (z1 : List Int) (w : World) (hg : Gl w) (w0 : (a0 = none ∧ len0 = 0 ∧ cap0 = 0 ∧ z0 = []) ∨ ∃ x, a0 = some x ∧ len0 ≤ cap0 ∧ cap0 ≤ maxLen ∧ z0.length = cap0 ∧ (∀ i, i < z0.length → w.cell? (x.add i) = some (.int .u8 (z0.getD i 0))) ∧ ∀ n ∈ z0, (Lit.int .u8 n).wf = true) (y0 : len0 * 1 ≤ 140737488351232) (w1 : (a1 = none ∧ len1 = 0 ∧ cap1 = 0 ∧ z1 = []) ∨ ∃ x, a1 = some x ∧ len1 ≤ cap1 ∧ cap1 ≤ maxLen ∧ z1.length = cap1 ∧ (∀ i, i < z1.length → w.cell? (x.add i) = some (.int .u8 (z1.getD i 0))) ∧ ∀ n ∈ z1, (Lit.int .u8 n).wf = true) (y1 : len1 * 1 ≤ 140737488351232) :
  Calls Tryz.prog 5 #[.slice a0 len0 cap0, .slice a1 len1 cap1] w fun e w' => e = .returned (.bool true) ∧ Below w.heap.size w w' := by
 obtain ⟨l0, rfl, hr0, hm0, hw0, hc0⟩ := ReadsInt.ofRowC w0
 obtain ⟨l1, rfl, hr1, hm1, hw1, hc1⟩ := ReadsInt.ofRowC w1
 obtain ⟨k, h⟩ := P l0 l1 hm0 y0 hw0 hm1 y1 hw1
 refine (laws_FnWalkTexts.calls k _ _ l0 _ _ l1 true w hg (Kd.C_of_reads (d := (0 : Int)) (h1 := fun _ => rfl) hr0) hc0 (Kd.C_of_reads (d := (0 : Int)) (h1 := fun _ => rfl) hr1) hc1 h).mono ?_
 rintro e w' ⟨rfl, hd⟩
 exact ⟨rfl, hd⟩

end Go.Proofs.YtlknoidcopkmfaaGreatDoor.PFnWalkTexts
