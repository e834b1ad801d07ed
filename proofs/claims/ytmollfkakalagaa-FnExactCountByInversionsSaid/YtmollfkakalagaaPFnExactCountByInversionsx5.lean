-- Written by a program of this session for this claim (its own turn of the print).
import Derived.Test.YtmollfkakalagaaPFnExactCountByInversionsx0
import Derived.Test.YtmollfkakalagaaPFnExactCountByInversionsx4
namespace Go.Proofs.Ytmollfkakalagaa.PFnExactCountByInversions
open Go.RowKit Go.Proofs.YtmollfkakalagaaW.PrintWords Go.Proofs.YtmollfkakalagaaW.PrintLast Go.Proofs.YtmollfkakalagaaW.PrintMore
attribute [local go_sem] max2_int min2_int max_two min_two max_three min_three max_four min_four   -- for this text's walks alone
set_option linter.unusedVariables false
set_option linter.unusedSimpArgs false

/-! ### impl_treeOfPrufer: function 81 -/
mutual
def impl_treeOfPrufer.l0 : Nat → Int → List Int → List Int → List Int → Int → Int → Option (List Int)
 | 0, _, _, _, _, _, _ => none
 | k + 1, x3, x4, x5, x19, x20, x21 => if x21 < x20 then (if 0 ≤ x21 then (if x21 < (x19.length : Int) then (impl_treeOfPrufer.l1 k x3 x4 x5 x21 (rd x19 x21) x3 x19 x20 x21) else (none)) else (none)) else (some x4)
def impl_treeOfPrufer.l1 : Nat → Int → List Int → List Int → Int → Int → Int → List Int → Int → Int → Option (List Int)
 | 0, _, _, _, _, _, _, _, _, _ => none
 | k + 1, x3, x4, x5, x6, x7, x8, x19, x20, x21 => if 0 ≤ (wrap64 (x8 - 1)) then (if (wrap64 (x8 - 1)) < (x4.length : Int) then (if (rd x4 (wrap64 (x8 - 1))) ≥ 0 then (impl_treeOfPrufer.l1 k x3 x4 x5 x6 x7 (wrap64 (x8 - 1)) x19 x20 x21) else (if 0 ≤ x6 then (if x6 ≤ (x5.length : Int) then ((slices_Contains_int_int.f k (x5.drop (x6 : Int).toNat) x8).bind fun t245 => (if t245 = true then (impl_treeOfPrufer.l1 k x3 x4 x5 x6 x7 (wrap64 (x8 - 1)) x19 x20 x21) else (impl_treeOfPrufer.l0 k x3 (x4.set ((wrap64 (x8 - 1)) : Int).toNat x7) x5 x19 x20 (wrap64 (x21 + 1))))) else (none)) else (none))) else (none)) else (none)
end
def impl_treeOfPrufer.f (k : Nat) (l0 : List Int) : Option (List Int) := (slices_Repeat_int_int.f (([(-1)] : List Int)) (wrap64 ((l0.length : Int) + 1))).bind fun t230 => ((slices_Clone_int_int.f l0).bind fun t233 => (if t233.length < 17592186044416 then ((some (t233 ++ [0] : List Int)).bind fun y236 => (impl_treeOfPrufer.l0 k (wrap64 ((l0.length : Int) + 1)) t230 y236 y236 (y236.length : Int) 0)) else (none)))
theorem impl_treeOfPrufer.mono_l : ∀ k, (∀ y0 y1 y2 y3 y4 y5, LeO (impl_treeOfPrufer.l0 k y0 y1 y2 y3 y4 y5) (impl_treeOfPrufer.l0 (k + 1) y0 y1 y2 y3 y4 y5)) ∧ (∀ y0 y1 y2 y3 y4 y5 y6 y7 y8, LeO (impl_treeOfPrufer.l1 k y0 y1 y2 y3 y4 y5 y6 y7 y8) (impl_treeOfPrufer.l1 (k + 1) y0 y1 y2 y3 y4 y5 y6 y7 y8))
 | 0 => ⟨fun _ _ _ _ _ _ r h => by simp [impl_treeOfPrufer.l0] at h, fun _ _ _ _ _ _ _ _ _ r h => by simp [impl_treeOfPrufer.l1] at h⟩
 | k + 1 => by
  obtain ⟨ih0, ih1⟩ := impl_treeOfPrufer.mono_l k
  refine ⟨?_, ?_⟩
  ·intro y0 y1 y2 y3 y4 y5
   unfold impl_treeOfPrufer.l0
   repeat' first
   | (with_reducible exact ih0 _ _ _ _ _ _)
   | (with_reducible exact ih1 _ _ _ _ _ _ _ _ _)
   | (with_reducible exact slices_Contains_int_int.mono _ _ _)
   | (with_reducible exact LeO.refl _)
   | (with_reducible exact LeO.none _)
   | (with_reducible refine LeO.ite ?_ ?_)
   | (with_reducible refine LeO.bind ?_ (fun _ => ?_))
   | exact LeO.none _
   | refine LeO.ite ?_ ?_
   | refine LeO.bind ?_ (fun _ => ?_)
  ·intro y0 y1 y2 y3 y4 y5 y6 y7 y8
   unfold impl_treeOfPrufer.l1
   repeat' first
   | (with_reducible exact ih0 _ _ _ _ _ _)
   | (with_reducible exact ih1 _ _ _ _ _ _ _ _ _)
   | (with_reducible exact slices_Contains_int_int.mono _ _ _)
   | (with_reducible exact LeO.refl _)
   | (with_reducible exact LeO.none _)
   | (with_reducible refine LeO.ite ?_ ?_)
   | (with_reducible refine LeO.bind ?_ (fun _ => ?_))
   | exact LeO.none _
   | refine LeO.ite ?_ ?_
   | refine LeO.bind ?_ (fun _ => ?_)
theorem impl_treeOfPrufer.mono : ∀ a0 k, LeO (impl_treeOfPrufer.f k a0) (impl_treeOfPrufer.f (k + 1) a0) := by
 intro a0 k
 obtain ⟨ih0, ih1⟩ := impl_treeOfPrufer.mono_l k
 unfold impl_treeOfPrufer.f
 repeat' first
   | (with_reducible exact ih0 _ _ _ _ _ _)
   | (with_reducible exact ih1 _ _ _ _ _ _ _ _ _)
   | (with_reducible exact slices_Contains_int_int.mono _ _ _)
   | (with_reducible exact LeO.refl _)
   | (with_reducible exact LeO.none _)
   | (with_reducible refine LeO.ite ?_ ?_)
   | (with_reducible refine LeO.bind ?_ (fun _ => ?_))
   | exact LeO.none _
   | refine LeO.ite ?_ ?_
   | refine LeO.bind ?_ (fun _ => ?_)
set_option maxHeartbeats 8000000 in
set_option maxRecDepth 100000 in
theorem impl_treeOfPrufer.calls (k : Nat) (A0 : Option Addr) (c0 : Nat) (l0 : List Int) (r : List Int) (w : World) (hr0 : Kd.C (Kd.int .i64) w A0 l0.length l0) (hc0 : l0.length ≤ c0) (h : impl_treeOfPrufer.f k l0 = some r) :
  Calls Try.prog 81 #[.slice A0 l0.length c0] w fun e w' => ∃ v0_ : Value, e = .returned (v0_) ∧ Kd.R (Kd.int .i64) 3 w' w.heap.size (fun _ => True) v0_ r ∧ Below w.heap.size w w' := by
 have HR0 := Aside0.mk hr0
 have HC0 := Aside0.mk hc0
 clear hr0 hc0
 have HB := Aside0.mk (Below.refl w.heap.size w)
 have H : ((slices_Repeat_int_int.f (([(-1)] : List Int)) (wrap64 ((l0.length : Int) + 1))).bind fun t230 => ((slices_Clone_int_int.f l0).bind fun t233 => (if t233.length < 17592186044416 then ((some (t233 ++ [0] : List Int)).bind fun y236 => (impl_treeOfPrufer.l0 k (wrap64 ((l0.length : Int) + 1)) t230 y236 y236 (y236.length : Int) 0)) else (none)))) = some r := h
 clear h
 obtain ⟨y227, hy227⟩ : ∃ y_ : List Int, y_ = (([(-1)] : List Int)) := ⟨_, rfl⟩
 replace H : ((slices_Repeat_int_int.f y227 (wrap64 ((l0.length : Int) + 1))).bind fun t230 => ((slices_Clone_int_int.f l0).bind fun t233 => (if t233.length < 17592186044416 then ((some (t233 ++ [0] : List Int)).bind fun y236 => (impl_treeOfPrufer.l0 k (wrap64 ((l0.length : Int) + 1)) t230 y236 y236 (y236.length : Int) 0)) else (none)))) = some r := by first | (rw [hy227]; with_reducible exact H) | (have H2_ := (Option.bind_some _ _).symm.trans H; rw [hy227]; with_reducible exact H2_) | (have H2_ := (Option.bind_some _ _).symm.trans H; with_reducible exact H2_) | with_reducible exact H | (rw [hy227]; exact H) | exact H
 have Ny227 := Aside0.mk hy227
 clear hy227
 replace H := Option.bind_eq_some_iff.mp H
 obtain ⟨t230, A20, H⟩ := H
 replace H : ((slices_Clone_int_int.f l0).bind fun t233 => (if t233.length < 17592186044416 then ((some (t233 ++ [0] : List Int)).bind fun y236 => (impl_treeOfPrufer.l0 k (wrap64 ((l0.length : Int) + 1)) t230 y236 y236 (y236.length : Int) 0)) else (none))) = some r := H
 have A2 := Aside0.mk A20
 clear A20
 replace H := Option.bind_eq_some_iff.mp H
 obtain ⟨t233, A30, H⟩ := H
 replace H : (if t233.length < 17592186044416 then ((some (t233 ++ [0] : List Int)).bind fun y236 => (impl_treeOfPrufer.l0 k (wrap64 ((l0.length : Int) + 1)) t230 y236 y236 (y236.length : Int) 0)) else (none)) = some r := H
 have A3 := Aside0.mk A30
 clear A30
 by_cases c4 : t233.length < 17592186044416
 ·rw [if_pos c4] at H
  have LMc4 := Aside0.mk c4
  clear c4
  obtain ⟨y236, hy236⟩ : ∃ y_ : List Int, y_ = (t233 ++ [0]) := ⟨_, rfl⟩
  replace H : (impl_treeOfPrufer.l0 k (wrap64 ((l0.length : Int) + 1)) t230 y236 y236 (y236.length : Int) 0) = some r := by first | (rw [hy236]; with_reducible exact H) | (have H2_ := (Option.bind_some _ _).symm.trans H; rw [hy236]; with_reducible exact H2_) | (have H2_ := (Option.bind_some _ _).symm.trans H; with_reducible exact H2_) | with_reducible exact H | (rw [hy236]; exact H) | exact H
  have Ny236 := Aside0.mk hy236
  clear hy236
  have H' := Aside0.mk H
  clear H
  go_enter Try.func81, Try.ntmps81
  go_wp2_with (first | ((with_reducible refine gate_dst (N := 12) rfl ?_); refine Kd.R_lit (Kd.int .i64) _ 3 ?hg (N := 12) ?hd (xs := ([(-1)] : List Int)) (inner := [.int .i64 (-1)]) (ok := fun _ => True) (okp := fun _ => True) ?hr ?hp (fun _ hk => hk) trivial (Below.refl _ _) (Nat.le_refl _) (by simp) ?_; (case hd => rfl); (case hg => rfl); (case hr => first | (go_simp; done) | (go_simp; rfl)); (case hp => exact (Reps.one (show Kd.M (Kd.int .i64) _ _ _ (-1) [.int .i64 (-1)] from rfl) (Reps.none _ _))); intro v228 w5 ho6 hb hg_ hnew_; clear hg_ hnew_; (first | rw [← Ny227.out] at ho6 | (simp only [Int.reduceToNat] at ho6; rw [← Ny227.out] at ho6)); have n0_ := Aside0.mk (Kd.R_lower ho6 (below_size (by repeat (first | (with_reducible first | exact HB.out | apply below_alloc | apply pw_below_drewN | apply below_drew1) | exact HB.out)))); have n1_ := Aside0.mk (below_step (by repeat (first | (with_reducible first | exact HB.out | apply below_alloc | apply pw_below_drewN | apply below_drew1) | exact HB.out)) hb); clear HB; have HO229 := n0_; have HB := n1_; clear n0_ n1_; clear hb ho6; obtain ⟨Ao7, co7, eo7⟩ := Kd.R_slice HO229.out; subst eo7) | ((with_reducible refine gate_callee (f := 118) rfl ?_); refine goesL_ (some 14) rfl rfl Try.func118 (by kernel_rfl) rfl #[.slice Ao7 y227.length co7, .int .i64 (wrap64 ((l0.length : Int) + 1))] rfl (by (try simp only [List.map_toArray, List.map_cons, List.map_nil]); first | done | rfl | (simp only [List.length_drop, List.length_take]; rfl)) ?_; (with_reducible refine (slices_Repeat_int_int.calls _ _ y227 (wrap64 ((l0.length : Int) + 1)) t230 _ ?side1 ?side2 A2.out).mono ?_); (case side1 => repeat (first | exact (Kd.R_reads' HO229.out).2.2 | (with_reducible refine Kd.C_alloc ?_ _) | (with_reducible refine Kd.C_drewN ?_ _) | (with_reducible refine Kd.C_drew ?_))); (case side2 => exact (Kd.R_reads' HO229.out).2.1); rintro e w8 ⟨v231, rfl, ho0, hb⟩; refine ⟨_, rfl, ?_⟩; have n0_ := Aside0.mk (Kd.R_elder' (by (with_reducible repeat (first | apply Kd.R_alloc | apply Kd.R_drewN | apply Kd.R_drew)); exact HO229.out) (Kd.R_base ho0) hb); have n1_ := Aside0.mk (Kd.R_lower (Kd.R_new' ho0 (Kd.R_lt (by (with_reducible repeat (first | apply Kd.R_alloc | apply Kd.R_drewN | apply Kd.R_drew)); exact HO229.out))) (below_size (by repeat (first | (with_reducible first | exact HB.out | apply below_alloc | apply pw_below_drewN | apply below_drew1) | exact HB.out)))); have n2_ := Aside0.mk (below_step (by repeat (first | (with_reducible first | exact HB.out | apply below_alloc | apply pw_below_drewN | apply below_drew1) | exact HB.out)) hb); clear HO229; clear HB; have HO229 := n0_; have HO232 := n1_; have HB := n2_; clear n0_ n1_ n2_; (try clear hb); (try clear hb2); (try clear hk); (try clear hi); (try clear ho0)) | ((with_reducible refine gate_callee (f := 102) rfl ?_); refine goesL_ (some 16) rfl rfl Try.func102 (by kernel_rfl) rfl #[.slice A0 l0.length c0] rfl (by (try simp only [List.map_toArray, List.map_cons, List.map_nil]); first | done | rfl | (simp only [List.length_drop, List.length_take]; rfl)) ?_; (with_reducible refine (slices_Clone_int_int.calls _ _ l0 t233 _ ?side1 ?side2 A3.out).mono ?_); (case side1 => repeat (first | exact (Kd.C_below HR0.out HB.out) | (with_reducible refine Kd.C_alloc ?_ _) | (with_reducible refine Kd.C_drewN ?_ _) | (with_reducible refine Kd.C_drew ?_))); (case side2 => exact HC0.out); rintro e w9 ⟨v234, rfl, ho0, hb⟩; refine ⟨_, rfl, ?_⟩; have n0_ := Aside0.mk (Kd.R_elder' (by (with_reducible repeat (first | apply Kd.R_alloc | apply Kd.R_drewN | apply Kd.R_drew)); exact HO229.out) (Kd.R_base ho0) hb); have n1_ := Aside0.mk (Kd.R_elder' (by (with_reducible repeat (first | apply Kd.R_alloc | apply Kd.R_drewN | apply Kd.R_drew)); exact HO232.out) (Kd.R_base ho0) hb); have n2_ := Aside0.mk (Kd.R_lower (Kd.R_new' (Kd.R_new' ho0 (Kd.R_lt (by (with_reducible repeat (first | apply Kd.R_alloc | apply Kd.R_drewN | apply Kd.R_drew)); exact HO229.out))) (Kd.R_lt (by (with_reducible repeat (first | apply Kd.R_alloc | apply Kd.R_drewN | apply Kd.R_drew)); exact HO232.out))) (below_size (by repeat (first | (with_reducible first | exact HB.out | apply below_alloc | apply pw_below_drewN | apply below_drew1) | exact HB.out)))); have n3_ := Aside0.mk (below_step (by repeat (first | (with_reducible first | exact HB.out | apply below_alloc | apply pw_below_drewN | apply below_drew1) | exact HB.out)) hb); clear HO229; clear HO232; clear HB; have HO229 := n0_; have HO232 := n1_; have HO235 := n2_; have HB := n3_; clear n0_ n1_ n2_ n3_; (try clear hb); (try clear hb2); (try clear hk); (try clear hi); (try clear ho0)) | ((with_reducible refine gate_builtin (b := .append) (xs := #[.tmp 16, .tmp 17]) rfl ?_); at_builtin; refine Kd.R_append (Kd.int .i64) (w0 := w) w.heap.size rfl (.tmp 16) (.tmp 17) 22 3 (.int .i64 0) 8 rfl Try.underlying22 info3 rfl (by decide) (by omega) v234 t233 0 [.int .i64 0] (fun k_ => some k_ ≠ (.slice Ao7 y227.length co7 : Value).ownBlock ∧ some k_ ≠ (v231 : Value).ownBlock) (fun _ => False) rfl rfl ?aP (fun _ hk => hk.elim) ?aF ?aO ?aB ?aS ?aL ?_; (case aP => exact rfl); (case aB => exact (by repeat (first | (with_reducible first | exact HB.out | apply below_alloc | apply pw_below_drewN | apply below_drew1) | exact HB.out))); (case aF => exact (fun k_ hk => ⟨Kd.fresh' (Kd.R_lt (by (with_reducible repeat (first | apply Kd.R_alloc | apply Kd.R_drewN | apply Kd.R_drew)); exact HO229.out)) k_ hk, Kd.fresh' (Kd.R_lt (by (with_reducible repeat (first | apply Kd.R_alloc | apply Kd.R_drewN | apply Kd.R_drew)); exact HO232.out)) k_ hk⟩)); (case aO => exact (by (with_reducible repeat (first | apply Kd.R_alloc | apply Kd.R_drewN | apply Kd.R_drew)); exact Kd.R_mono HO235.out (fun _ hk => ⟨hk.1.2, hk.2⟩))); (case aS => exact (below_size (by repeat (first | (with_reducible first | exact HB.out | apply below_alloc | apply pw_below_drewN | apply below_drew1) | exact HB.out)))); (case aL => have := LMc4.out; omega); intro v237 w10 ho hb hg hat; rw [← Ny236.out] at ho; have n0_ := Aside0.mk (Kd.R_after (ok := (fun k_ => some k_ ≠ (v231 : Value).ownBlock)) (by (with_reducible repeat (first | apply Kd.R_alloc | apply Kd.R_drewN | apply Kd.R_drew)); exact Kd.R_mono HO229.out (fun _ hk => ⟨hk.1.2, hk.2⟩)) hg hat); have n1_ := Aside0.mk (Kd.R_after (ok := (fun k_ => some k_ ≠ (.slice Ao7 y227.length co7 : Value).ownBlock)) (by (with_reducible repeat (first | apply Kd.R_alloc | apply Kd.R_drewN | apply Kd.R_drew)); exact Kd.R_mono HO232.out (fun _ hk => ⟨hk.1.2, hk.2⟩)) hg hat); have n2_ := Aside0.mk (hb); have n3_ := Aside0.mk (ho); clear HO229; clear HO232; clear HB; clear HO235; have HO229 := n0_; have HO232 := n1_; have HB := n2_; have HO238 := n3_; clear n0_ n1_ n2_ n3_; clear ho hb hg hat; obtain ⟨Ao11, co11, eo11⟩ := Kd.R_slice HO238.out; subst eo11))
  go_loopg [21] k (fun kq v21 w' => ∃ (x4_1 : List Int) (x21_1 : Int), v21 = .int .i64 x21_1 ∧ Aside0 (impl_treeOfPrufer.l0 kq (wrap64 ((l0.length : Int) + 1)) x4_1 y236 y236 (y236.length : Int) x21_1 = some r) ∧ Aside0 (kq ≤ k) ∧ Aside0 (Kd.R (Kd.int .i64) 3 w' w.heap.size (fun k_ => some k_ ≠ ((.slice Ao11 y236.length co11) : Value).ownBlock ∧ some k_ ≠ ((.slice Ao11 y236.length co11) : Value).ownBlock) v231 x4_1) ∧ Aside0 (Kd.R (Kd.int .i64) 3 w' w.heap.size (fun k_ => some k_ ≠ (v231 : Value).ownBlock) (.slice Ao11 y236.length co11) y236) ∧ Aside0 (Kd.R (Kd.int .i64) 3 w' w.heap.size (fun k_ => some k_ ≠ (v231 : Value).ownBlock) (.slice Ao11 y236.length co11) y236) ∧ Aside0 (Below w.heap.size w w'))
  case atStart => exact ⟨(t230), (0), (by first | rfl | (simp; done) | (simp [*]; done)), H', ⟨Nat.le_refl _⟩, ⟨by (with_reducible repeat (first | apply Kd.R_alloc | apply Kd.R_drewN | apply Kd.R_drew)); exact Kd.R_mono HO232.out (fun _ hk => ⟨hk.2, hk.2⟩)⟩, ⟨by (with_reducible repeat (first | apply Kd.R_alloc | apply Kd.R_drewN | apply Kd.R_drew)); exact Kd.R_mono HO238.out (fun _ hk => hk.2)⟩, ⟨by (with_reducible repeat (first | apply Kd.R_alloc | apply Kd.R_drewN | apply Kd.R_drew)); exact Kd.R_mono HO238.out (fun _ hk => hk.2)⟩, ⟨by repeat (first | (with_reducible first | exact HB.out | apply below_alloc | apply pw_below_drewN | apply below_drew1) | exact HB.out)⟩⟩
  case round =>
   clear H'
   try clear c1
   try clear p2
   try clear c4
   try clear p6
   try clear c8
   try clear c10
   try clear c11
   obtain ⟨x4_1, x21_1, rfl, HA, HK1, HO_4, HO_5, HO_19, HB⟩ := hrel
   cases gk with
   | zero => exact absurd HA.out (by simp [impl_treeOfPrufer.l0])
   | succ k1 =>
    have H := HA.out
    clear HA
    simp only [impl_treeOfPrufer.l0] at H
    by_cases c12 : x21_1 < (y236.length : Int)
    ·rw [if_pos c12] at H
     have c12b0 : decide (x21_1 < (y236.length : Int)) = true := decide_eq_true c12
     clear c12
     by_cases c13 : 0 ≤ x21_1
     ·rw [if_pos c13] at H
      have c13b0 : decide (0 ≤ x21_1) = true := decide_eq_true c13
      clear c13
      by_cases c14 : x21_1 < (y236.length : Int)
      ·rw [if_pos c14] at H
       have c14b0 : decide (x21_1 < (y236.length : Int)) = true := decide_eq_true c14
       clear c14
       have H' := Aside0.mk H
       clear H
       have p239 : 0 ≤ (x21_1 : Int) := of_decide_eq_true (by first | (with_reducible assumption) | assumption)
       have q239 : x21_1 < (y236.length : Int) := of_decide_eq_true (by first | (with_reducible assumption) | assumption)
       obtain ⟨ad239, e239, hx239_0⟩ := Kd.at_int (Kd.R_reads' HO_19.out).2.2 x21_1 p239 q239
       cases e239
       replace p239 := eq_true p239
       replace q239 := eq_true q239
       go_wp2
       go_loopg [8] k1 (fun kq v8 w' => ∃ (x8_2 : Int), v8 = .int .i64 x8_2 ∧ Aside0 (impl_treeOfPrufer.l1 kq (wrap64 ((l0.length : Int) + 1)) x4_1 y236 x21_1 (rd y236 x21_1) x8_2 y236 (y236.length : Int) x21_1 = some r) ∧ Aside0 (kq ≤ k1) ∧ Aside0 (Kd.R (Kd.int .i64) 3 w' w.heap.size (fun k_ => some k_ ≠ ((.slice (some ad239) y236.length co11) : Value).ownBlock ∧ some k_ ≠ ((.slice (some ad239) y236.length co11) : Value).ownBlock) v231 x4_1) ∧ Aside0 (Kd.R (Kd.int .i64) 3 w' w.heap.size (fun k_ => some k_ ≠ (v231 : Value).ownBlock) (.slice (some ad239) y236.length co11) y236) ∧ Aside0 (Kd.R (Kd.int .i64) 3 w' w.heap.size (fun k_ => some k_ ≠ (v231 : Value).ownBlock) (.slice (some ad239) y236.length co11) y236) ∧ Aside0 (Below w.heap.size w w'))
       case atStart => exact ⟨((wrap64 ((l0.length : Int) + 1))), (by first | rfl | (simp; done) | (simp [*]; done)), H', ⟨Nat.le_refl _⟩, ⟨by (with_reducible repeat (first | apply Kd.R_alloc | apply Kd.R_drewN | apply Kd.R_drew)); exact HO_4.out⟩, ⟨by (with_reducible repeat (first | apply Kd.R_alloc | apply Kd.R_drewN | apply Kd.R_drew)); exact HO_5.out⟩, ⟨by (with_reducible repeat (first | apply Kd.R_alloc | apply Kd.R_drewN | apply Kd.R_drew)); exact HO_19.out⟩, ⟨by repeat (first | (with_reducible first | exact HB.out | apply below_alloc | apply pw_below_drewN | apply below_drew1) | exact HB.out)⟩⟩
       case round =>
        clear H'
        try clear c1
        try clear p2
        try clear q2
        try clear hx2
        try clear c4
        try clear p6
        try clear c8
        try clear c10
        try clear c11
        try clear c12
        try clear c12b0
        try clear c13
        try clear c13b0
        try clear c14
        try clear c14b0
        try clear hx239_0
        try clear p2
        try clear p239
        try clear p6
        try clear q239
        obtain ⟨x8_2, rfl, HA, HK2, HO_4, HO_5, HO_19, HB⟩ := hrel
        cases gk with
        | zero => exact absurd HA.out (by simp [impl_treeOfPrufer.l1])
        | succ k2 =>
         have H := HA.out
         clear HA
         simp only [impl_treeOfPrufer.l1] at H
         obtain ⟨ji15, hji15⟩ : ∃ j_ : Int, (wrap64 (x8_2 - 1)) = j_ := ⟨_, rfl⟩
         replace H : (if 0 ≤ (ji15) then (if (ji15) < (x4_1.length : Int) then (if (rd x4_1 (ji15)) ≥ 0 then (impl_treeOfPrufer.l1 k2 (wrap64 ((l0.length : Int) + 1)) x4_1 y236 x21_1 (rd y236 x21_1) ji15 y236 (y236.length : Int) x21_1) else (if 0 ≤ x21_1 then (if x21_1 ≤ (y236.length : Int) then ((slices_Contains_int_int.f k2 (y236.drop (x21_1 : Int).toNat) x8_2).bind fun t245 => (if t245 = true then (impl_treeOfPrufer.l1 k2 (wrap64 ((l0.length : Int) + 1)) x4_1 y236 x21_1 (rd y236 x21_1) ji15 y236 (y236.length : Int) x21_1) else (impl_treeOfPrufer.l0 k2 (wrap64 ((l0.length : Int) + 1)) (x4_1.set ((ji15) : Int).toNat (rd y236 x21_1)) y236 y236 (y236.length : Int) (wrap64 (x21_1 + 1))))) else (none)) else (none))) else (none)) else (none)) = some r := by first | (rw [hji15] at H; exact H) | (simp only [hji15] at H ⊢; exact H)
         have hji15w : (IntKind.i64.wrap (x8_2 - 1)) = ji15 := (i64_w _).trans hji15
         by_cases c16 : 0 ≤ (ji15)
         ·rw [if_pos c16] at H
          have c16b0 : decide (0 ≤ (ji15)) = true := decide_eq_true c16
          clear c16
          by_cases c17 : (ji15) < (x4_1.length : Int)
          ·rw [if_pos c17] at H
           have c17b0 : decide ((ji15) < (x4_1.length : Int)) = true := decide_eq_true c17
           clear c17
           by_cases c18 : (rd x4_1 (ji15)) ≥ 0
           ·rw [if_pos c18] at H
            have c18b0 : decide (0 ≤ (rd x4_1 (ji15))) = true := decide_eq_true c18
            clear c18
            have H' := Aside0.mk H
            clear H
            obtain ⟨Ao19, co19, eo19⟩ := Kd.R_slice HO_4.out
            subst eo19
            have p240 : 0 ≤ ((ji15) : Int) := of_decide_eq_true (by first | (with_reducible assumption) | assumption)
            have q240 : (ji15) < (x4_1.length : Int) := of_decide_eq_true (by first | (with_reducible assumption) | assumption)
            obtain ⟨ad240, e240, hx240_0⟩ := Kd.at_int (Kd.R_reads' HO_4.out).2.2 (ji15) p240 q240
            cases e240
            replace p240 := eq_true p240
            replace q240 := eq_true q240
            go_wp2
            go_roundg k2
            case measure => have := HK1.out; have := HK2.out; omega
            case rel => exact ⟨(ji15), (by first | rfl | (simp; done) | (simp only [← hji15] <;> (first | rfl | simp)) | (simp [*]; done)), H', ⟨by have := HK1.out; have := HK2.out; omega⟩, ⟨by (with_reducible repeat (first | apply Kd.R_alloc | apply Kd.R_drewN | apply Kd.R_drew)); exact HO_4.out⟩, ⟨by (with_reducible repeat (first | apply Kd.R_alloc | apply Kd.R_drewN | apply Kd.R_drew)); exact HO_5.out⟩, ⟨by (with_reducible repeat (first | apply Kd.R_alloc | apply Kd.R_drewN | apply Kd.R_drew)); exact HO_19.out⟩, ⟨by repeat (first | (with_reducible first | exact HB.out | apply below_alloc | apply pw_below_drewN | apply below_drew1) | exact HB.out)⟩⟩
           ·rw [if_neg c18] at H
            have c18b0 : decide (0 ≤ (rd x4_1 (ji15))) = false := decide_eq_false c18
            clear c18
            by_cases c20 : 0 ≤ x21_1
            ·rw [if_pos c20] at H
             have c20b0 := eq_true c20
             have c20b1 : decide (0 ≤ x21_1) = true := decide_eq_true c20
             clear c20
             by_cases c21 : x21_1 ≤ (y236.length : Int)
             ·rw [if_pos c21] at H
              have c21b0 := eq_true c21
              have c21b1 : decide (x21_1 ≤ (y236.length : Int)) = true := decide_eq_true c21
              clear c21
              obtain ⟨y241, hy241⟩ : ∃ y_ : List Int, y_ = (y236.drop (x21_1 : Int).toNat) := ⟨_, rfl⟩
              replace H : ((slices_Contains_int_int.f k2 y241 x8_2).bind fun t245 => (if t245 = true then (impl_treeOfPrufer.l1 k2 (wrap64 ((l0.length : Int) + 1)) x4_1 y236 x21_1 (rd y236 x21_1) ji15 y236 (y236.length : Int) x21_1) else (impl_treeOfPrufer.l0 k2 (wrap64 ((l0.length : Int) + 1)) (x4_1.set ((ji15) : Int).toNat (rd y236 x21_1)) y236 y236 (y236.length : Int) (wrap64 (x21_1 + 1))))) = some r := by first | (rw [hy241]; with_reducible exact H) | (have H2_ := (Option.bind_some _ _).symm.trans H; rw [hy241]; with_reducible exact H2_) | (have H2_ := (Option.bind_some _ _).symm.trans H; with_reducible exact H2_) | with_reducible exact H | (rw [hy241]; exact H) | exact H
              have Ny241 := Aside0.mk hy241
              clear hy241
              replace H := Option.bind_eq_some_iff.mp H
              obtain ⟨t245, A220, H⟩ := H
              replace H : (if t245 = true then (impl_treeOfPrufer.l1 k2 (wrap64 ((l0.length : Int) + 1)) x4_1 y236 x21_1 (rd y236 x21_1) ji15 y236 (y236.length : Int) x21_1) else (impl_treeOfPrufer.l0 k2 (wrap64 ((l0.length : Int) + 1)) (x4_1.set ((ji15) : Int).toNat (rd y236 x21_1)) y236 y236 (y236.length : Int) (wrap64 (x21_1 + 1)))) = some r := H
              have A22 := Aside0.mk A220
              clear A220
              by_cases c23 : t245 = true
              ·subst c23
               have H1 : (impl_treeOfPrufer.l1 k2 (wrap64 ((l0.length : Int) + 1)) x4_1 y236 x21_1 (rd y236 x21_1) ji15 y236 (y236.length : Int) x21_1) = some r := by rw [if_pos rfl] at H; exact H
               clear H
               have H := H1
               clear H1
               have H' := Aside0.mk H
               clear H
               obtain ⟨Ao24, co24, eo24⟩ := Kd.R_slice HO_4.out
               subst eo24
               have p240 : 0 ≤ ((ji15) : Int) := of_decide_eq_true (by first | (with_reducible assumption) | assumption)
               have q240 : (ji15) < (x4_1.length : Int) := of_decide_eq_true (by first | (with_reducible assumption) | assumption)
               obtain ⟨ad240, e240, hx240_0⟩ := Kd.at_int (Kd.R_reads' HO_4.out).2.2 (ji15) p240 q240
               cases e240
               replace p240 := eq_true p240
               replace q240 := eq_true q240
               have q25 : (x21_1 : Int) ≤ ((y236.length : Int) : Int) := of_decide_eq_true (by first | (with_reducible assumption) | assumption)
               obtain ⟨i025, hi025, _, hsz25, _⟩ := info_parts info3
               have hroom25 : y236.length ≤ co11 := (Kd.R_reads' HO_5.out).2.1
               have hC25 : Kd.C (Kd.int .i64) _ (some ad239) y236.length y236 := (Kd.R_reads' HO_5.out).2.2
               have q025 : (0 : Int) ≤ (x21_1 : Int) := of_decide_eq_true (by first | (with_reducible assumption) | assumption)
               have hcut25 := cut_from (P := Try.prog) 22 3 .i64 Try.underlying22 hi025 1 hsz25 (some ad239) y236.length co11 x21_1 q025 q25
               have hr25 := Kd.C_drop (m := (x21_1 : Int).toNat) (c := co11) hC25 (by omega) hroom25
               obtain ⟨A25, hA25⟩ : ∃ A1, A1 = (if co11 = (x21_1 : Int).toNat then (some ad239) else ((some ad239) : Option Addr).map (·.add ((x21_1 : Int).toNat * 1))) := ⟨_, rfl⟩
               obtain ⟨c25, hc25⟩ : ∃ c1, c1 = co11 - (x21_1 : Int).toNat := ⟨_, rfl⟩
               have hy25 : y241.length = y236.length - (x21_1 : Int).toNat := (by rw [Ny241.out, List.length_drop] <;> omega)
               rw [show (y236).drop (x21_1 : Int).toNat = y241 from Ny241.out.symm] at hr25
               replace hr25 : Kd.C (Kd.int .i64) _ A25 y241.length y241 := (by rw [hA25]; exact hr25)
               rw [← hy25, ← hA25, ← hc25] at hcut25
               have HR244 := Aside0.mk hr25
               have HC244 := Aside0.mk (show y241.length ≤ c25 from by rw [hy25, hc25]; exact Nat.sub_le_sub_right hroom25 _)
               clear hr25 hC25 hroom25 hi025 hsz25 hc25
               have KY25 := Aside0.mk hy25
               have KA25 := Aside0.mk hA25
               clear hy25 hA25
               have KL25 := Aside0.mk (show (x21_1 : Int).toNat ≤ y236.length from by omega)
               replace q25 := eq_true q25
               go_wp2_with (first | (go_at_call 103; (with_reducible refine (slices_Contains_int_int.calls k2 _ _ y241 x8_2 true _ ?side1 ?side2 A22.out).mono ?_); (case side1 => repeat (first | exact (by repeat (first | (with_reducible exact HR244.out) | (with_reducible refine Kd.C_alloc ?_ _) | (with_reducible refine Kd.C_drewN ?_ _) | (with_reducible refine Kd.C_drew ?_) | exact HR244.out)) | (with_reducible refine Kd.C_alloc ?_ _) | (with_reducible refine Kd.C_drewN ?_ _) | (with_reducible refine Kd.C_drew ?_))); (case side2 => exact HC244.out); rintro e w' ⟨rfl, ⟨nd, rfl⟩⟩))
               go_roundg k2
               case measure => have := HK1.out; have := HK2.out; omega
               case rel => exact ⟨(ji15), (by first | rfl | (simp; done) | (simp only [← hji15] <;> (first | rfl | simp)) | (simp [*]; done)), H', ⟨by have := HK1.out; have := HK2.out; omega⟩, ⟨by (with_reducible repeat (first | apply Kd.R_alloc | apply Kd.R_drewN | apply Kd.R_drew)); exact HO_4.out⟩, ⟨by (with_reducible repeat (first | apply Kd.R_alloc | apply Kd.R_drewN | apply Kd.R_drew)); exact HO_5.out⟩, ⟨by (with_reducible repeat (first | apply Kd.R_alloc | apply Kd.R_drewN | apply Kd.R_drew)); exact HO_19.out⟩, ⟨by repeat (first | (with_reducible first | exact HB.out | apply below_alloc | apply pw_below_drewN | apply below_drew1) | exact HB.out)⟩⟩
              ·replace c23 := Bool.eq_false_iff.mpr c23
               subst c23
               have H1 : (impl_treeOfPrufer.l0 k2 (wrap64 ((l0.length : Int) + 1)) (x4_1.set ((ji15) : Int).toNat (rd y236 x21_1)) y236 y236 (y236.length : Int) (wrap64 (x21_1 + 1))) = some r := by rw [if_neg (show ¬ (false = true) by decide)] at H; exact H
               clear H
               have H := H1
               clear H1
               obtain ⟨y246, hy246⟩ : ∃ y_ : List Int, y_ = (x4_1.set ((ji15) : Int).toNat (rd y236 x21_1)) := ⟨_, rfl⟩
               replace H : (impl_treeOfPrufer.l0 k2 (wrap64 ((l0.length : Int) + 1)) y246 y236 y236 (y236.length : Int) (wrap64 (x21_1 + 1))) = some r := by first | (rw [hy246]; with_reducible exact H) | (have H2_ := (Option.bind_some _ _).symm.trans H; rw [hy246]; with_reducible exact H2_) | (have H2_ := (Option.bind_some _ _).symm.trans H; with_reducible exact H2_) | with_reducible exact H | (rw [hy246]; exact H) | exact H
               have Ny246 := Aside0.mk hy246
               clear hy246
               have H' := Aside0.mk H
               clear H
               obtain ⟨Ao27, co27, eo27⟩ := Kd.R_slice HO_4.out
               subst eo27
               have p240 : 0 ≤ ((ji15) : Int) := of_decide_eq_true (by first | (with_reducible assumption) | assumption)
               have q240 : (ji15) < (x4_1.length : Int) := of_decide_eq_true (by first | (with_reducible assumption) | assumption)
               obtain ⟨ad240, e240, hx240_0⟩ := Kd.at_int (Kd.R_reads' HO_4.out).2.2 (ji15) p240 q240
               cases e240
               replace p240 := eq_true p240
               replace q240 := eq_true q240
               have q28 : (x21_1 : Int) ≤ ((y236.length : Int) : Int) := of_decide_eq_true (by first | (with_reducible assumption) | assumption)
               obtain ⟨i028, hi028, _, hsz28, _⟩ := info_parts info3
               have hroom28 : y236.length ≤ co11 := (Kd.R_reads' HO_5.out).2.1
               have hC28 : Kd.C (Kd.int .i64) _ (some ad239) y236.length y236 := (Kd.R_reads' HO_5.out).2.2
               have q028 : (0 : Int) ≤ (x21_1 : Int) := of_decide_eq_true (by first | (with_reducible assumption) | assumption)
               have hcut28 := cut_from (P := Try.prog) 22 3 .i64 Try.underlying22 hi028 1 hsz28 (some ad239) y236.length co11 x21_1 q028 q28
               have hr28 := Kd.C_drop (m := (x21_1 : Int).toNat) (c := co11) hC28 (by omega) hroom28
               obtain ⟨A28, hA28⟩ : ∃ A1, A1 = (if co11 = (x21_1 : Int).toNat then (some ad239) else ((some ad239) : Option Addr).map (·.add ((x21_1 : Int).toNat * 1))) := ⟨_, rfl⟩
               obtain ⟨c28, hc28⟩ : ∃ c1, c1 = co11 - (x21_1 : Int).toNat := ⟨_, rfl⟩
               have hy28 : y241.length = y236.length - (x21_1 : Int).toNat := (by rw [Ny241.out, List.length_drop] <;> omega)
               rw [show (y236).drop (x21_1 : Int).toNat = y241 from Ny241.out.symm] at hr28
               replace hr28 : Kd.C (Kd.int .i64) _ A28 y241.length y241 := (by rw [hA28]; exact hr28)
               rw [← hy28, ← hA28, ← hc28] at hcut28
               have HR244 := Aside0.mk hr28
               have HC244 := Aside0.mk (show y241.length ≤ c28 from by rw [hy28, hc28]; exact Nat.sub_le_sub_right hroom28 _)
               clear hr28 hC28 hroom28 hi028 hsz28 hc28
               have KY28 := Aside0.mk hy28
               have KA28 := Aside0.mk hA28
               clear hy28 hA28
               have KL28 := Aside0.mk (show (x21_1 : Int).toNat ≤ y236.length from by omega)
               replace q28 := eq_true q28
               go_wp2_with (first | (go_at_call 103; (with_reducible refine (slices_Contains_int_int.calls k2 _ _ y241 x8_2 false _ ?side1 ?side2 A22.out).mono ?_); (case side1 => repeat (first | exact (by repeat (first | (with_reducible exact HR244.out) | (with_reducible refine Kd.C_alloc ?_ _) | (with_reducible refine Kd.C_drewN ?_ _) | (with_reducible refine Kd.C_drew ?_) | exact HR244.out)) | (with_reducible refine Kd.C_alloc ?_ _) | (with_reducible refine Kd.C_drewN ?_ _) | (with_reducible refine Kd.C_drew ?_))); (case side2 => exact HC244.out); rintro e w' ⟨rfl, ⟨nd, rfl⟩⟩; (try (rw [drewN_self wr]; generalize hq_ : World.drewN wr _ = wr; have n0_ : Aside0 (Kd.R (Kd.int .i64) 3 wr w.heap.size (fun k_ => some k_ ≠ (.slice (some ad240) x4_1.length co27 : Value).ownBlock) (.slice (some ad239) y236.length co11) y236) := ⟨by rw [← hq_]; exact (by (with_reducible repeat (first | apply Kd.R_alloc | apply Kd.R_drewN | apply Kd.R_drew)); exact HO_19.out)⟩; have n1_ : Aside0 (Kd.R (Kd.int .i64) 3 wr w.heap.size (fun k_ => some k_ ≠ (.slice (some ad239) y236.length co11 : Value).ownBlock ∧ some k_ ≠ (.slice (some ad239) y236.length co11 : Value).ownBlock) (.slice (some ad240) x4_1.length co27) x4_1) := ⟨by rw [← hq_]; exact (by (with_reducible repeat (first | apply Kd.R_alloc | apply Kd.R_drewN | apply Kd.R_drew)); exact Kd.R_mono HO_4.out (fun _ hk => ⟨hk.2, hk.1⟩))⟩; have n2_ : Aside0 (Kd.R (Kd.int .i64) 3 wr w.heap.size (fun k_ => some k_ ≠ (.slice (some ad240) x4_1.length co27 : Value).ownBlock) (.slice (some ad239) y236.length co11) y236) := ⟨by rw [← hq_]; exact (by (with_reducible repeat (first | apply Kd.R_alloc | apply Kd.R_drewN | apply Kd.R_drew)); exact HO_5.out)⟩; have n3_ : Aside0 (Below w.heap.size w wr) := ⟨by rw [← hq_]; exact (by repeat (first | (with_reducible first | exact HB.out | apply below_alloc | apply pw_below_drewN | apply below_drew1) | exact HB.out))⟩; have n4_ : Aside0 (Kd.C (Kd.int .i64) wr A28 y241.length y241) := ⟨by rw [← hq_]; exact (by repeat (first | (with_reducible exact HR244.out) | (with_reducible refine Kd.C_alloc ?_ _) | (with_reducible refine Kd.C_drewN ?_ _) | (with_reducible refine Kd.C_drew ?_) | exact HR244.out))⟩; clear HO_19 HO_4 HO_5 HB HR244 hq_; have HO_19 := n0_; have HO_4 := n1_; have HO_5 := n2_; have HB := n3_; have HR244 := n4_; clear n0_ n1_ n2_ n3_ n4_)); have p26 : 0 ≤ ((ji15) : Int) := of_decide_eq_true (by first | (with_reducible assumption) | assumption); have q26 : ((ji15) : Int) < ((x4_1.length : Int) : Int) := of_decide_eq_true (by first | (with_reducible assumption) | assumption); obtain ⟨go26, co26, eo26, gb26, gl26, cl26, HG26⟩ := Kd.R_form HO_4.out (by omega); (first | cases eo26 | (injection eo26 with ea_ en_ ec_; (first | subst ea_ | (injection ea_ with ea_; subst ea_)); subst ec_; clear en_)); have GB26 := Aside0.mk gb26; have GG26 := Aside0.mk HG26; clear gb26 gl26 HG26; (first | simp only [add_plain] at hx240_0 | skip); obtain ⟨hx26_0, hf26_0⟩ := Kd.R_celln 0 HO_4.out ((ji15) : Int) p26 q26; replace p26 := eq_true p26; replace q26 := eq_true q26; obtain ⟨hy29_, hz29_⟩ := Kd.R_celln 0 HO_4.out ((ji15) : Int) (of_decide_eq_true (by first | (with_reducible assumption) | assumption)) (of_decide_eq_true (by first | (with_reducible assumption) | assumption)); have HP29 := Kd.R_putg HO_4.out ((ji15) : Int) (rd y236 x21_1)) | ((with_reducible refine gate_store (t := 3) (p := 46) rfl ?_); refine store_event (t := 3) (p := 46) (v := ?vo_w30) (w1 := (wr.setCell ⟨go26, ((ji15) : Int).toNat, none⟩ (.int .i64 (rd y236 x21_1)))) ?hg ?ho ?hn ?hr ?_; (case ho => rfl); (case hg => rfl); (case hn => rfl); (case hr => first | (go_simp; done) | (go_simp; rfl)); intro w30 hw; have hg : wr.grownBy w30 (some go26) := (by rw [hw]; exact HP29.2); have hp_ : Kd.R (Kd.int .i64) 3 w30 w.heap.size (fun k_ => some k_ ≠ (.slice (some ad239) y236.length co11 : Value).ownBlock ∧ some k_ ≠ (.slice (some ad239) y236.length co11 : Value).ownBlock) (.slice (some ⟨go26, 0, none⟩) x4_1.length co27) y246 := (by rw [hw, Ny246.out]; exact HP29.1); clear HP29; have n0_ := Aside0.mk (hp_); have n1_ := Aside0.mk (Kd.R_after (v := (.slice (some ⟨go26, 0, none⟩) x4_1.length co27)) (v1 := (.slice (some ⟨go26, 0, none⟩) x4_1.length co27)) (ok := (fun _ => True)) (by (with_reducible repeat (first | apply Kd.R_alloc | apply Kd.R_drewN | apply Kd.R_drew)); exact Kd.R_mono HO_5.out (fun _ hk => ⟨trivial, hk⟩)) hg (.inl rfl)); have n2_ := Aside0.mk (Kd.R_after (v := (.slice (some ⟨go26, 0, none⟩) x4_1.length co27)) (v1 := (.slice (some ⟨go26, 0, none⟩) x4_1.length co27)) (ok := (fun _ => True)) (by (with_reducible repeat (first | apply Kd.R_alloc | apply Kd.R_drewN | apply Kd.R_drew)); exact Kd.R_mono HO_19.out (fun _ hk => ⟨trivial, hk⟩)) hg (.inl rfl)); have n3_ := Aside0.mk ((by rw [hw]; exact below_set (HB.out) GB26.out : Below w.heap.size w w30)); have n4_ := Aside0.mk ((show Kd.C (Kd.int .i64) w30 A28 y241.length y241 from by rw [Ny241.out, KA28.out]; exact Kd.C_drop (m := (x21_1 : Int).toNat) (c := co11) ((Kd.R_reads' (Kd.R_after (v := (.slice (some ⟨go26, 0, none⟩) x4_1.length co27)) (v1 := (.slice (some ⟨go26, 0, none⟩) x4_1.length co27)) (ok := (fun _ => True)) (by (with_reducible repeat (first | apply Kd.R_alloc | apply Kd.R_drewN | apply Kd.R_drew)); exact Kd.R_mono HO_5.out (fun _ hk => ⟨trivial, hk⟩)) hg (.inl rfl))).2.2) KL28.out ((Kd.R_reads' (Kd.R_after (v := (.slice (some ⟨go26, 0, none⟩) x4_1.length co27)) (v1 := (.slice (some ⟨go26, 0, none⟩) x4_1.length co27)) (ok := (fun _ => True)) (by (with_reducible repeat (first | apply Kd.R_alloc | apply Kd.R_drewN | apply Kd.R_drew)); exact Kd.R_mono HO_5.out (fun _ hk => ⟨trivial, hk⟩)) hg (.inl rfl))).2.1))); clear HO_4; clear HO_5; clear HO_19; clear HB; clear HR244; have HO_4 := n0_; have HO_5 := n1_; have HO_19 := n2_; have HB := n3_; have HR244 := n4_; clear n0_ n1_ n2_ n3_ n4_; clear hg hw hp_))
               go_roundg k2
               case measure => have := HK1.out; have := HK2.out; omega
               case rel => exact ⟨(y246), (wrap64 (x21_1 + 1)), (by first | rfl | (simp; done) | (simp [*]; done)), H', ⟨by have := HK1.out; have := HK2.out; omega⟩, ⟨by (with_reducible repeat (first | apply Kd.R_alloc | apply Kd.R_drewN | apply Kd.R_drew)); exact HO_4.out⟩, ⟨by (with_reducible repeat (first | apply Kd.R_alloc | apply Kd.R_drewN | apply Kd.R_drew)); exact Kd.R_mono HO_5.out (fun _ hk => hk.2)⟩, ⟨by (with_reducible repeat (first | apply Kd.R_alloc | apply Kd.R_drewN | apply Kd.R_drew)); exact Kd.R_mono HO_19.out (fun _ hk => hk.2)⟩, ⟨by repeat (first | (with_reducible first | exact HB.out | apply below_alloc | apply pw_below_drewN | apply below_drew1) | exact HB.out)⟩⟩
             ·rw [if_neg c21] at H
              exact absurd H (by simp)
            ·rw [if_neg c20] at H
             exact absurd H (by simp)
          ·rw [if_neg c17] at H
           exact absurd H (by simp)
         ·rw [if_neg c16] at H
          exact absurd H (by simp)
      ·rw [if_neg c14] at H
       exact absurd H (by simp)
     ·rw [if_neg c13] at H
      exact absurd H (by simp)
    ·rw [if_neg c12] at H
     have c12b0 : decide (x21_1 < (y236.length : Int)) = false := decide_eq_false c12
     clear c12
     obtain rfl := Option.some.inj H
     go_wp2
     go_ret
     exact ⟨_, by first | rfl | (simp [errW_none, errW_some] <;> rfl) | (simp [*, errW_none, errW_some] <;> rfl), by (with_reducible repeat (first | apply Kd.R_alloc | apply Kd.R_drewN | apply Kd.R_drew)); exact Kd.R_mono HO_4.out (fun _ hk => trivial), by repeat (first | (with_reducible first | exact HB.out | apply below_alloc | apply pw_below_drewN | apply below_drew1) | exact HB.out)⟩
 ·rw [if_neg c4] at H
  exact absurd H (by simp)

/-! ### impl_allTrees: function 93, all lists by impl.all (124) and a closure (125) that collects (proved by hand) -/
section
/-- What the closure collects, and the variable that it lies in. -/
structure impl_allTrees.AT (w W : World) (B g0 c : Nat) (vo : Value) (rows : List (List Int)) : Prop where
  bel : Below w.heap.size w W
  box : W.heap[B]? = some (.cells #[vo] 38 (0, 0))
  out : Kd.S (Kd.slice 3 (Kd.int .i64)) 22 W w.heap.size (fun k => k = g0 ∨ c ≤ k) vo rows
  hB : w.heap.size ≤ B
  hBc : B < c
  hBg : B ≠ g0
  hgc : g0 < c
  cW : c ≤ W.heap.size
theorem impl_allTrees.AT.below {w W W' : World} {B g0 c : Nat} {vo : Value} {rows : List (List Int)} (h : impl_allTrees.AT w W B g0 c vo rows) (hb : Below W.heap.size W W') : impl_allTrees.AT w W' B g0 c vo rows :=
  ⟨h.bel.trans (hb.mono h.bel.size), blk_below h.box hb, Kd.S_below h.out hb, h.hB, h.hBc, h.hBg, h.hgc, Nat.le_trans h.cW hb.size⟩
set_option maxHeartbeats 8000000 in
set_option maxRecDepth 100000 in
theorem impl_allTrees.one (k : Nat) (A0 : Option Addr) (c0 : Nat) (l0 row : List Int) (w W : World) (B g0 c : Nat) (vo : Value) (rows : List (List Int)) (hT : impl_allTrees.AT w W B g0 c vo rows) (hr0 : Kd.C (Kd.int .i64) W A0 l0.length l0) (hc0 : l0.length ≤ c0) (hn : rows.length ≤ 100000) (h : impl_treeOfPrufer.f k l0 = some row) :
    Calls Try.prog 125 #[.slice A0 l0.length c0, .pointer (some ⟨B, 0, none⟩)] W fun e W' => e = .returned (.tuple #[]) ∧ (∃ vo', impl_allTrees.AT w W' B g0 c vo' (rows ++ [row])) ∧ Kept W W' (fun k => k = B ∨ k = g0 ∨ c ≤ k) := by
  obtain ⟨Ao, co, rfl⟩ := Kd.S_slice hT.out
  have HT := Aside0.mk (hT.below (below_drew (Below.refl _ W)))
  have HR := Aside0.mk (Kd.C_drew hr0)
  have HC := Aside0.mk hc0
  have HF := Aside0.mk h
  have HK := Aside0.mk (show Kept W W.drew (fun k => k = B ∨ k = g0 ∨ c ≤ k) from (Kept.refl W _).drew)
  clear hT hr0 hc0 h
  go_enter Try.func125, Try.ntmps125
  go_upto_region 0 with (fail)
  refine start_ (n := 6) (S := fun w' => w'.cell? ⟨B, 0, none⟩ = some (.slice Ao rows.length co)) (ds := [5]) #[false, false, false, false, false, false] (by kernel_rfl) rfl rfl ((blk_cell HT.out.box 0).trans rfl) (fun hHeld => ?_)
  generalize W.drew = w1 at HT HR HK hHeld ⊢
  refine take_ (i := 0) (N := some 3) (v := ?_) (a' := ?_) #[true, false, false, false, false, false] rfl rfl (by kernel_rfl) (fun _ _ _ h => h) (Or.inl ⟨by rfl, ?_⟩) hHeld ?_ ?_
  rotate_left
  · rintro w' s0
    go_simp
    with_reducible rfl
  rotate_left
  · simp only [Act.put, List.setIfInBounds_toArray, List.set_cons_zero, List.set_cons_succ, i64_w, i32_w]
    rfl
  refine pure_ (i := 1) (N := some 4) (v := ?_) (a' := ?_) #[true, true, false, false, false, false] rfl rfl (by kernel_rfl) (fun _ _ _ h => h) (Or.inl ⟨by rfl, ?_⟩) ?_ ?_
  rotate_left
  · intro w'
    go_simp
    with_reducible rfl
  rotate_left
  · simp only [Act.put, List.setIfInBounds_toArray, List.set_cons_zero, List.set_cons_succ, i64_w, i32_w]
    rfl
  refine one_ (i := 2) (N := some 5) #[true, true, true, false, false, false] rfl rfl (by kernel_rfl) (by decide) (fun K hK => ?_)
  refine goes_ Try.func81 (by kernel_rfl) rfl #[.slice A0 l0.length c0] (by rfl) rfl rfl (by (try simp only [List.map_toArray, List.map_cons, List.map_nil]); first | done | rfl) ?_
  refine (impl_treeOfPrufer.calls k A0 c0 l0 row _ HR.out HC.out HF.out).mono ?_
  rintro e w2 ⟨v5, rfl, hR, hb⟩
  refine ⟨_, rfl, ?_⟩
  obtain ⟨A5, c5, rfl⟩ := Kd.R_slice hR
  have HT2 := Aside0.mk (And.intro HT.out (And.intro hR hb))
  have HK2 := Aside0.mk (HK.out.below hb)
  refine hK.out _ _ ((blk_cell (HT.out.below hb).box 0).trans rfl) (fun hHeld => ?_)
  clear hK K HT HK hR hb HR
  refine norm_ (a' := ?_) ?_ ?_
  rotate_left
  · show Act.put _ (some 5) _ = _
    simp only [Act.put, List.setIfInBounds_toArray, List.set_cons_zero, List.set_cons_succ, i64_w, i32_w]
    rfl
  refine one_ (i := 3) (N := some 6) #[true, true, true, true, false, false] rfl rfl (by kernel_rfl) (by decide) (fun K hK => ?_)
  go_simp
  have hT2 := HT2.out.1.below HT2.out.2.2
  have hbx := hT2.box
  have hown : ∀ k_, (Value.slice Ao rows.length co).ownBlock = some k_ → k_ = g0 ∨ c ≤ k_ := (Kd.S_R hT2.out).1
  have hneB : some B ≠ (Value.slice Ao rows.length co).ownBlock := fun e_ => by
    have h1 := hown B e_.symm
    have h2 := hT2.hBg
    have h3 := hT2.hBc
    omega
  have HX := Aside0.mk (And.intro hT2 (And.intro hbx (And.intro hown hneB)))
  refine hK.out _ _ ((blk_cell (blk_alloc hbx _) 0).trans rfl) (fun hHeld => ?_)
  clear hK K hT2 hbx hown hneB
  refine one_ (i := 4) (N := some 7) #[true, true, true, true, true, false] rfl rfl (by kernel_rfl) (by decide) (fun K hK => ?_)
  refine Kd.S_append_step (Kd.slice 3 (Kd.int .i64)) (w0 := w) w.heap.size rfl (.tmp 3) (.tmp 6) 38 22 (.slice none 0 0) 24 rfl Try.underlying38 info22 rfl (by decide) (by omega) (.slice Ao rows.length co) rows row [.slice A5 row.length c5] (fun k_ => k_ = g0 ∨ c ≤ k_) (fun k_ => some k_ = (.slice A5 row.length c5 : Value).ownBlock) rfl rfl ?aP ?aK ?aF ?aO ?aB ?aS ?aL ?_
  case aP => exact Kd.M_row (Kd.R_tight rfl (Kd.R_lower HT2.out.2.1 HT2.out.1.bel.size))
  case aK => exact fun k_ hk => have h1 := Kd.R_base HT2.out.2.1 k_ hk.symm; ⟨.inr (Nat.le_trans HT2.out.1.cW h1), fun e_ => Nat.not_le.2 (Kd.S_lt HT2.out.1.out k_ e_.symm) h1⟩
  case aF => exact fun k_ hk => .inr (Nat.le_trans HX.out.1.cW hk)
  case aO => exact Kd.S_below (Kd.S_mono (Kd.S_bound HT2.out.1.out) (fun k_ hk => ⟨hk.1, fun e_ => Nat.not_le.2 hk.2.2.1 (Kd.R_base HT2.out.2.1 k_ e_.symm)⟩)) HT2.out.2.2
  case aB => exact HX.out.1.bel
  case aS => exact HX.out.1.bel.size
  case aL => omega
  intro v7 w3 ho hb3 hg hat
  obtain ⟨A7, c7, rfl⟩ := Kd.S_slice ho
  rw [show (rows ++ [row]).length = rows.length + 1 by simp] at ho
  have hbx3 : w3.heap[B]? = some (.cells #[.slice Ao rows.length co] 38 (0, 0)) := (hg.block B (blk_lt HX.out.2.1) HX.out.2.2.2).trans HX.out.2.1
  have HY := Aside0.mk (And.intro ho (And.intro hb3 (And.intro hg hbx3)))
  refine hK.out _ _ ((blk_cell hbx3 0).trans rfl) (fun hHeld => ?_)
  clear hK K ho hb3 hg hat
  have hbf := blk_frozen hbx3 0
  refine norm_ (a' := ?_) ?_ ?_
  rotate_left
  · show Act.put _ (some 7) _ = _
    simp only [Act.put, List.setIfInBounds_toArray, List.set_cons_zero, List.set_cons_succ, i64_w, i32_w]
    rfl
  refine last_ (i := 5) (N := none) #[true, true, true, true, true, true] rfl rfl (by kernel_rfl) (by decide) (fun K hK => ?_)
  go_simp
  refine hK.out _ _ ?_
  clear hK K
  refine done_ (by kernel_rfl) ?_
  go_end0
  have hX := HX.out.1
  obtain ⟨ho, hb3, hg, hbx3⟩ := HY.out
  refine ⟨rfl, ⟨.slice A7 (rows.length + 1) c7, below_set hb3 hX.hB, Boxed.set _ hbx3, Kd.S_far (p := ⟨B, 0, none⟩) ho (fun k_ hk => ?_) _, hX.hB, hX.hBc, hX.hBg, hX.hgc, ?_⟩, ?_⟩
  · have h2 := hX.hBg
    have h3 := hX.hBc
    show k_ ≠ B
    omega
  · have := hg.size
    have := hX.cW
    simp [World.setCell]
    omega
  · exact ((HK2.out.of_grown hg (fun k_ e_ => .inl (.inr (HX.out.2.2.1 k_ e_)))).setCell (p := ⟨B, 0, none⟩) (.inl (.inl rfl)) _)
end
section
/-- The next list behind one, from place i - 1 down. -/
def impl_allTrees.nxt (low high : List Int) : Nat → List Int → Option (List Int)
  | 0, _ => none
  | i + 1, l => if rd l (i : Int) = rd high (i : Int) then impl_allTrees.nxt low high i (l.set i (rd low (i : Int))) else some (l.set i (wrap64 (rd l (i : Int) + 1)))
/-- All that is collected from one list on. -/
def impl_allTrees.run (k : Nat) (low high : List Int) : Nat → List Int → Option (List (List Int))
  | 0, _ => none
  | t + 1, cur => (impl_treeOfPrufer.f k cur).bind fun row => match impl_allTrees.nxt low high cur.length cur with
    | none => some [row]
    | some c => (impl_allTrees.run k low high t c).bind fun rest => some (row :: rest)
theorem impl_allTrees.mono_run (k : Nat) (low high : List Int) : ∀ (t : Nat) (cur : List Int), LeO (impl_allTrees.run k low high t cur) (impl_allTrees.run (k + 1) low high t cur)
  | 0, _ => LeO.refl _
  | t + 1, cur => LeO.bind (impl_treeOfPrufer.mono cur k) (fun row => by
    cases impl_allTrees.nxt low high cur.length cur with
    | none => exact LeO.refl _
    | some c => exact LeO.bind (impl_allTrees.mono_run k low high t c) (fun _ => LeO.refl _))
theorem impl_allTrees.run_length (k : Nat) (low high : List Int) : ∀ (t : Nat) (cur : List Int) (r : List (List Int)), impl_allTrees.run k low high t cur = some r → r.length ≤ t
  | 0, _, _, h => by cases h
  | t + 1, cur, r, h => by
    obtain ⟨row, _, h2⟩ := Option.bind_eq_some_iff.mp h
    split at h2
    · obtain rfl := Option.some.inj h2
      simp
    · obtain ⟨rest, h3, h4⟩ := Option.bind_eq_some_iff.mp h2
      obtain rfl := Option.some.inj h4
      have := impl_allTrees.run_length k low high t _ rest h3
      simp
      omega
theorem impl_allTrees.nxt_length (low high : List Int) : ∀ (i : Nat) (l c : List Int), impl_allTrees.nxt low high i l = some c → c.length = l.length
  | 0, _, _, h => by cases h
  | i + 1, l, c, h => by
    rw [impl_allTrees.nxt] at h
    split at h
    · have := impl_allTrees.nxt_length low high i _ c h
      rw [this, List.length_set]
    · obtain rfl := Option.some.inj h
      rw [List.length_set]
structure impl_allTrees.AL (w W : World) (B g0 a b c : Nat) (vo : Value) (rows : List (List Int)) (vl : Value) (low : List Int) (vh : Value) (high : List Int) (vs : Value) (cur : List Int) : Prop where
  at_ : impl_allTrees.AT w W B g0 c vo rows
  lo : Kd.R (Kd.int .i64) 3 W w.heap.size (fun k => a ≤ k ∧ k < b) vl low
  hi : Kd.R (Kd.int .i64) 3 W w.heap.size (fun k => a ≤ k ∧ k < b) vh high
  ls : Kd.R (Kd.int .i64) 3 W w.heap.size (fun k => b ≤ k ∧ k < c) vs cur
  hBa : B < a
  hga : g0 < a
  hab : a ≤ b
  hbc : b ≤ c
theorem impl_allTrees.AL.kept {w W W' : World} {B g0 a b c : Nat} {vo vo' vl vh vs : Value} {rows rows' : List (List Int)} {low high cur : List Int} (h : impl_allTrees.AL w W B g0 a b c vo rows vl low vh high vs cur) (hT : impl_allTrees.AT w W' B g0 c vo' rows') (hk : Kept W W' (fun k => k = B ∨ k = g0 ∨ c ≤ k)) : impl_allTrees.AL w W' B g0 a b c vo' rows' vl low vh high vs cur := by
  have h1 := h.hBa
  have h2 := h.hga
  have h3 := h.hab
  have h4 := h.hbc
  exact ⟨hT, Kd.R_kept h.lo hk (fun k hk => by omega), Kd.R_kept h.hi hk (fun k hk => by omega), Kd.R_kept h.ls hk (fun k hk => by omega), h1, h2, h3, h4⟩
theorem impl_allTrees.AL.below {w W W' : World} {B g0 a b c : Nat} {vo vl vh vs : Value} {rows : List (List Int)} {low high cur : List Int} (h : impl_allTrees.AL w W B g0 a b c vo rows vl low vh high vs cur) (hb : Below W.heap.size W W') : impl_allTrees.AL w W' B g0 a b c vo rows vl low vh high vs cur :=
  ⟨h.at_.below hb, Kd.R_below h.lo hb, Kd.R_below h.hi hb, Kd.R_below h.ls hb, h.hBa, h.hga, h.hab, h.hbc⟩
/-- A number of the list in hand is set. -/
theorem impl_allTrees.AL.set {w W : World} {B g0 a b c g n cap : Nat} {vo vl vh : Value} {rows : List (List Int)} {low high cur : List Int} (h : impl_allTrees.AL w W B g0 a b c vo rows vl low vh high (.slice (some ⟨g, 0, none⟩) n cap) cur) (i : Nat) (x : Int) : impl_allTrees.AL w (W.setCell ⟨g, i, none⟩ (.int .i64 x)) B g0 a b c vo rows vl low vh high (.slice (some ⟨g, 0, none⟩) n cap) (cur.set i x) := by
  have h1 := h.hBa
  have h2 := h.hga
  have h3 := h.hab
  have h4 := h.hbc
  have hg : b ≤ g ∧ g < c := h.ls.1 g rfl
  have hp := Kd.R_putg h.ls (i : Int) x
  rw [Int.toNat_natCast] at hp
  have ht := h.at_
  refine ⟨⟨below_set ht.bel (Kd.R_base h.ls g rfl), ?_, Kd.S_far (p := ⟨g, i, none⟩) ht.out (fun k hk => ?_) _, ht.hB, ht.hBc, ht.hBg, ht.hgc, ?_⟩, Kd.R_far (p := ⟨g, i, none⟩) h.lo (fun k hk => ?_) _, Kd.R_far (p := ⟨g, i, none⟩) h.hi (fun k hk => ?_) _, hp.1, h1, h2, h3, h4⟩
  · exact (Below.heap_setCell _ _ _ B (show B ≠ g by omega)).trans ht.box
  · show k ≠ g
    omega
  · have := ht.cW
    simp [World.setCell]
    omega
  · show k ≠ g
    omega
  · show k ≠ g
    omega
set_option maxHeartbeats 16000000 in
set_option maxRecDepth 100000 in
theorem impl_allTrees.all (k : Nat) (w W : World) (B g0 a : Nat) (vo : Value) (Al : Option Addr) (cl : Nat) (low : List Int) (Ah : Option Addr) (ch : Nat) (high : List Int) (total : List (List Int)) (t : Nat) (hrun : impl_allTrees.run k low high t low = some total) (hbel : Below w.heap.size w W) (hbox : W.heap[B]? = some (.cells #[vo] 38 (0, 0)))
    (hout : Kd.S (Kd.slice 3 (Kd.int .i64)) 22 W w.heap.size (fun k => k = g0) vo []) (hlo : Kd.R (Kd.int .i64) 3 W w.heap.size (fun k => a ≤ k) (.slice Al low.length cl) low) (hhi : Kd.R (Kd.int .i64) 3 W w.heap.size (fun k => a ≤ k) (.slice Ah high.length ch) high) (hlen : high.length = low.length) (hB : w.heap.size ≤ B) (hBa : B < a) (hga : g0 < a) (hBg : B ≠ g0) (haW : a ≤ W.heap.size) (ht : t ≤ 10000) (hll : low.length ≤ 1000) :
    Calls Try.prog 124 #[.slice Al low.length cl, .slice Ah high.length ch, .func (.func 125) #[] #[.pointer (some ⟨B, 0, none⟩)]] W fun e W' => e = .returned (.tuple #[]) ∧ ∃ vo' c, impl_allTrees.AT w W' B g0 c vo' total := by
  have hclone : slices_Clone_int_int.f low = some low := by
    unfold slices_Clone_int_int.f
    simp only [Option.bind_some]
    rw [if_pos (by simp; omega)]
    simp
  have HCL := Aside0.mk hclone
  have HS := Aside0.mk (And.intro hbel (And.intro hbox (And.intro hout (And.intro hlo hhi))))
  have HRUN := Aside0.mk hrun
  clear hclone hbel hbox hout hlo hhi hrun
  go_enter Try.func124, Try.ntmps124
  go_wp2_with (first
    | (go_at_call 102; refine (slices_Clone_int_int.calls Al cl low low _ (Kd.R_reads' HS.out.2.2.2.1).2.2 (Kd.R_reads' HS.out.2.2.2.1).2.1 HCL.out).mono ?_; rintro e W1 ⟨v9, rfl, hR, hb⟩; obtain ⟨A9, c9, rfl⟩ := Kd.R_slice hR; have T1 : Aside0 (impl_allTrees.AL w W1 B g0 a W.heap.size W1.heap.size vo [] (.slice Al low.length cl) low (.slice Ah high.length ch) high (.slice A9 low.length c9) low) := ⟨⟨HS.out.1.trans (hb.mono HS.out.1.size), blk_below HS.out.2.1 hb, Kd.S_below (Kd.S_mono HS.out.2.2.1 (fun _ hk => .inl hk)) hb, hB, by have := hb.size; omega, hBg, by have := hb.size; omega, Nat.le_refl _⟩, Kd.R_below (Kd.R_mono (Kd.R_bound HS.out.2.2.2.1) (fun _ hk => ⟨hk.1, hk.2.2.1⟩)) hb, Kd.R_below (Kd.R_mono (Kd.R_bound HS.out.2.2.2.2) (fun _ hk => ⟨hk.1, hk.2.2.1⟩)) hb, Kd.R_lower (Kd.R_mono (Kd.R_bound hR) (fun _ hk => ⟨hk.2.1, hk.2.2.1⟩)) HS.out.1.size, hBa, hga, haW, hb.size⟩; clear hR hb HS))
  obtain ⟨b, hb⟩ : ∃ b, b = W.heap.size := ⟨_, rfl⟩
  obtain ⟨c, hc⟩ : ∃ c, c = W1.heap.size := ⟨_, rfl⟩
  rw [← hb, ← hc] at T1
  clear hb hc haW
  go_loopg [] t (fun kq wr => ∃ (cur : List Int) (vo1 : Value) (rows rest : List (List Int)), Aside0 (cur.length = low.length) ∧ Aside0 (impl_allTrees.run k low high kq cur = some rest ∧ total = rows ++ rest ∧ rows.length + kq ≤ t) ∧ Aside0 (impl_allTrees.AL w wr B g0 a b c vo1 rows (.slice Al low.length cl) low (.slice Ah high.length ch) high (.slice A9 low.length c9) cur))
  case atStart => exact ⟨low, vo, [], total, ⟨rfl⟩, ⟨HRUN.out, rfl, by simp⟩, T1⟩
  case round =>
    clear T1 HRUN
    obtain ⟨cur, vo1, rows, rest, HLN, HR, HL⟩ := hrel
    cases gk with
    | zero => exact absurd HR.out.1 (by simp [impl_allTrees.run])
    | succ t1 =>
      obtain ⟨hr1, hr2, hr3⟩ := HR.out
      obtain ⟨row, hf, hM⟩ := Option.bind_eq_some_iff.mp hr1
      have cO := impl_allTrees.one k A9 c9 cur row w wr B g0 c vo1 rows HL.out.at_ (HLN.out ▸ (Kd.R_reads' HL.out.ls).2.2) (HLN.out ▸ (Kd.R_reads' HL.out.ls).2.1) (by omega) hf
      rw [HLN.out] at cO
      have HO := Aside0.mk cO
      have HM := Aside0.mk hM
      have H2 := Aside0.mk hr2
      have H3 := Aside0.mk hr3
      clear cO hM hr1 hr2 hr3 hf HR
      go_wp2_with (first | (go_at_call 125; refine HO.out.mono ?_; rintro e W2 ⟨rfl, ⟨vo2, hT2⟩, hk2⟩; have T3 := Aside0.mk (HL.out.kept hT2 hk2); clear hT2 hk2 HO HL))
      go_loopw [7] (fun v7 wr2 => ∃ (i : Nat) (cur2 : List Int), v7 = .int .i64 ((i : Int) - 1) ∧ i ≤ low.length ∧ Aside0 (cur2.length = low.length ∧ impl_allTrees.nxt low high i cur2 = impl_allTrees.nxt low high cur.length cur ∧ impl_allTrees.AL w wr2 B g0 a b c vo2 (rows ++ [row]) (.slice Al low.length cl) low (.slice Ah high.length ch) high (.slice A9 low.length c9) cur2)) (fun v7 _ => (intOf v7 + 1).toNat)
      case atStart => exact ⟨low.length, cur, rfl, Nat.le_refl _, ⟨HLN.out, by rw [HLN.out], T3.out⟩⟩
      case round =>
        clear T3
        obtain ⟨i, cur2, rfl, hil, HX⟩ := hrel
        cases i with
        | zero =>
          have hz : ((0 : Nat) : Int) - 1 = -1 := by omega
          rw [hz]
          obtain ⟨x1, x2, x3⟩ := HX.out
          have HE : Aside0 (∃ vo' c, impl_allTrees.AT w wr.drew B g0 c vo' total) := by
            have hm := HM.out
            rw [← x2] at hm
            obtain rfl := Option.some.inj hm
            exact ⟨vo2, c, by rw [H2.out]; exact x3.at_.below (below_drew (Below.refl _ wr))⟩
          clear HX x1 x2 x3
          go_wp2
          go_region
          go_wp2
          refine bodyPost_ret (results_none rfl _ _ _) rfl ?_
          exact ⟨rfl, HE.out⟩
        | succ j =>
          have hz : ((j + 1 : Nat) : Int) - 1 = (j : Int) := by omega
          rw [hz]
          obtain ⟨x1, x2, x3⟩ := HX.out
          obtain ⟨ad, rfl⟩ : ∃ ad, A9 = some ad := by
            obtain ⟨g, cap, hg, _⟩ := Kd.R_form x3.ls (by omega)
            injection hg with h1
            exact ⟨_, h1⟩
          obtain ⟨g, rfl⟩ := Kd.R_head x3.ls
          obtain ⟨a1, e1, q1⟩ := Kd.at_int (Kd.R_reads' x3.ls).2.2 (j : Int) (by omega) (by omega)
          obtain ⟨a2, rfl, q2⟩ := Kd.at_int (Kd.R_reads' x3.hi).2.2 (j : Int) (by omega) (by omega)
          obtain ⟨a3, rfl, q3⟩ := Kd.at_int (Kd.R_reads' x3.lo).2.2 (j : Int) (by omega) (by omega)
          obtain rfl := Option.some.inj e1
          rw [Int.toNat_natCast] at q1 q2 q3
          rw [add_plain] at q1
          obtain ⟨p, hp⟩ : ∃ p, p = rd cur2 (j : Int) := ⟨_, rfl⟩
          obtain ⟨q, hq⟩ : ∃ q, q = rd high (j : Int) := ⟨_, rfl⟩
          obtain ⟨l, hl⟩ : ∃ l, l = rd low (j : Int) := ⟨_, rfl⟩
          rw [← hp] at q1
          rw [← hq] at q2
          rw [← hl] at q3
          rw [impl_allTrees.nxt, ← hp, ← hq, ← hl] at x2
          have hjl : (j : Int) < (low.length : Int) := by omega
          obtain ⟨_, hfz⟩ := Kd.R_celln 0 x3.ls (j : Int) (by omega) (by omega)
          rw [Int.toNat_natCast] at hfz
          have HD := Aside0.mk (x3.below (below_drew (Below.refl _ wr)))
          have HX1 := Aside0.mk x1
          by_cases hpq : p = q
          · subst hpq
            rw [if_pos rfl] at x2
            have HX2 := Aside0.mk x2
            clear HX x1 x2 x3 hp hq
            have HLL := Aside0.mk hl
            clear hl hz
            go_wp2
            go_region
            go_wp2
            go_roundw
            case rel => exact ⟨j, cur2.set j l, rfl, by omega, ⟨by rw [List.length_set]; exact HX1.out, HX2.out, HD.out.set j l⟩⟩
            case measure => first | (simp [intOf]; done) | (simp [intOf]; omega)
          · rw [if_neg hpq] at x2
            have d1 : (p == q) = false := beq_eq_false_iff_ne.mpr hpq
            have HX2 := Aside0.mk x2
            have HPP := Aside0.mk hp
            clear HX x1 x2 x3 hp hq hl hz
            go_wp2
            go_region
            go_wp2
            have hm := HM.out
            rw [← HX2.out] at hm
            obtain ⟨rest', hr5, hr6⟩ := Option.bind_eq_some_iff.mp hm
            obtain rfl := Option.some.inj hr6
            go_roundg t1
            case measure => omega
            case rel => exact ⟨cur2.set j (wrap64 (p + 1)), vo2, rows ++ [row], rest', ⟨by rw [List.length_set]; exact HX1.out⟩, ⟨hr5, by rw [H2.out]; simp, by have := H3.out; simp; omega⟩, ⟨HD.out.set j (wrap64 (p + 1))⟩⟩
end
section
def impl_allTrees.f (k : Nat) (a0 : Int) : Option (List (List Int)) := if 1 ≤ a0 ∧ a0 ≤ 5 then impl_allTrees.run k (List.replicate (a0 - 1).toNat 0) (List.replicate (a0 - 1).toNat a0) 10000 (List.replicate (a0 - 1).toNat 0) else none
theorem impl_allTrees.mono : ∀ a0 k, LeO (impl_allTrees.f k a0) (impl_allTrees.f (k + 1) a0) := fun a0 k => by
  unfold impl_allTrees.f
  split
  · exact impl_allTrees.mono_run k _ _ _ _
  · exact LeO.refl _
set_option maxHeartbeats 8000000 in
set_option maxRecDepth 100000 in
theorem impl_allTrees.calls (k : Nat) (a0 : Int) (r : List (List Int)) (w : World) (h : impl_allTrees.f k a0 = some r) :
    Calls Try.prog 93 #[.int .i64 a0] w fun e w' => ∃ v0_ : Value, e = .returned (v0_) ∧ Kd.S (Kd.slice 3 (Kd.int .i64)) 22 w' w.heap.size (fun _ => True) v0_ r ∧ Below w.heap.size w w' := by
  unfold impl_allTrees.f at h
  split at h
  next ha =>
    obtain ⟨m, hm⟩ : ∃ m : Nat, a0 = (m : Int) + 1 := ⟨(a0 - 1).toNat, by omega⟩
    subst hm
    have e0 : ((m : Int) + 1 - 1).toNat = m := by omega
    rw [e0] at h
    have hm4 : m ≤ 4 := by omega
    have hw1 : wrap64 ((m : Int) + 1 - 1) = (m : Int) := by unfold wrap64; omega
    have HRUN := Aside0.mk h
    clear h ha
    go_enter Try.func93, Try.ntmps93
    have hrep : slices_Repeat_int_int.f [(m : Int) + 1] (m : Int) = some (List.replicate m ((m : Int) + 1)) := by
      rw [slices_Repeat_int_int.f, if_pos (by simp), if_pos (by omega), if_pos (by omega), Int.toNat_natCast]
      rfl
    have HREP := Aside0.mk hrep
    clear hrep
    go_wp2_with (first
      | ((with_reducible refine gate_dst (N := 5) rfl ?_); refine Kd.S_lit (Kd.slice 3 (Kd.int .i64)) (w0 := w) w.heap.size 22 ?hg (N := 5) ?hd (xs := ([] : List (List Int))) (inner := []) (ok := fun k_ => k_ = w.heap.size) (okp := fun k_ => k_ = w.heap.size) ?hr ?hp (fun _ hk => hk) rfl (Below.refl _ _) (Nat.le_refl _) (by simp) ?_; (case hd => rfl); (case hg => rfl); (case hr => first | (go_simp; done) | (go_simp; rfl)); (case hp => exact (Reps.none _ _)); intro v5 w1 ho1 hb1 hg_ hn1; clear hg_; obtain ⟨A5, c5, rfl⟩ := Kd.S_slice ho1; have hlt1 : w.heap.size < w1.heap.size := (by obtain ⟨b9, hb9, _⟩ := hn1; have h1 := (Kd.S_R ho1).1 b9 hb9; have h2 := Kd.S_lt ho1 b9 hb9; omega); have T1 := Aside0.mk (And.intro ho1 hb1); clear ho1 hb1 hn1)
      | ((with_reducible refine gate_dst (N := 8) rfl ?_); refine Kd.R_make (Kd.int .i64) _ 3 rfl (N := 8) rfl 22 _ _ rfl (m : Int) rfl rfl Try.underlying22 (.int .i64 0) 8 info3 rfl (by decide) (by omega) 0 (ok := fun _ => True) (okp := fun _ => True) rfl (fun _ hk => hk) trivial (by omega) (by omega) (Below.refl _ _) (Nat.le_refl _) ?_; intro v8 w2 ho2 hb2 hg_ hn_; clear hg_ hn_; rw [Int.toNat_natCast] at ho2; obtain ⟨A8, c8, rfl⟩ := Kd.R_slice ho2; have T2 : Aside0 (Below w.heap.size w w2 ∧ w2.heap[w1.heap.size]? = some (.cells #[.slice A5 0 c5] 38 (0, 0)) ∧ Kd.S (Kd.slice 3 (Kd.int .i64)) 22 w2 w.heap.size (fun k => k = w.heap.size) (.slice A5 0 c5) [] ∧ Kd.R (Kd.int .i64) 3 w2 w.heap.size (fun k => w1.heap.size + 1 ≤ k) (.slice A8 (List.replicate m (0 : Int)).length c8) (List.replicate m 0) ∧ w1.heap.size + 1 ≤ w2.heap.size) := (by have hba : Below w1.heap.size w1 (w1.alloc (.cells #[.slice A5 0 c5] 38)) := (Below.refl _ w1).alloc (Nat.le_refl _) _; have hsz : (w1.alloc (.cells #[.slice A5 0 c5] 38)).heap.size = w1.heap.size + 1 := (by simp); have hbb := hb2.size; rw [hsz] at hbb ho2; exact ⟨(T1.out.2.trans (hba.mono T1.out.2.size)).trans (hb2.mono (by rw [hsz]; omega)), blk_below (heap_alloc_new w1 _) hb2, Kd.S_below (Kd.S_below T1.out.1 hba) hb2, Kd.R_lower (Kd.R_mono (Kd.R_bound ho2) (fun _ hk => hk.2.1)) (by omega), hbb⟩); clear ho2 hb2 T1)
      | ((with_reducible refine gate_dst (N := 11) rfl ?_); refine Kd.R_lit (Kd.int .i64) _ 3 ?hg (N := 11) ?hd (xs := ([(m : Int) + 1] : List Int)) (inner := [.int .i64 ((m : Int) + 1)]) (ok := fun _ => True) (okp := fun _ => True) ?hr ?hp (fun _ hk => hk) trivial (Below.refl _ _) (Nat.le_refl _) (by simp) ?_; (case hd => rfl); (case hg => rfl); (case hr => first | (go_simp; done) | (go_simp; rfl)); (case hp => exact (Reps.one (show Kd.M (Kd.int .i64) _ _ _ ((m : Int) + 1) [.int .i64 ((m : Int) + 1)] from rfl) (Reps.none _ _))); intro v11 w3 ho3 hb3 hg_ hn_; clear hg_ hn_; obtain ⟨A11, c11, rfl⟩ := Kd.R_slice ho3; have T3 := Aside0.mk (And.intro ho3 hb3); clear ho3 hb3)
      | (go_at_call 118; refine (slices_Repeat_int_int.calls A11 c11 [(m : Int) + 1] (m : Int) (List.replicate m ((m : Int) + 1)) _ (Kd.R_reads' T3.out.1).2.2 (Kd.R_reads' T3.out.1).2.1 HREP.out).mono ?_; rintro e w4 ⟨v14, rfl, hR, hb⟩; obtain ⟨A14, c14, rfl⟩ := Kd.R_slice hR; have T4 := Aside0.mk (And.intro hR hb); clear hR hb)
      | (go_at_call 124; have b23 := T3.out.2; have b34 := T4.out.2; have b24 := b23.trans (b34.mono b23.size); have cA := impl_allTrees.all k w _ w1.heap.size w.heap.size (w1.heap.size + 1) (.slice A5 0 c5) A8 c8 (List.replicate m 0) A14 c14 (List.replicate m ((m : Int) + 1)) r 10000 HRUN.out (T2.out.1.trans (b24.mono T2.out.1.size)) (blk_below T2.out.2.1 b24) (Kd.S_below T2.out.2.2.1 b24) (Kd.R_below T2.out.2.2.2.1 b24) (Kd.R_lower (Kd.R_mono (Kd.R_bound T4.out.1) (fun _ hk => Nat.le_trans T2.out.2.2.2.2 (Nat.le_trans b23.size hk.2.1))) (Nat.le_trans T2.out.1.size b23.size)) (by simp) (by omega) (by omega) (by omega) (by omega) (Nat.le_trans T2.out.2.2.2.2 b24.size) (by omega) (by simp; omega); simp only [List.length_replicate] at cA; refine cA.mono ?_; rintro e w5 ⟨rfl, vo, cc, hT⟩; have T5 := Aside0.mk hT; have hbc := (blk_cell hT.box 0).trans (rfl : _ = some vo); obtain ⟨A5z, c5z, rfl⟩ := Kd.S_slice hT.out; clear b23 b34 b24 cA hT))
    go_ret
    exact ⟨_, rfl, Kd.S_mono T5.out.out (fun _ _ => trivial), T5.out.bel⟩
  next => cases h
end

/-! ### impl_CountByInversions: function 45 -/
def impl_CountByInversions.l0 : Nat → List Int → List (List Int) → Int → Int → Option (List Int × Bool)
 | 0, _, _, _, _ => none
 | k + 1, x4, x23, x24, x25 => if x25 < x24 then (if 0 ≤ x25 then (if x25 < (x23.length : Int) then ((impl_inversions.f k (rd_L1 x23 x25)).bind fun t258 => (if 0 ≤ (t258.length : Int) then (if (t258.length : Int) < (x4.length : Int) then (impl_CountByInversions.l0 k (x4.set ((t258.length : Int) : Int).toNat (wrap64 ((rd x4 (t258.length : Int)) + 1))) x23 x24 (wrap64 (x25 + 1))) else (none)) else (none))) else (none)) else (none)) else (some (x4, true))
def impl_CountByInversions.f (k : Nat) (a0 : Int) : Option (List Int × Bool) := (impl_between.f a0 0 5).bind fun t247 => (if t247 = true then (if a0 = 0 then (some ((([1] : List Int)), true)) else (if 0 ≤ (wrap64 ((wrap64 (Int.tdiv (wrap64 (a0 * (wrap64 (a0 - 1)))) 2)) + 1)) then (if (wrap64 ((wrap64 (Int.tdiv (wrap64 (a0 * (wrap64 (a0 - 1)))) 2)) + 1) : Int).toNat ≤ 35184372088832 then ((impl_allTrees.f k a0).bind fun t254 => (impl_CountByInversions.l0 k (List.replicate (wrap64 ((wrap64 (Int.tdiv (wrap64 (a0 * (wrap64 (a0 - 1)))) 2)) + 1) : Int).toNat 0) t254 (t254.length : Int) 0)) else (none)) else (none))) else (some (([] : List Int), false)))
theorem impl_CountByInversions.mono_l : ∀ k, (∀ y0 y1 y2 y3, LeO (impl_CountByInversions.l0 k y0 y1 y2 y3) (impl_CountByInversions.l0 (k + 1) y0 y1 y2 y3))
 | 0 => fun _ _ _ _ r h => by simp [impl_CountByInversions.l0] at h
 | k + 1 => by
  have ih0 := impl_CountByInversions.mono_l k
  ·intro y0 y1 y2 y3
   unfold impl_CountByInversions.l0
   repeat' first
   | (with_reducible exact ih0 _ _ _ _)
   | (with_reducible exact impl_allTrees.mono _ _)
   | (with_reducible exact impl_inversions.mono _ _)
   | (with_reducible exact LeO.refl _)
   | (with_reducible exact LeO.none _)
   | (with_reducible refine LeO.ite ?_ ?_)
   | (with_reducible refine LeO.bind ?_ (fun _ => ?_))
   | exact LeO.none _
   | refine LeO.ite ?_ ?_
   | refine LeO.bind ?_ (fun _ => ?_)
theorem impl_CountByInversions.mono : ∀ a0 k, LeO (impl_CountByInversions.f k a0) (impl_CountByInversions.f (k + 1) a0) := by
 intro a0 k
 have ih0 := impl_CountByInversions.mono_l k
 unfold impl_CountByInversions.f
 repeat' first
   | (with_reducible exact ih0 _ _ _ _)
   | (with_reducible exact impl_allTrees.mono _ _)
   | (with_reducible exact impl_inversions.mono _ _)
   | (with_reducible exact LeO.refl _)
   | (with_reducible exact LeO.none _)
   | (with_reducible refine LeO.ite ?_ ?_)
   | (with_reducible refine LeO.bind ?_ (fun _ => ?_))
   | exact LeO.none _
   | refine LeO.ite ?_ ?_
   | refine LeO.bind ?_ (fun _ => ?_)
set_option maxHeartbeats 8000000 in
set_option maxRecDepth 100000 in
theorem impl_CountByInversions.calls (k : Nat) (a0 : Int) (r1 : List Int) (r2 : Bool) (w : World) (h : impl_CountByInversions.f k a0 = some (r1, r2)) :
  Calls Try.prog 45 #[.int .i64 a0] w fun e w' => ∃ v0_ : Value, e = .returned (.tuple #[v0_, .bool r2]) ∧ Kd.R (Kd.int .i64) 3 w' w.heap.size (fun _ => True) v0_ r1 ∧ Below w.heap.size w w' := by
 have HB := Aside0.mk (Below.refl w.heap.size w)
 have H : ((impl_between.f a0 0 5).bind fun t247 => (if t247 = true then (if a0 = 0 then (some ((([1] : List Int)), true)) else (if 0 ≤ (wrap64 ((wrap64 (Int.tdiv (wrap64 (a0 * (wrap64 (a0 - 1)))) 2)) + 1)) then (if (wrap64 ((wrap64 (Int.tdiv (wrap64 (a0 * (wrap64 (a0 - 1)))) 2)) + 1) : Int).toNat ≤ 35184372088832 then ((impl_allTrees.f k a0).bind fun t254 => (impl_CountByInversions.l0 k (List.replicate (wrap64 ((wrap64 (Int.tdiv (wrap64 (a0 * (wrap64 (a0 - 1)))) 2)) + 1) : Int).toNat 0) t254 (t254.length : Int) 0)) else (none)) else (none))) else (some (([] : List Int), false)))) = some (r1, r2) := h
 clear h
 replace H := Option.bind_eq_some_iff.mp H
 obtain ⟨t247, A20, H⟩ := H
 replace H : (if t247 = true then (if a0 = 0 then (some ((([1] : List Int)), true)) else (if 0 ≤ (wrap64 ((wrap64 (Int.tdiv (wrap64 (a0 * (wrap64 (a0 - 1)))) 2)) + 1)) then (if (wrap64 ((wrap64 (Int.tdiv (wrap64 (a0 * (wrap64 (a0 - 1)))) 2)) + 1) : Int).toNat ≤ 35184372088832 then ((impl_allTrees.f k a0).bind fun t254 => (impl_CountByInversions.l0 k (List.replicate (wrap64 ((wrap64 (Int.tdiv (wrap64 (a0 * (wrap64 (a0 - 1)))) 2)) + 1) : Int).toNat 0) t254 (t254.length : Int) 0)) else (none)) else (none))) else (some (([] : List Int), false))) = some (r1, r2) := H
 have A2 := Aside0.mk A20
 clear A20
 by_cases c3 : t247 = true
 ·subst c3
  have H1 : (if a0 = 0 then (some ((([1] : List Int)), true)) else (if 0 ≤ (wrap64 ((wrap64 (Int.tdiv (wrap64 (a0 * (wrap64 (a0 - 1)))) 2)) + 1)) then (if (wrap64 ((wrap64 (Int.tdiv (wrap64 (a0 * (wrap64 (a0 - 1)))) 2)) + 1) : Int).toNat ≤ 35184372088832 then ((impl_allTrees.f k a0).bind fun t254 => (impl_CountByInversions.l0 k (List.replicate (wrap64 ((wrap64 (Int.tdiv (wrap64 (a0 * (wrap64 (a0 - 1)))) 2)) + 1) : Int).toNat 0) t254 (t254.length : Int) 0)) else (none)) else (none))) = some (r1, r2) := by rw [if_pos rfl] at H; exact H
  clear H
  have H := H1
  clear H1
  by_cases c4 : a0 = 0
  ·rw [if_pos c4] at H
   have c4b0 : (a0 == 0) = true := beq_iff_eq.mpr c4
   have c4b1 : (a0 != 0) = false := bne_eq_false_iff_eq.mpr c4
   clear c4
   obtain ⟨y248, hy248⟩ : ∃ y_ : List Int, y_ = (([1] : List Int)) := ⟨_, rfl⟩
   replace H : (some (y248, true)) = some (r1, r2) := by first | (rw [hy248]; with_reducible exact H) | (have H2_ := (Option.bind_some _ _).symm.trans H; rw [hy248]; with_reducible exact H2_) | (have H2_ := (Option.bind_some _ _).symm.trans H; with_reducible exact H2_) | with_reducible exact H | (rw [hy248]; exact H) | exact H
   have Ny248 := Aside0.mk hy248
   clear hy248
   simp only [Option.some.injEq, Prod.mk.injEq] at H
   obtain ⟨rfl, rfl⟩ := H
   go_enter Try.func45, Try.ntmps45
   go_wp2_with (first | ((with_reducible refine gate_callee (f := 90) rfl ?_); refine goesL_ (some 9) rfl rfl Try.func90 (by kernel_rfl) rfl #[.int .i64 a0, .int .i64 0, .int .i64 5] rfl (by (try simp only [List.map_toArray, List.map_cons, List.map_nil]); first | done | rfl | (simp only [List.length_drop, List.length_take]; rfl)) ?_; (with_reducible refine (impl_between.calls a0 0 5 true _ A2.out).mono ?_); rintro e w' ⟨rfl, ⟨nd, rfl⟩⟩; refine ⟨_, rfl, ?_⟩) | ((with_reducible refine gate_dst (N := 14) rfl ?_); refine Kd.R_lit (Kd.int .i64) _ 3 ?hg (N := 14) ?hd (xs := ([1] : List Int)) (inner := [.int .i64 1]) (ok := fun _ => True) (okp := fun _ => True) ?hr ?hp (fun _ hk => hk) trivial (Below.refl _ _) (Nat.le_refl _) (by simp) ?_; (case hd => rfl); (case hg => rfl); (case hr => first | (go_simp; done) | (go_simp; rfl)); (case hp => exact (Reps.one (show Kd.M (Kd.int .i64) _ _ _ 1 [.int .i64 1] from rfl) (Reps.none _ _))); intro v249 w5 ho6 hb hg_ hnew_; clear hg_ hnew_; (first | rw [← Ny248.out] at ho6 | (simp only [Int.reduceToNat] at ho6; rw [← Ny248.out] at ho6)); have n0_ := Aside0.mk (Kd.R_lower ho6 (below_size (by repeat (first | (with_reducible first | exact HB.out | apply below_alloc | apply pw_below_drewN | apply below_drew1) | exact HB.out)))); have n1_ := Aside0.mk (below_step (by repeat (first | (with_reducible first | exact HB.out | apply below_alloc | apply pw_below_drewN | apply below_drew1) | exact HB.out)) hb); clear HB; have HO250 := n0_; have HB := n1_; clear n0_ n1_; clear hb ho6))
   go_ret2
   exact ⟨_, by first | rfl | (simp [errW_none, errW_some] <;> rfl) | (simp [*, errW_none, errW_some] <;> rfl), by (with_reducible repeat (first | apply Kd.R_alloc | apply Kd.R_drewN | apply Kd.R_drew)); exact HO250.out, by repeat (first | (with_reducible first | exact HB.out | apply below_alloc | apply pw_below_drewN | apply below_drew1) | exact HB.out)⟩
  ·rw [if_neg c4] at H
   have c4b0 : (a0 == 0) = false := beq_eq_false_iff_ne.mpr c4
   have c4b1 : (a0 != 0) = true := bne_iff_ne.mpr c4
   obtain ⟨ji7, hji7⟩ : ∃ j_ : Int, (wrap64 ((wrap64 (Int.tdiv (wrap64 (a0 * (wrap64 (a0 - 1)))) 2)) + 1)) = j_ := ⟨_, rfl⟩
   replace H : (if 0 ≤ (ji7) then (if (ji7 : Int).toNat ≤ 35184372088832 then ((impl_allTrees.f k a0).bind fun t254 => (impl_CountByInversions.l0 k (List.replicate (ji7 : Int).toNat 0) t254 (t254.length : Int) 0)) else (none)) else (none)) = some (r1, r2) := by first | (rw [hji7] at H; exact H) | (simp only [hji7] at H ⊢; exact H)
   (try rw [hji7] at A2)
   have hji7w : (IntKind.i64.wrap ((wrap64 (Int.tdiv (wrap64 (a0 * (wrap64 (a0 - 1)))) 2)) + 1)) = ji7 := (i64_w _).trans hji7
   by_cases c8 : 0 ≤ (ji7)
   ·rw [if_pos c8] at H
    have c8b0 := eq_true c8
    have c8b1 : decide (0 ≤ (ji7)) = true := decide_eq_true c8
    clear c8
    by_cases c9 : (ji7 : Int).toNat ≤ 35184372088832
    ·rw [if_pos c9] at H
     have c9b0 := eq_true c9
     have c9b1 : decide ((ji7 : Int).toNat ≤ 35184372088832) = true := decide_eq_true c9
     clear c9
     obtain ⟨y251, hy251⟩ : ∃ y_ : List Int, y_ = (List.replicate (ji7 : Int).toNat 0) := ⟨_, rfl⟩
     replace H : ((impl_allTrees.f k a0).bind fun t254 => (impl_CountByInversions.l0 k y251 t254 (t254.length : Int) 0)) = some (r1, r2) := by first | (rw [hy251]; with_reducible exact H) | (have H2_ := (Option.bind_some _ _).symm.trans H; rw [hy251]; with_reducible exact H2_) | (have H2_ := (Option.bind_some _ _).symm.trans H; with_reducible exact H2_) | with_reducible exact H | (rw [hy251]; exact H) | exact H
     have Ny251 := Aside0.mk hy251
     clear hy251
     replace H := Option.bind_eq_some_iff.mp H
     obtain ⟨t254, A100, H⟩ := H
     replace H : (impl_CountByInversions.l0 k y251 t254 (t254.length : Int) 0) = some (r1, r2) := H
     have A10 := Aside0.mk A100
     clear A100
     have H' := Aside0.mk H
     clear H
     go_enter Try.func45, Try.ntmps45
     go_wp2_with (first | ((with_reducible refine gate_callee (f := 90) rfl ?_); refine goesL_ (some 9) rfl rfl Try.func90 (by kernel_rfl) rfl #[.int .i64 a0, .int .i64 0, .int .i64 5] rfl (by (try simp only [List.map_toArray, List.map_cons, List.map_nil]); first | done | rfl | (simp only [List.length_drop, List.length_take]; rfl)) ?_; (with_reducible refine (impl_between.calls a0 0 5 true _ A2.out).mono ?_); rintro e w' ⟨rfl, ⟨nd, rfl⟩⟩; refine ⟨_, rfl, ?_⟩) | ((with_reducible refine gate_dst (N := 21) rfl ?_); refine Kd.R_make (Kd.int .i64) _ 3 rfl (N := 21) rfl 22 _ _ rfl ji7 rfl rfl Try.underlying22 (.int .i64 0) 8 info3 rfl (by decide) (by omega) 0 (ok := fun _ => True) (okp := fun _ => True) rfl (fun _ hk => hk) trivial (of_decide_eq_true (by first | (with_reducible assumption) | assumption)) (Nat.le_trans (Nat.mul_le_mul_right _ (of_decide_eq_true (by first | (with_reducible assumption) | assumption) : ji7.toNat ≤ 35184372088832)) (by omega)) (Below.refl _ _) (Nat.le_refl _) ?_; intro v252 w11 ho12 hb hg_ hnew_; clear hg_ hnew_; (first | rw [← Ny251.out] at ho12 | (simp only [Int.reduceToNat] at ho12; rw [← Ny251.out] at ho12)); have n0_ := Aside0.mk (Kd.R_lower ho12 (below_size (by repeat (first | (with_reducible first | exact HB.out | apply below_alloc | apply pw_below_drewN | apply below_drew1) | exact HB.out)))); have n1_ := Aside0.mk (below_step (by repeat (first | (with_reducible first | exact HB.out | apply below_alloc | apply pw_below_drewN | apply below_drew1) | exact HB.out)) hb); clear HB; have HO253 := n0_; have HB := n1_; clear n0_ n1_; clear hb ho12) | ((with_reducible refine gate_callee (f := 93) rfl ?_); refine goesL_ (some 23) rfl rfl Try.func93 (by kernel_rfl) rfl #[.int .i64 a0] rfl (by (try simp only [List.map_toArray, List.map_cons, List.map_nil]); first | done | rfl | (simp only [List.length_drop, List.length_take]; rfl)) ?_; (with_reducible refine (impl_allTrees.calls k a0 t254 _ A10.out).mono ?_); rintro e w13 ⟨v255, rfl, ho0, hb⟩; refine ⟨_, rfl, ?_⟩; have n0_ := Aside0.mk (Kd.R_below (by (with_reducible repeat (first | apply Kd.R_alloc | apply Kd.R_drewN | apply Kd.R_drew)); exact HO253.out) hb); have n1_ := Aside0.mk (Kd.S_lower (Kd.S_new' ho0 (Kd.R_lt (by (with_reducible repeat (first | apply Kd.R_alloc | apply Kd.R_drewN | apply Kd.R_drew)); exact HO253.out))) (below_size (by repeat (first | (with_reducible first | exact HB.out | apply below_alloc | apply pw_below_drewN | apply below_drew1) | exact HB.out)))); have n2_ := Aside0.mk (below_step (by repeat (first | (with_reducible first | exact HB.out | apply below_alloc | apply pw_below_drewN | apply below_drew1) | exact HB.out)) hb); clear HO253; clear HB; have HO253 := n0_; have HO256 := n1_; have HB := n2_; clear n0_ n1_ n2_; (try clear hb); (try clear hb2); (try clear hk); (try clear hi); (try clear ho0); obtain ⟨Ao14, co14, eo14⟩ := Kd.S_slice HO256.out; subst eo14))
     go_loopg [25] k (fun kq v25 w' => ∃ (x4_1 : List Int) (x25_1 : Int), v25 = .int .i64 x25_1 ∧ Aside0 (impl_CountByInversions.l0 kq x4_1 t254 (t254.length : Int) x25_1 = some (r1, r2)) ∧ Aside0 (kq ≤ k) ∧ Aside0 (Kd.R (Kd.int .i64) 3 w' w.heap.size (fun _ => True) v252 x4_1) ∧ Aside0 (Kd.S (Kd.slice 3 (Kd.int .i64)) 22 w' w.heap.size (fun k_ => some k_ ≠ (v252 : Value).ownBlock) (.slice Ao14 t254.length co14) t254) ∧ Aside0 (Below w.heap.size w w'))
     case atStart => exact ⟨(y251), (0), (by first | rfl | (simp; done) | (simp [*]; done)), H', ⟨Nat.le_refl _⟩, ⟨by (with_reducible repeat (first | apply Kd.R_alloc | apply Kd.R_drewN | apply Kd.R_drew)); exact HO253.out⟩, ⟨by (with_reducible repeat (first | apply Kd.S_alloc | apply Kd.S_drewN | apply Kd.S_drew)); exact Kd.S_mono HO256.out (fun _ hk => hk.2)⟩, ⟨by repeat (first | (with_reducible first | exact HB.out | apply below_alloc | apply pw_below_drewN | apply below_drew1) | exact HB.out)⟩⟩
     case round =>
      clear H'
      try clear p2
      try clear c3
      try clear c4
      try clear c4b0
      try clear c4b1
      try clear p6
      try clear c8
      try clear c8b0
      try clear c8b1
      try clear c9
      try clear c9b0
      try clear c9b1
      obtain ⟨x4_1, x25_1, rfl, HA, HK1, HO_4, HO_23, HB⟩ := hrel
      cases gk with
      | zero => exact absurd HA.out (by simp [impl_CountByInversions.l0])
      | succ k1 =>
       have H := HA.out
       clear HA
       simp only [impl_CountByInversions.l0] at H
       by_cases c15 : x25_1 < (t254.length : Int)
       ·rw [if_pos c15] at H
        have c15b0 : decide (x25_1 < (t254.length : Int)) = true := decide_eq_true c15
        clear c15
        by_cases c16 : 0 ≤ x25_1
        ·rw [if_pos c16] at H
         have c16b0 : decide (0 ≤ x25_1) = true := decide_eq_true c16
         clear c16
         by_cases c17 : x25_1 < (t254.length : Int)
         ·rw [if_pos c17] at H
          have c17b0 : decide (x25_1 < (t254.length : Int)) = true := decide_eq_true c17
          clear c17
          replace H := Option.bind_eq_some_iff.mp H
          obtain ⟨t258, A180, H⟩ := H
          replace H : (if 0 ≤ (t258.length : Int) then (if (t258.length : Int) < (x4_1.length : Int) then (impl_CountByInversions.l0 k1 (x4_1.set ((t258.length : Int) : Int).toNat (wrap64 ((rd x4_1 (t258.length : Int)) + 1))) t254 (t254.length : Int) (wrap64 (x25_1 + 1))) else (none)) else (none)) = some (r1, r2) := H
          have A18 := Aside0.mk A180
          clear A180
          by_cases c19 : 0 ≤ (t258.length : Int)
          ·rw [if_pos c19] at H
           have c19b0 : decide (0 ≤ (t258.length : Int)) = true := decide_eq_true c19
           have c19b1 : decide (0 ≤ t258.length) = true := decide_eq_true (by omega)
           clear c19
           by_cases c20 : (t258.length : Int) < (x4_1.length : Int)
           ·rw [if_pos c20] at H
            have c20b0 : decide ((t258.length : Int) < (x4_1.length : Int)) = true := decide_eq_true c20
            have c20b1 : decide (t258.length < x4_1.length) = true := decide_eq_true (Int.ofNat_lt.mp c20)
            clear c20
            obtain ⟨y262, hy262⟩ : ∃ y_ : List Int, y_ = (x4_1.set ((t258.length : Int) : Int).toNat (wrap64 ((rd x4_1 (t258.length : Int)) + 1))) := ⟨_, rfl⟩
            replace H : (impl_CountByInversions.l0 k1 y262 t254 (t254.length : Int) (wrap64 (x25_1 + 1))) = some (r1, r2) := by first | (rw [hy262]; with_reducible exact H) | (have H2_ := (Option.bind_some _ _).symm.trans H; rw [hy262]; with_reducible exact H2_) | (have H2_ := (Option.bind_some _ _).symm.trans H; with_reducible exact H2_) | with_reducible exact H | (rw [hy262]; exact H) | exact H
            have Ny262 := Aside0.mk hy262
            clear hy262
            have H' := Aside0.mk H
            clear H
            have p257 : 0 ≤ (x25_1 : Int) := of_decide_eq_true (by first | (with_reducible assumption) | assumption)
            have q257 : x25_1 < (t254.length : Int) := of_decide_eq_true (by first | (with_reducible assumption) | assumption)
            obtain ⟨ad257, A257_0, c257_0, e257, hx257_0, hl257_0, hi257_0⟩ := at_L1 (Kd.S_reads' HO_23.out).2.2 x25_1 p257 q257
            cases e257
            obtain ⟨ce257, hce257, hMe257, hcc257⟩ := Kd.S_get HO_23.out [] x25_1 p257 (by first | exact q257 | exact of_decide_eq_true (by first | (with_reducible assumption) | assumption) | (have e_ := (Kd.S_reads' HO_23.out).1; omega))
            obtain ⟨ve257_0, rfl, ge257_0⟩ := hMe257
            have hv257_0 := hcc257 0 _ rfl
            rw [Nat.add_zero, show ((Kd.slice 3 (Kd.int .i64))).sz = 1 from rfl, Nat.mul_one] at hv257_0
            replace hv257_0 := Option.some.inj (hv257_0.symm.trans hx257_0)
            rw [hv257_0] at ge257_0
            have HL257_0 := Aside0.mk (show Kd.R (Kd.int .i64) 3 _ _ _ _ (rd_L1 t254 x25_1) from ge257_0)
            clear hv257_0 ge257_0
            clear hcc257 hce257
            have HR257_0 := Aside0.mk hi257_0
            have HC257_0 := Aside0.mk hl257_0
            clear hi257_0 hl257_0
            replace p257 := eq_true p257
            replace q257 := eq_true q257
            go_wp2_with (first | ((with_reducible refine gate_callee (f := 85) rfl ?_); refine goesL_ (some 31) rfl rfl Try.func85 (by kernel_rfl) rfl #[.slice A257_0 (rd_L1 t254 x25_1).length c257_0] rfl (by (try simp only [List.map_toArray, List.map_cons, List.map_nil]); first | done | rfl | (simp only [List.length_drop, List.length_take]; rfl)) ?_; (with_reducible refine (impl_inversions.calls k1 _ _ (rd_L1 t254 x25_1) t258 _ ?side1 ?side2 A18.out).mono ?_); (case side1 => repeat (first | exact (by repeat (first | (with_reducible exact HR257_0.out) | (with_reducible refine Kd.C_alloc ?_ _) | (with_reducible refine Kd.C_drewN ?_ _) | (with_reducible refine Kd.C_drew ?_) | exact HR257_0.out)) | (with_reducible refine Kd.C_alloc ?_ _) | (with_reducible refine Kd.C_drewN ?_ _) | (with_reducible refine Kd.C_drew ?_))); (case side2 => exact HC257_0.out); rintro e w22 ⟨v259, rfl, ho0, hb⟩; refine ⟨_, rfl, ?_⟩; have n0_ := Aside0.mk (Kd.R_below (by (with_reducible repeat (first | apply Kd.R_alloc | apply Kd.R_drewN | apply Kd.R_drew)); exact HO_4.out) hb); have n1_ := Aside0.mk (Kd.S_elder' (by (with_reducible repeat (first | apply Kd.S_alloc | apply Kd.S_drewN | apply Kd.S_drew)); exact HO_23.out) (Kd.S_base ho0) hb); have n2_ := Aside0.mk (Kd.R_below (by (with_reducible repeat (first | apply Kd.R_alloc | apply Kd.R_drewN | apply Kd.R_drew)); exact HL257_0.out) hb); have n3_ := Aside0.mk (Kd.S_lower (Kd.S_new' (Kd.S_new' (Kd.S_new' ho0 (Kd.R_lt (by (with_reducible repeat (first | apply Kd.R_alloc | apply Kd.R_drewN | apply Kd.R_drew)); exact HO_4.out))) (Kd.S_lt (by (with_reducible repeat (first | apply Kd.S_alloc | apply Kd.S_drewN | apply Kd.S_drew)); exact HO_23.out))) (Kd.R_lt (by (with_reducible repeat (first | apply Kd.R_alloc | apply Kd.R_drewN | apply Kd.R_drew)); exact HL257_0.out))) (below_size (by repeat (first | (with_reducible first | exact HB.out | apply below_alloc | apply pw_below_drewN | apply below_drew1) | exact HB.out)))); have n4_ := Aside0.mk (Kd.C_below (by repeat (first | (with_reducible exact HR257_0.out) | (with_reducible refine Kd.C_alloc ?_ _) | (with_reducible refine Kd.C_drewN ?_ _) | (with_reducible refine Kd.C_drew ?_) | exact HR257_0.out)) hb); have n5_ := Aside0.mk (below_step (by repeat (first | (with_reducible first | exact HB.out | apply below_alloc | apply pw_below_drewN | apply below_drew1) | exact HB.out)) hb); clear HO_4; clear HO_23; clear HL257_0; clear HR257_0; clear HB; have HO_4 := n0_; have HO_23 := n1_; have HL257_0 := n2_; have HO260 := n3_; have HR257_0 := n4_; have HB := n5_; clear n0_ n1_ n2_ n3_ n4_ n5_; (try clear hb); (try clear hb2); (try clear hk); (try clear hi); (try clear ho0); obtain ⟨Ao23, co23, eo23⟩ := Kd.S_slice HO260.out; subst eo23; obtain ⟨Ao24, co24, eo24⟩ := Kd.R_slice HO_4.out; subst eo24; have p261 : 0 ≤ ((t258.length : Int) : Int) := of_decide_eq_true (by first | (with_reducible assumption) | assumption); have q261 : (t258.length : Int) < (x4_1.length : Int) := of_decide_eq_true (by first | (with_reducible assumption) | assumption); obtain ⟨ad261, e261, hx261_0⟩ := Kd.at_int (Kd.R_reads' HO_4.out).2.2 (t258.length : Int) p261 q261; cases e261; (try simp only [Go.IntWalk.toNatUp] at hx261_0); replace p261 := eq_true p261; replace q261 := eq_true q261; have p21 : 0 ≤ ((t258.length : Int) : Int) := of_decide_eq_true (by first | (with_reducible assumption) | assumption); have q21 : ((t258.length : Int) : Int) < ((x4_1.length : Int) : Int) := of_decide_eq_true (by first | (with_reducible assumption) | assumption); obtain ⟨go21, co21, eo21, gb21, gl21, cl21, HG21⟩ := Kd.R_form HO_4.out (by omega); (first | cases eo21 | (injection eo21 with ea_ en_ ec_; (first | subst ea_ | (injection ea_ with ea_; subst ea_)); subst ec_; clear en_)); have GB21 := Aside0.mk gb21; have GG21 := Aside0.mk HG21; clear gb21 gl21 HG21; (first | simp only [add_plain] at hx261_0 | skip); obtain ⟨hx21_0, hf21_0⟩ := Kd.R_celln 0 HO_4.out ((t258.length : Int) : Int) p21 q21; replace p21 := eq_true p21; replace q21 := eq_true q21; obtain ⟨hy25_, hz25_⟩ := Kd.R_celln 0 HO_4.out ((t258.length : Int) : Int) (of_decide_eq_true (by first | (with_reducible assumption) | assumption)) (of_decide_eq_true (by first | (with_reducible assumption) | assumption)); (try simp only [Go.IntWalk.toNatUp] at hy25_ hz25_); have HP25 := Kd.R_putg HO_4.out ((t258.length : Int) : Int) (wrap64 ((rd x4_1 (t258.length : Int)) + 1))) | ((with_reducible refine gate_store (t := 3) (p := 36) rfl ?_); refine store_event (t := 3) (p := 36) (v := ?vo_w26) (w1 := (w22.setCell ⟨go21, ((t258.length : Int) : Int).toNat, none⟩ (.int .i64 (wrap64 ((rd x4_1 (t258.length : Int)) + 1))))) ?hg ?ho ?hn ?hr ?_; (case ho => rfl); (case hg => rfl); (case hn => rfl); (case hr => first | (go_simp; done) | (go_simp; rfl)); intro w26 hw; have hg : w22.grownBy w26 (some go21) := (by rw [hw]; exact HP25.2); have hp_ : Kd.R (Kd.int .i64) 3 w26 w.heap.size (fun _ => True) (.slice (some ⟨go21, 0, none⟩) x4_1.length co24) y262 := (by rw [hw, Ny262.out]; exact HP25.1); clear HP25; have n0_ := Aside0.mk (hp_); have n1_ := Aside0.mk (Kd.S_after (v := (.slice (some ⟨go21, 0, none⟩) x4_1.length co24)) (v1 := (.slice (some ⟨go21, 0, none⟩) x4_1.length co24)) (ok := (fun k_ => some k_ ≠ (.slice Ao23 t258.length co23 : Value).ownBlock)) (by (with_reducible repeat (first | apply Kd.S_alloc | apply Kd.S_drewN | apply Kd.S_drew)); exact Kd.S_mono HO_23.out (fun _ hk => ⟨hk.2, hk.1⟩)) hg (.inl rfl)); have n2_ := Aside0.mk (Kd.R_after (v := (.slice (some ⟨go21, 0, none⟩) x4_1.length co24)) (v1 := (.slice (some ⟨go21, 0, none⟩) x4_1.length co24)) (ok := (fun k_ => some k_ ≠ (.slice (some ad257) t254.length co14 : Value).ownBlock)) (by (with_reducible repeat (first | apply Kd.R_alloc | apply Kd.R_drewN | apply Kd.R_drew)); exact Kd.R_mono HL257_0.out (fun _ hk => ⟨hk.2, hk.1⟩)) hg (.inl rfl)); have n3_ := Aside0.mk (Kd.S_after (v := (.slice (some ⟨go21, 0, none⟩) x4_1.length co24)) (v1 := (.slice (some ⟨go21, 0, none⟩) x4_1.length co24)) (ok := (fun k_ => some k_ ≠ (.slice (some ad257) t254.length co14 : Value).ownBlock ∧ some k_ ≠ (.slice A257_0 (rd_L1 t254 x25_1).length c257_0 : Value).ownBlock)) (by (with_reducible repeat (first | apply Kd.S_alloc | apply Kd.S_drewN | apply Kd.S_drew)); exact Kd.S_mono HO260.out (fun _ hk => ⟨⟨hk.1.2, hk.2⟩, hk.1.1.2⟩)) hg (.inl rfl)); have n4_ := Aside0.mk ((by rw [hw]; exact below_set (HB.out) GB21.out : Below w.heap.size w w26)); clear HO_4; clear HO_23; clear HL257_0; clear HO260; clear HB; have HO_4 := n0_; have HO_23 := n1_; have HL257_0 := n2_; have HO260 := n3_; have HB := n4_; clear n0_ n1_ n2_ n3_ n4_; clear hg hw hp_))
            go_roundg k1
            case measure => have := HK1.out; omega
            case rel => exact ⟨(y262), (wrap64 (x25_1 + 1)), (by first | rfl | (simp; done) | (simp [*]; done)), H', ⟨by have := HK1.out; omega⟩, ⟨by (with_reducible repeat (first | apply Kd.R_alloc | apply Kd.R_drewN | apply Kd.R_drew)); exact HO_4.out⟩, ⟨by (with_reducible repeat (first | apply Kd.S_alloc | apply Kd.S_drewN | apply Kd.S_drew)); exact Kd.S_mono HO_23.out (fun _ hk => hk.2)⟩, ⟨by repeat (first | (with_reducible first | exact HB.out | apply below_alloc | apply pw_below_drewN | apply below_drew1) | exact HB.out)⟩⟩
           ·rw [if_neg c20] at H
            exact absurd H (by simp)
          ·rw [if_neg c19] at H
           exact absurd H (by simp)
         ·rw [if_neg c17] at H
          exact absurd H (by simp)
        ·rw [if_neg c16] at H
         exact absurd H (by simp)
       ·rw [if_neg c15] at H
        have c15b0 : decide (x25_1 < (t254.length : Int)) = false := decide_eq_false c15
        clear c15
        simp only [Option.some.injEq, Prod.mk.injEq] at H
        obtain ⟨rfl, rfl⟩ := H
        go_wp2
        go_ret2
        exact ⟨_, by first | rfl | (simp [errW_none, errW_some] <;> rfl) | (simp only [← hji7]; first | rfl | (simp [errW_none, errW_some] <;> rfl)) | (simp [*, errW_none, errW_some] <;> rfl), by (with_reducible repeat (first | apply Kd.R_alloc | apply Kd.R_drewN | apply Kd.R_drew)); exact HO_4.out, by repeat (first | (with_reducible first | exact HB.out | apply below_alloc | apply pw_below_drewN | apply below_drew1) | exact HB.out)⟩
    ·rw [if_neg c9] at H
     exact absurd H (by simp)
   ·rw [if_neg c8] at H
    exact absurd H (by simp)
 ·replace c3 := Bool.eq_false_iff.mpr c3
  subst c3
  have H1 : (some (([] : List Int), false)) = some (r1, r2) := by rw [if_neg (show ¬ (false = true) by decide)] at H; exact H
  clear H
  have H := H1
  clear H1
  simp only [Option.some.injEq, Prod.mk.injEq] at H
  obtain ⟨rfl, rfl⟩ := H
  go_enter Try.func45, Try.ntmps45
  go_wp2_with (first | ((with_reducible refine gate_callee (f := 90) rfl ?_); refine goesL_ (some 9) rfl rfl Try.func90 (by kernel_rfl) rfl #[.int .i64 a0, .int .i64 0, .int .i64 5] rfl (by (try simp only [List.map_toArray, List.map_cons, List.map_nil]); first | done | rfl | (simp only [List.length_drop, List.length_take]; rfl)) ?_; (with_reducible refine (impl_between.calls a0 0 5 false _ A2.out).mono ?_); rintro e w' ⟨rfl, ⟨nd, rfl⟩⟩; refine ⟨_, rfl, ?_⟩))
  go_ret2
  exact ⟨_, by first | rfl | (simp [errW_none, errW_some] <;> rfl) | (simp [*, errW_none, errW_some] <;> rfl), by first | exact Kd.R_nil _ _ _ _ _ | exact Kd.N_nil _ _ _ _ _ | exact Kd.V_nil _ _ _ _ _ | exact Kd.Q_nil _ _ _ _ _ | exact Kd.S_nil _ _ _ _ _, by repeat (first | (with_reducible first | exact HB.out | apply below_alloc | apply pw_below_drewN | apply below_drew1) | exact HB.out)⟩

end Go.Proofs.Ytmollfkakalagaa.PFnExactCountByInversions
