-- Written by a program of this session for this claim (its own turn of the print).
import Derived.Test.YtmollfkakalagaaPFnExactAllHeightsx0
import Derived.Test.YtmollfkakalagaaPFnExactAllHeightsx1
namespace Go.Proofs.Ytmollfkakalagaa.PFnExactAllHeights
open Go.RowKit Go.Proofs.YtmollfkakalagaaW.PrintWords Go.Proofs.YtmollfkakalagaaW.PrintLast Go.Proofs.YtmollfkakalagaaW.PrintMore
attribute [local go_sem] max2_int min2_int max_two min_two max_three min_three max_four min_four   -- for this text's walks alone
set_option linter.unusedVariables false
set_option linter.unusedSimpArgs false

/-! ### spec_waAll: function 89 -/
mutual
def spec_waAll.j0 : Nat → List Int → Int → Int → Option ((List (List Int)))
 | 0, _, _, _ => none
 | k + 1, x0, x1, x5 => spec_waAll.l0 k x0 x1 x5 ([] : List (List Int)) 0
def spec_waAll.l0 : Nat → List Int → Int → Int → List (List Int) → Int → Option ((List (List Int)))
 | 0, _, _, _, _, _ => none
 | k + 1, x0, x1, x5, x6, x7 => if x7 ≤ x5 then ((spec_l1Own.f x0).bind fun t123 => (if t123.length < 17592186044416 then ((spec_waAll.f k (t123 ++ [x7]) x1).bind fun t129 => (if x6.length + t129.length < 5864062014805 then (spec_waAll.l0 k x0 x1 x5 (x6 ++ t129) (wrap64 (x7 + 1))) else (none))) else (none))) else (some x6)
def spec_waAll.f : Nat → List Int → Int → Option ((List (List Int)))
 | 0, _, _ => none
 | k + 1, l0, a1 => if (l0.length : Int) = a1 then ((spec_l1Own.f l0).bind fun t116 => (some (([t116] : List (List Int))))) else (if (l0.length : Int) > 0 then (if 0 ≤ (wrap64 ((l0.length : Int) - 1)) then (if (wrap64 ((l0.length : Int) - 1)) < (l0.length : Int) then (spec_waAll.j0 k l0 a1 (wrap64 ((rd l0 (wrap64 ((l0.length : Int) - 1))) + 1))) else (none)) else (none)) else (spec_waAll.j0 k l0 a1 0))
end
theorem spec_waAll.mono_l : ∀ k, (∀ y0 y1, LeO (spec_waAll.f k y0 y1) (spec_waAll.f (k + 1) y0 y1)) ∧ (∀ y0 y1 y2, LeO (spec_waAll.j0 k y0 y1 y2) (spec_waAll.j0 (k + 1) y0 y1 y2)) ∧ (∀ y0 y1 y2 y3 y4, LeO (spec_waAll.l0 k y0 y1 y2 y3 y4) (spec_waAll.l0 (k + 1) y0 y1 y2 y3 y4))
 | 0 => ⟨fun _ _ r h => by simp [spec_waAll.f] at h, fun _ _ _ r h => by simp [spec_waAll.j0] at h, fun _ _ _ _ _ r h => by simp [spec_waAll.l0] at h⟩
 | k + 1 => by
  obtain ⟨ih0, ih1, ih2⟩ := spec_waAll.mono_l k
  refine ⟨?_, ?_, ?_⟩
  ·intro y0 y1
   unfold spec_waAll.f
   repeat' first
   | (with_reducible exact ih0 _ _)
   | (with_reducible exact ih1 _ _ _)
   | (with_reducible exact ih2 _ _ _ _ _)
   | (with_reducible exact LeO.refl _)
   | (with_reducible exact LeO.none _)
   | (with_reducible refine LeO.ite ?_ ?_)
   | (with_reducible refine LeO.bind ?_ (fun _ => ?_))
   | exact LeO.none _
   | refine LeO.ite ?_ ?_
   | refine LeO.bind ?_ (fun _ => ?_)
  ·intro y0 y1 y2
   unfold spec_waAll.j0
   repeat' first
   | (with_reducible exact ih0 _ _)
   | (with_reducible exact ih1 _ _ _)
   | (with_reducible exact ih2 _ _ _ _ _)
   | (with_reducible exact LeO.refl _)
   | (with_reducible exact LeO.none _)
   | (with_reducible refine LeO.ite ?_ ?_)
   | (with_reducible refine LeO.bind ?_ (fun _ => ?_))
   | exact LeO.none _
   | refine LeO.ite ?_ ?_
   | refine LeO.bind ?_ (fun _ => ?_)
  ·intro y0 y1 y2 y3 y4
   unfold spec_waAll.l0
   repeat' first
   | (with_reducible exact ih0 _ _)
   | (with_reducible exact ih1 _ _ _)
   | (with_reducible exact ih2 _ _ _ _ _)
   | (with_reducible exact LeO.refl _)
   | (with_reducible exact LeO.none _)
   | (with_reducible refine LeO.ite ?_ ?_)
   | (with_reducible refine LeO.bind ?_ (fun _ => ?_))
   | exact LeO.none _
   | refine LeO.ite ?_ ?_
   | refine LeO.bind ?_ (fun _ => ?_)
theorem spec_waAll.mono : ∀ a0 a1 k, LeO (spec_waAll.f k a0 a1) (spec_waAll.f (k + 1) a0 a1) := by
 intro a0 a1 k
 obtain ⟨ih0, ih1, ih2⟩ := spec_waAll.mono_l k
 exact ih0 a0 a1
set_option maxHeartbeats 8000000 in
set_option maxRecDepth 100000 in
theorem spec_waAll.calls (k : Nat) : ∀ (A0 : Option Addr) (c0 : Nat) (l0 : List Int) (a1 : Int) (r : List (List Int)) (w : World) (hr0 : Kd.C (Kd.int .i64) w A0 l0.length l0) (hc0 : l0.length ≤ c0) (h : spec_waAll.f k l0 a1 = some r),
  Calls Try.prog 89 #[.slice A0 l0.length c0, .int .i64 a1] w fun e w' => ∃ v0_ : Value, e = .returned (v0_) ∧ Kd.N (Kd.slice 3 (Kd.int .i64)) 22 w' w.heap.size (fun k_ => (w.heap.size ≤ k_)) v0_ r ∧ Below w.heap.size w w' := by
 induction k using Nat.strongRecOn with
 | _ k ih =>
 intro A0 c0 l0 a1 r w hr0 hc0 h
 cases k with
 | zero => exact absurd h (by simp [spec_waAll.f])
 | succ k =>
 simp only [spec_waAll.f] at h
 have HR0 := Aside0.mk hr0
 have HC0 := Aside0.mk hc0
 clear hr0 hc0
 have HB := Aside0.mk (Below.refl w.heap.size w)
 have H : (if (l0.length : Int) = a1 then ((spec_l1Own.f l0).bind fun t116 => (some (([t116] : List (List Int))))) else (if (l0.length : Int) > 0 then (if 0 ≤ (wrap64 ((l0.length : Int) - 1)) then (if (wrap64 ((l0.length : Int) - 1)) < (l0.length : Int) then (spec_waAll.j0 k l0 a1 (wrap64 ((rd l0 (wrap64 ((l0.length : Int) - 1))) + 1))) else (none)) else (none)) else (spec_waAll.j0 k l0 a1 0))) = some r := h
 clear h
 by_cases c3 : (l0.length : Int) = a1
 ·rw [if_pos c3] at H
  have c3b0 : ((l0.length : Int) == a1) = true := beq_iff_eq.mpr c3
  have c3b1 : ((l0.length : Int) != a1) = false := bne_eq_false_iff_eq.mpr c3
  clear c3
  replace H := Option.bind_eq_some_iff.mp H
  obtain ⟨t116, A40, H⟩ := H
  replace H : (some (([t116] : List (List Int)))) = some r := H
  have A4 := Aside0.mk A40
  clear A40
  obtain ⟨y119, hy119⟩ : ∃ y_ : List (List Int), y_ = (([t116] : List (List Int))) := ⟨_, rfl⟩
  replace H : (some y119) = some r := by first | (rw [hy119]; with_reducible exact H) | (have H2_ := (Option.bind_some _ _).symm.trans H; rw [hy119]; with_reducible exact H2_) | (have H2_ := (Option.bind_some _ _).symm.trans H; with_reducible exact H2_) | with_reducible exact H | (rw [hy119]; exact H) | exact H
  have Ny119 := Aside0.mk hy119
  clear hy119
  obtain rfl := Option.some.inj H
  go_enter Try.func89, Try.ntmps89
  go_wp2_with (first | ((with_reducible refine gate_callee (f := 109) rfl ?_); refine goesL_ (some 13) rfl rfl Try.func109 (by kernel_rfl) rfl #[.slice A0 l0.length c0] rfl (by (try simp only [List.map_toArray, List.map_cons, List.map_nil]); first | done | rfl | (simp only [List.length_drop, List.length_take]; rfl)) ?_; (with_reducible refine (spec_l1Own.calls _ _ l0 t116 _ ?side1 ?side2 A4.out).mono ?_); (case side1 => repeat (first | exact HR0.out | (with_reducible refine Kd.C_alloc ?_ _) | (with_reducible refine Kd.C_drewN ?_ _) | (with_reducible refine Kd.C_drew ?_))); (case side2 => exact HC0.out); rintro e w5 ⟨v117, rfl, ho0, hb⟩; refine ⟨_, rfl, ?_⟩; have n0_ := Aside0.mk (Kd.R_lower (Kd.R_newM (M := fun k_ => (w.heap.size ≤ k_)) ho0 (below_size (by repeat (first | (with_reducible first | exact HB.out | apply below_alloc | apply pw_below_drewN | apply below_drew1) | exact HB.out))) (fun k_ h_ => h_)) (below_size (by repeat (first | (with_reducible first | exact HB.out | apply below_alloc | apply pw_below_drewN | apply below_drew1) | exact HB.out)))); have n1_ := Aside0.mk (below_step (by repeat (first | (with_reducible first | exact HB.out | apply below_alloc | apply pw_below_drewN | apply below_drew1) | exact HB.out)) hb); clear HB; have HO118 := n0_; have HB := n1_; clear n0_ n1_; (try clear hb); (try clear hb2); (try clear hk); (try clear hi); (try clear ho0); obtain ⟨Ao6, co6, eo6⟩ := Kd.R_slice HO118.out; subst eo6) | ((with_reducible refine gate_dst (N := 14) rfl ?_); refine Kd.N_lit (Kd.slice 3 (Kd.int .i64)) _ 22 ?hg (N' := 14) ?hd (xs := ([t116] : List (List Int))) (inner := [.slice Ao6 t116.length co6]) (ok := (fun k_ => (w.heap.size ≤ k_))) (okp := (fun k_ => (w.heap.size ≤ k_))) ?hr ?hp (fun _ hk => hk) ((show ∀ k_, w5.heap.size ≤ k_ → (fun k_ => (w.heap.size ≤ k_)) k_ from fun k_ hk => (Nat.le_trans (below_size (by repeat (first | (with_reducible first | exact HB.out | apply below_alloc | apply pw_below_drewN | apply below_drew1) | exact HB.out))) hk)) _ (Nat.le_refl _)) (Below.refl _ _) (Nat.le_refl _) (by simp) ?_; (case hd => rfl); (case hg => rfl); (case hr => first | (go_simp; done) | (go_simp; rfl)); (case hp => exact (Reps.one (show Kd.FK (Kd.slice 3 (Kd.int .i64)) _ _ t116 [.slice Ao6 t116.length co6] from (Kd.FK_slice_mk (Kd.R_reads' (Kd.R_mono (ok' := (fun k_ => (w.heap.size ≤ k_))) (HO118.out) (fun k_ hk => hk.1))).2.1 (Kd.R_F (Kd.R_mono (ok' := (fun k_ => (w.heap.size ≤ k_))) (HO118.out) (fun k_ hk => hk.1))))) (Reps.none _ _))); intro v120 w7 ho8 hb hg_ hnew_; clear hg_ hnew_; (first | rw [← Ny119.out] at ho8 | (simp only [Int.reduceToNat] at ho8; rw [← Ny119.out] at ho8)); have n0_ := Aside0.mk (Kd.N_lower ho8 (below_size (by repeat (first | (with_reducible first | exact HB.out | apply below_alloc | apply pw_below_drewN | apply below_drew1) | exact HB.out)))); have n1_ := Aside0.mk (below_step (by repeat (first | (with_reducible first | exact HB.out | apply below_alloc | apply pw_below_drewN | apply below_drew1) | exact HB.out)) hb); clear HB; clear HO118; have HO121 := n0_; have HB := n1_; clear n0_ n1_; clear hb ho8))
  go_ret
  exact ⟨_, by first | rfl | (simp [errW_none, errW_some] <;> rfl) | (simp [*, errW_none, errW_some] <;> rfl), by (with_reducible repeat (first | apply Kd.N_alloc | apply Kd.N_drewN | apply Kd.N_drew)); exact HO121.out, by repeat (first | (with_reducible first | exact HB.out | apply below_alloc | apply pw_below_drewN | apply below_drew1) | exact HB.out)⟩
 ·rw [if_neg c3] at H
  have c3b0 : ((l0.length : Int) == a1) = false := beq_eq_false_iff_ne.mpr c3
  have c3b1 : ((l0.length : Int) != a1) = true := bne_iff_ne.mpr c3
  have HC9 := Aside0.mk H
  clear H
  go_enter Try.func89, Try.ntmps89
  go_upto_if 17 with (fail)
  go_cut [5] (fun v5 wc => ∃ (kq : Nat) (x5_8 : Int), v5 = .int .i64 x5_8 ∧ Aside0 (spec_waAll.j0 kq l0 a1 x5_8 = some r) ∧ Aside0 (kq ≤ k) ∧ Aside0 (Below w.heap.size w wc))
  case first =>
   have H := HC9.out
   clear HC9
   by_cases c10 : (l0.length : Int) > 0
   ·rw [if_pos c10] at H
    have c10b0 : decide (0 < (l0.length : Int)) = true := decide_eq_true c10
    have c10b1 : decide (0 < l0.length) = true := decide_eq_true (by omega)
    clear c10
    (first | rw [c10b0] | (simp only [i64_w, i32_w]; rw [c10b0]) | rw [c10b1] | skip)
    obtain ⟨ji11, hji11⟩ : ∃ j_ : Int, (wrap64 ((l0.length : Int) - 1)) = j_ := ⟨_, rfl⟩
    replace H : (if 0 ≤ (ji11) then (if (ji11) < (l0.length : Int) then (spec_waAll.j0 k l0 a1 (wrap64 ((rd l0 (ji11)) + 1))) else (none)) else (none)) = some r := by first | (rw [hji11] at H; exact H) | (simp only [hji11] at H ⊢; exact H)
    have hji11w : (IntKind.i64.wrap ((l0.length : Int) - 1)) = ji11 := (i64_w _).trans hji11
    by_cases c12 : 0 ≤ (ji11)
    ·rw [if_pos c12] at H
     have c12b0 : decide (0 ≤ (ji11)) = true := decide_eq_true c12
     clear c12
     by_cases c13 : (ji11) < (l0.length : Int)
     ·rw [if_pos c13] at H
      have c13b0 : decide ((ji11) < (l0.length : Int)) = true := decide_eq_true c13
      clear c13
      have H' := Aside0.mk H
      clear H
      have p122 : 0 ≤ ((ji11) : Int) := of_decide_eq_true (by first | (with_reducible assumption) | assumption)
      have q122 : (ji11) < (l0.length : Int) := of_decide_eq_true (by first | (with_reducible assumption) | assumption)
      obtain ⟨ad122, e122, hx122_0⟩ := Kd.at_int HR0.out (ji11) p122 q122
      cases e122
      replace hx122_0 := (HB.out.cell (World.block_lt_of_cell? w _ hx122_0)).trans hx122_0
      replace p122 := eq_true p122
      replace q122 := eq_true q122
      go_wp2
      go_meet
      case rel => exact ⟨_, (wrap64 ((rd l0 (ji11)) + 1)), (by first | rfl | (simp; done) | (simp only [← hji11] <;> (first | rfl | simp)) | (simp [*]; done)), H', ⟨by first | omega | exact Nat.le_refl _⟩, ⟨by repeat (first | (with_reducible first | exact HB.out | apply below_alloc | apply pw_below_drewN | apply below_drew1) | exact HB.out)⟩⟩
     ·rw [if_neg c13] at H
      exact absurd H (by simp)
    ·rw [if_neg c12] at H
     exact absurd H (by simp)
   ·rw [if_neg c10] at H
    have c10b0 : decide (0 < (l0.length : Int)) = false := decide_eq_false c10
    have c10b1 : decide (0 < l0.length) = false := decide_eq_false (by omega)
    clear c10
    (first | rw [c10b0] | (simp only [i64_w, i32_w]; rw [c10b0]) | rw [c10b1] | skip)
    have H' := Aside0.mk H
    clear H
    go_wp2
    go_meet
    case rel => exact ⟨_, (0), (by first | rfl | (simp; done) | (simp [*]; done)), H', ⟨by first | omega | exact Nat.le_refl _⟩, ⟨by repeat (first | (with_reducible first | exact HB.out | apply below_alloc | apply pw_below_drewN | apply below_drew1) | exact HB.out)⟩⟩
  case rest =>
   clear HC9
   try clear c1
   try clear p1
   try clear q1
   try clear hx1
   try clear p2
   try clear c3
   try clear c3b0
   try clear c3b1
   try clear p6
   try clear c8
   try clear c10
   try clear c10b0
   try clear c10b1
   try clear c12
   try clear c12b0
   try clear p12
   try clear q12
   try clear hx12
   try clear c13
   try clear c13b0
   try clear hx122_0
   try clear p122
   try clear q122
   obtain ⟨kq, x5_8, rfl, HA, HJ8, HB⟩ := hcut
   cases kq with
   | zero => exact absurd HA.out (by simp [spec_waAll.j0])
   | succ kj8 =>
    have H := HA.out
    clear HA
    simp only [spec_waAll.j0] at H
    have H' := Aside0.mk H
    clear H
    go_wp2
    go_loopg [6, 7] kj8 (fun kq v6 v7 w' => ∃ (x6_2 : List (List Int)) (x7_2 : Int), v7 = .int .i64 x7_2 ∧ Aside0 (spec_waAll.l0 kq l0 a1 x5_8 x6_2 x7_2 = some r) ∧ Aside0 (kq ≤ kj8) ∧ Aside0 (Kd.N (Kd.slice 3 (Kd.int .i64)) 22 w' w.heap.size (fun k_ => (w.heap.size ≤ k_)) v6 x6_2) ∧ Aside0 (Below w.heap.size w w'))
    case atStart => exact ⟨(([] : List (List Int))), (0), (by first | rfl | (simp; done) | (simp [*]; done)), H', ⟨Nat.le_refl _⟩, ⟨by first | exact Kd.S_nil _ _ _ _ _ | exact Kd.N_nil _ _ _ _ _ | exact Kd.V_nil _ _ _ _ _ | exact Kd.Q_nil _ _ _ _ _ | exact Kd.R_nil _ _ _ _ _⟩, ⟨by repeat (first | (with_reducible first | exact HB.out | apply below_alloc | apply pw_below_drewN | apply below_drew1) | exact HB.out)⟩⟩
    case round =>
     clear H'
     try clear c1
     try clear p1
     try clear q1
     try clear hx1
     try clear p2
     try clear c3
     try clear c3b0
     try clear c3b1
     try clear p6
     try clear c8
     try clear c10
     try clear c10b0
     try clear c10b1
     try clear c12
     try clear c12b0
     try clear p12
     try clear q12
     try clear hx12
     try clear c13
     try clear c13b0
     try clear hx122_0
     try clear p1
     try clear p12
     try clear p122
     try clear p2
     try clear p6
     try clear q1
     try clear q12
     try clear q122
     obtain ⟨x6_2, x7_2, rfl, HA, HK2, HO_6, HB⟩ := hrel
     cases gk with
     | zero => exact absurd HA.out (by simp [spec_waAll.l0])
     | succ k2 =>
      have H := HA.out
      clear HA
      simp only [spec_waAll.l0] at H
      by_cases c14 : x7_2 ≤ x5_8
      ·rw [if_pos c14] at H
       have c14b0 : decide (x7_2 ≤ x5_8) = true := decide_eq_true c14
       clear c14
       replace H := Option.bind_eq_some_iff.mp H
       obtain ⟨t123, A150, H⟩ := H
       replace H : (if t123.length < 17592186044416 then ((spec_waAll.f k2 (t123 ++ [x7_2]) a1).bind fun t129 => (if x6_2.length + t129.length < 5864062014805 then (spec_waAll.l0 k2 l0 a1 x5_8 (x6_2 ++ t129) (wrap64 (x7_2 + 1))) else (none))) else (none)) = some r := H
       have A15 := Aside0.mk A150
       clear A150
       by_cases c16 : t123.length < 17592186044416
       ·rw [if_pos c16] at H
        have LMc16 := Aside0.mk c16
        clear c16
        obtain ⟨y126, hy126⟩ : ∃ y_ : List Int, y_ = (t123 ++ [x7_2]) := ⟨_, rfl⟩
        replace H : ((spec_waAll.f k2 y126 a1).bind fun t129 => (if x6_2.length + t129.length < 5864062014805 then (spec_waAll.l0 k2 l0 a1 x5_8 (x6_2 ++ t129) (wrap64 (x7_2 + 1))) else (none))) = some r := by first | (rw [hy126]; with_reducible exact H) | (have H2_ := (Option.bind_some _ _).symm.trans H; rw [hy126]; with_reducible exact H2_) | (have H2_ := (Option.bind_some _ _).symm.trans H; with_reducible exact H2_) | with_reducible exact H | (rw [hy126]; exact H) | exact H
        have Ny126 := Aside0.mk hy126
        clear hy126
        replace H := Option.bind_eq_some_iff.mp H
        obtain ⟨t129, A170, H⟩ := H
        replace H : (if x6_2.length + t129.length < 5864062014805 then (spec_waAll.l0 k2 l0 a1 x5_8 (x6_2 ++ t129) (wrap64 (x7_2 + 1))) else (none)) = some r := H
        have A17 := Aside0.mk A170
        clear A170
        by_cases c18 : x6_2.length + t129.length < 5864062014805
        ·rw [if_pos c18] at H
         have LMc18 := Aside0.mk c18
         clear c18
         obtain ⟨y132, hy132⟩ : ∃ y_ : List (List Int), y_ = (x6_2 ++ t129) := ⟨_, rfl⟩
         replace H : (spec_waAll.l0 k2 l0 a1 x5_8 y132 (wrap64 (x7_2 + 1))) = some r := by first | (rw [hy132]; with_reducible exact H) | (have H2_ := (Option.bind_some _ _).symm.trans H; rw [hy132]; with_reducible exact H2_) | (have H2_ := (Option.bind_some _ _).symm.trans H; with_reducible exact H2_) | with_reducible exact H | (rw [hy132]; exact H) | exact H
         have Ny132 := Aside0.mk hy132
         clear hy132
         have H' := Aside0.mk H
         clear H
         go_wp2_with (first | ((with_reducible refine gate_callee (f := 109) rfl ?_); refine goesL_ (some 32) rfl rfl Try.func109 (by kernel_rfl) rfl #[.slice A0 l0.length c0] rfl (by (try simp only [List.map_toArray, List.map_cons, List.map_nil]); first | done | rfl | (simp only [List.length_drop, List.length_take]; rfl)) ?_; (with_reducible refine (spec_l1Own.calls _ _ l0 t123 _ ?side1 ?side2 A15.out).mono ?_); (case side1 => repeat (first | exact (Kd.C_below HR0.out HB.out) | (with_reducible refine Kd.C_alloc ?_ _) | (with_reducible refine Kd.C_drewN ?_ _) | (with_reducible refine Kd.C_drew ?_))); (case side2 => exact HC0.out); rintro e w19 ⟨v124, rfl, ho0, hb⟩; refine ⟨_, rfl, ?_⟩; have n0_ := Aside0.mk (Kd.N_elder' (by (with_reducible repeat (first | apply Kd.N_alloc | apply Kd.N_drewN | apply Kd.N_drew)); exact HO_6.out) (Kd.R_base ho0) hb); have n1_ := Aside0.mk (Kd.R_lower (Kd.R_newM (M := fun k_ => (w.heap.size ≤ k_)) ho0 (below_size (by repeat (first | (with_reducible first | exact HB.out | apply below_alloc | apply pw_below_drewN | apply below_drew1) | exact HB.out))) (fun k_ h_ => h_)) (below_size (by repeat (first | (with_reducible first | exact HB.out | apply below_alloc | apply pw_below_drewN | apply below_drew1) | exact HB.out)))); have n2_ := Aside0.mk (below_step (by repeat (first | (with_reducible first | exact HB.out | apply below_alloc | apply pw_below_drewN | apply below_drew1) | exact HB.out)) hb); clear HO_6; clear HB; have HO_6 := n0_; have HO125 := n1_; have HB := n2_; clear n0_ n1_ n2_; (try clear hb); (try clear hb2); (try clear hk); (try clear hi); (try clear ho0)) | ((with_reducible refine gate_builtin (b := .append) (xs := #[.tmp 32, .tmp 34]) rfl ?_); at_builtin; refine Kd.R_append (Kd.int .i64) (w0 := w) w.heap.size rfl (.tmp 32) (.tmp 34) 22 3 (.int .i64 0) 8 rfl Try.underlying22 info3 rfl (by decide) (by omega) v124 t123 x7_2 [.int .i64 x7_2] (fun k_ => (w.heap.size ≤ k_)) (fun _ => False) rfl rfl ?aP (fun _ hk => hk.elim) ?aF ?aO ?aB ?aS ?aL ?_; (case aP => exact rfl); (case aB => exact (by repeat (first | (with_reducible first | exact HB.out | apply below_alloc | apply pw_below_drewN | apply below_drew1) | exact HB.out))); (case aF => exact (fun k_ hk => (Nat.le_trans (below_size (by repeat (first | (with_reducible first | exact HB.out | apply below_alloc | apply pw_below_drewN | apply below_drew1) | exact HB.out))) hk))); (case aO => exact (by (with_reducible repeat (first | apply Kd.R_alloc | apply Kd.R_drewN | apply Kd.R_drew)); exact Kd.R_mono HO125.out (fun _ hk => hk.1))); (case aS => exact (below_size (by repeat (first | (with_reducible first | exact HB.out | apply below_alloc | apply pw_below_drewN | apply below_drew1) | exact HB.out)))); (case aL => have := LMc16.out; omega); intro v127 w20 ho hb hg hat; rw [← Ny126.out] at ho; have n0_ := Aside0.mk (Kd.N_afterv (ok := (fun k_ => (w.heap.size ≤ k_))) (by (with_reducible repeat (first | apply Kd.N_alloc | apply Kd.N_drewN | apply Kd.N_drew)); exact HO_6.out) hg hat); have n1_ := Aside0.mk (hb); have n2_ := Aside0.mk (ho); clear HO_6; clear HB; clear HO125; have HO_6 := n0_; have HB := n1_; have HO128 := n2_; clear n0_ n1_ n2_; clear ho hb hg hat; obtain ⟨Ao21, co21, eo21⟩ := Kd.R_slice HO128.out; subst eo21) | ((with_reducible refine gate_callee (f := 89) rfl ?_); refine goesL_ (some 37) rfl rfl Try.func89 (by kernel_rfl) rfl #[.slice Ao21 y126.length co21, .int .i64 a1] rfl (by (try simp only [List.map_toArray, List.map_cons, List.map_nil]); first | done | rfl | (simp only [List.length_drop, List.length_take]; rfl)) ?_; (with_reducible refine (ih k2 (by have := HJ8.out; have := HK2.out; omega) _ _ y126 a1 t129 _ ?side1 ?side2 A17.out).mono ?_); (case side1 => repeat (first | exact (Kd.R_reads' HO128.out).2.2 | (with_reducible refine Kd.C_alloc ?_ _) | (with_reducible refine Kd.C_drewN ?_ _) | (with_reducible refine Kd.C_drew ?_))); (case side2 => exact (Kd.R_reads' HO128.out).2.1); rintro e w22 ⟨v130, rfl, ho0, hb⟩; refine ⟨_, rfl, ?_⟩; have n0_ := Aside0.mk (Kd.N_elder' (by (with_reducible repeat (first | apply Kd.N_alloc | apply Kd.N_drewN | apply Kd.N_drew)); exact HO_6.out) (Kd.N_base ho0) hb); have n1_ := Aside0.mk (Kd.R_below (by (with_reducible repeat (first | apply Kd.R_alloc | apply Kd.R_drewN | apply Kd.R_drew)); exact HO128.out) hb); have n2_ := Aside0.mk (Kd.N_lower (Kd.N_mono (ok' := fun k_ => (w.heap.size ≤ k_) ∧ some k_ ≠ (u6 : Value).ownBlock ∧ some k_ ≠ (.slice Ao21 y126.length co21 : Value).ownBlock) ho0 (fun k_ hk_ => ⟨(Nat.le_trans (below_size (by repeat (first | (with_reducible first | exact HB.out | apply below_alloc | apply pw_below_drewN | apply below_drew1) | exact HB.out))) hk_), (Kd.fresh' (Kd.N_lt (by (with_reducible repeat (first | apply Kd.N_alloc | apply Kd.N_drewN | apply Kd.N_drew)); exact HO_6.out)) k_ hk_), (Kd.fresh' (Kd.R_lt (by (with_reducible repeat (first | apply Kd.R_alloc | apply Kd.R_drewN | apply Kd.R_drew)); exact HO128.out)) k_ hk_)⟩)) (below_size (by repeat (first | (with_reducible first | exact HB.out | apply below_alloc | apply pw_below_drewN | apply below_drew1) | exact HB.out)))); have n3_ := Aside0.mk (below_step (by repeat (first | (with_reducible first | exact HB.out | apply below_alloc | apply pw_below_drewN | apply below_drew1) | exact HB.out)) hb); clear HO_6; clear HO128; clear HB; have HO_6 := n0_; have HO128 := n1_; have HO131 := n2_; have HB := n3_; clear n0_ n1_ n2_ n3_; (try clear hb); (try clear hb2); (try clear hk); (try clear hi); (try clear ho0); obtain ⟨Ao24, co24, eo24⟩ := Kd.N_slice HO131.out; subst eo24) | ((with_reducible refine gate_builtin (b := .append) (xs := #[.tmp 30, .tmp 37]) rfl ?_); at_builtin; refine Kd.N_append_rows (Kd.slice 3 (Kd.int .i64)) (w0 := w) w.heap.size rfl (.tmp 30) (.tmp 37) 38 22 (.slice none 0 0) 24 rfl Try.underlying38 info22 rfl (by decide) (by omega) u6 x6_2 t129 _ _ _ (fun k_ => (w.heap.size ≤ k_) ∧ some k_ ≠ (.slice Ao21 y126.length co21 : Value).ownBlock) (fun k_ => ((fun k_ => (w.heap.size ≤ k_) ∧ some k_ ≠ (.slice Ao21 y126.length co21 : Value).ownBlock)) k_ ∧ some k_ ≠ (u6 : Value).ownBlock) rfl rfl ?aO ?aR (fun _ hk => hk) ?aF ?aB ?aS ?aL ?_; (case aR => exact (by skip; exact Kd.N_F (Kd.N_mono (ok' := (fun k_ => ((fun k_ => (w.heap.size ≤ k_) ∧ some k_ ≠ (.slice Ao21 y126.length co21 : Value).ownBlock)) k_ ∧ some k_ ≠ (u6 : Value).ownBlock)) (HO131.out) (fun k_ hk => ⟨⟨hk.1, hk.2.2⟩, hk.2.1⟩)))); (case aB => exact (by repeat (first | (with_reducible first | exact HB.out | apply below_alloc | apply pw_below_drewN | apply below_drew1) | exact HB.out))); (case aF => exact (fun k_ hk => ⟨(Nat.le_trans (below_size (by repeat (first | (with_reducible first | exact HB.out | apply below_alloc | apply pw_below_drewN | apply below_drew1) | exact HB.out))) hk), Kd.fresh' (Kd.R_lt (by (with_reducible repeat (first | apply Kd.R_alloc | apply Kd.R_drewN | apply Kd.R_drew)); exact HO128.out)) k_ hk⟩)); (case aO => exact (by (with_reducible repeat (first | apply Kd.N_alloc | apply Kd.N_drewN | apply Kd.N_drew)); exact Kd.N_mono HO_6.out (fun _ hk => ⟨hk.1.1, hk.1.2⟩))); (case aS => exact (below_size (by repeat (first | (with_reducible first | exact HB.out | apply below_alloc | apply pw_below_drewN | apply below_drew1) | exact HB.out)))); (case aL => have := LMc18.out; omega); intro v133 w23 ho hb hg hat; rw [← Ny132.out] at ho; have n0_ := Aside0.mk (Kd.R_over' (by (with_reducible repeat (first | apply Kd.R_alloc | apply Kd.R_drewN | apply Kd.R_drew)); exact HO128.out) (Kd.N_typed (by (with_reducible repeat (first | apply Kd.N_alloc | apply Kd.N_drewN | apply Kd.N_drew)); exact HO_6.out)) (by decide) hg); have n1_ := Aside0.mk (Kd.N_afterv (ok := (fun k_ => (w.heap.size ≤ k_) ∧ some k_ ≠ (.slice Ao21 y126.length co21 : Value).ownBlock)) (by (with_reducible repeat (first | apply Kd.N_alloc | apply Kd.N_drewN | apply Kd.N_drew)); exact Kd.N_mono HO131.out (fun _ hk => ⟨⟨hk.1, hk.2.2⟩, hk.2.1⟩)) hg hat); have n2_ := Aside0.mk (hb); have n3_ := Aside0.mk (ho); clear HO128; clear HO131; clear HB; clear HO_6; have HO128 := n0_; have HO131 := n1_; have HB := n2_; have HO134 := n3_; clear n0_ n1_ n2_ n3_; clear ho hb hg hat))
         go_roundg k2
         case measure => have := HJ8.out; have := HK2.out; omega
         case rel => exact ⟨(y132), (wrap64 (x7_2 + 1)), (by first | rfl | (simp; done) | (simp [*]; done)), H', ⟨by have := HJ8.out; have := HK2.out; omega⟩, ⟨by (with_reducible repeat (first | apply Kd.N_alloc | apply Kd.N_drewN | apply Kd.N_drew)); exact Kd.N_mono HO134.out (fun _ hk => hk.1)⟩, ⟨by repeat (first | (with_reducible first | exact HB.out | apply below_alloc | apply pw_below_drewN | apply below_drew1) | exact HB.out)⟩⟩
        ·rw [if_neg c18] at H
         exact absurd H (by simp)
       ·rw [if_neg c16] at H
        exact absurd H (by simp)
      ·rw [if_neg c14] at H
       have c14b0 : decide (x7_2 ≤ x5_8) = false := decide_eq_false c14
       clear c14
       obtain rfl := Option.some.inj H
       go_wp2
       go_ret
       exact ⟨_, by first | rfl | (simp [errW_none, errW_some] <;> rfl) | (simp [*, errW_none, errW_some] <;> rfl), by (with_reducible repeat (first | apply Kd.N_alloc | apply Kd.N_drewN | apply Kd.N_drew)); exact HO_6.out, by repeat (first | (with_reducible first | exact HB.out | apply below_alloc | apply pw_below_drewN | apply below_drew1) | exact HB.out)⟩

/-! ### spec_AllHeights: function 38 -/
def spec_AllHeights.f (k : Nat) (a0 : Int) : Option ((List (List Int)) × Bool) := (spec_l1In.f a0 0 6).bind fun t135 => (if t135 = true then ((spec_waAll.f k ([] : List Int) a0).bind fun t136 => (some (t136, true))) else (some (([] : List (List Int)), false)))
theorem spec_AllHeights.mono : ∀ a0 k, LeO (spec_AllHeights.f k a0) (spec_AllHeights.f (k + 1) a0) := by
 intro a0 k
 unfold spec_AllHeights.f
 repeat' first
   | (with_reducible exact spec_waAll.mono _ _ _)
   | (with_reducible exact LeO.refl _)
   | (with_reducible exact LeO.none _)
   | (with_reducible refine LeO.ite ?_ ?_)
   | (with_reducible refine LeO.bind ?_ (fun _ => ?_))
   | exact LeO.none _
   | refine LeO.ite ?_ ?_
   | refine LeO.bind ?_ (fun _ => ?_)
set_option maxHeartbeats 8000000 in
set_option maxRecDepth 100000 in
theorem spec_AllHeights.calls (k : Nat) (a0 : Int) (r1 : List (List Int)) (r2 : Bool) (w : World) (h : spec_AllHeights.f k a0 = some (r1, r2)) :
  Calls Try.prog 38 #[.int .i64 a0] w fun e w' => ∃ v0_ : Value, e = .returned (.tuple #[v0_, .bool r2]) ∧ Kd.N (Kd.slice 3 (Kd.int .i64)) 22 w' w.heap.size (fun k_ => (w.heap.size ≤ k_)) v0_ r1 ∧ Below w.heap.size w w' := by
 have HB := Aside0.mk (Below.refl w.heap.size w)
 have H : ((spec_l1In.f a0 0 6).bind fun t135 => (if t135 = true then ((spec_waAll.f k ([] : List Int) a0).bind fun t136 => (some (t136, true))) else (some (([] : List (List Int)), false)))) = some (r1, r2) := h
 clear h
 replace H := Option.bind_eq_some_iff.mp H
 obtain ⟨t135, A20, H⟩ := H
 replace H : (if t135 = true then ((spec_waAll.f k ([] : List Int) a0).bind fun t136 => (some (t136, true))) else (some (([] : List (List Int)), false))) = some (r1, r2) := H
 have A2 := Aside0.mk A20
 clear A20
 by_cases c3 : t135 = true
 ·subst c3
  have H1 : ((spec_waAll.f k ([] : List Int) a0).bind fun t136 => (some (t136, true))) = some (r1, r2) := by rw [if_pos rfl] at H; exact H
  clear H
  have H := H1
  clear H1
  replace H := Option.bind_eq_some_iff.mp H
  obtain ⟨t136, A40, H⟩ := H
  replace H : (some (t136, true)) = some (r1, r2) := H
  have A4 := Aside0.mk A40
  clear A40
  simp only [Option.some.injEq, Prod.mk.injEq] at H
  obtain ⟨rfl, rfl⟩ := H
  go_enter Try.func38, Try.ntmps38
  go_wp2_with (first | ((with_reducible refine gate_callee (f := 88) rfl ?_); refine goesL_ (some 5) rfl rfl Try.func88 (by kernel_rfl) rfl #[.int .i64 a0, .int .i64 0, .int .i64 6] rfl (by (try simp only [List.map_toArray, List.map_cons, List.map_nil]); first | done | rfl | (simp only [List.length_drop, List.length_take]; rfl)) ?_; (with_reducible refine (spec_l1In.calls a0 0 6 true _ A2.out).mono ?_); rintro e w' ⟨rfl, ⟨nd, rfl⟩⟩; refine ⟨_, rfl, ?_⟩) | ((with_reducible refine gate_callee (f := 89) rfl ?_); refine goesL_ (some 8) rfl rfl Try.func89 (by kernel_rfl) rfl #[.slice none 0 0, .int .i64 a0] rfl (by (try simp only [List.map_toArray, List.map_cons, List.map_nil]); first | done | rfl | (simp only [List.length_drop, List.length_take]; rfl)) ?_; (refine (spec_waAll.calls k _ _ ([] : List Int) a0 t136 _ ?side1 ?side2 A4.out).mono ?_); (case side1 => exact Kd.C_nil _ _); (case side2 => exact Nat.le_refl _); rintro e w5 ⟨v137, rfl, ho0, hb⟩; refine ⟨_, rfl, ?_⟩; have n0_ := Aside0.mk (Kd.N_lower (Kd.N_mono (ok' := fun k_ => (w.heap.size ≤ k_)) ho0 (fun k_ hk_ => (Nat.le_trans (below_size (by repeat (first | (with_reducible first | exact HB.out | apply below_alloc | apply pw_below_drewN | apply below_drew1) | exact HB.out))) hk_))) (below_size (by repeat (first | (with_reducible first | exact HB.out | apply below_alloc | apply pw_below_drewN | apply below_drew1) | exact HB.out)))); have n1_ := Aside0.mk (below_step (by repeat (first | (with_reducible first | exact HB.out | apply below_alloc | apply pw_below_drewN | apply below_drew1) | exact HB.out)) hb); clear HB; have HO138 := n0_; have HB := n1_; clear n0_ n1_; (try clear hb); (try clear hb2); (try clear hk); (try clear hi); (try clear ho0)))
  go_ret2
  exact ⟨_, by first | rfl | (simp [errW_none, errW_some] <;> rfl) | (simp [*, errW_none, errW_some] <;> rfl), by (with_reducible repeat (first | apply Kd.N_alloc | apply Kd.N_drewN | apply Kd.N_drew)); exact HO138.out, by repeat (first | (with_reducible first | exact HB.out | apply below_alloc | apply pw_below_drewN | apply below_drew1) | exact HB.out)⟩
 ·replace c3 := Bool.eq_false_iff.mpr c3
  subst c3
  have H1 : (some (([] : List (List Int)), false)) = some (r1, r2) := by rw [if_neg (show ¬ (false = true) by decide)] at H; exact H
  clear H
  have H := H1
  clear H1
  simp only [Option.some.injEq, Prod.mk.injEq] at H
  obtain ⟨rfl, rfl⟩ := H
  go_enter Try.func38, Try.ntmps38
  go_wp2_with (first | ((with_reducible refine gate_callee (f := 88) rfl ?_); refine goesL_ (some 5) rfl rfl Try.func88 (by kernel_rfl) rfl #[.int .i64 a0, .int .i64 0, .int .i64 6] rfl (by (try simp only [List.map_toArray, List.map_cons, List.map_nil]); first | done | rfl | (simp only [List.length_drop, List.length_take]; rfl)) ?_; (with_reducible refine (spec_l1In.calls a0 0 6 false _ A2.out).mono ?_); rintro e w' ⟨rfl, ⟨nd, rfl⟩⟩; refine ⟨_, rfl, ?_⟩))
  go_ret2
  exact ⟨_, by first | rfl | (simp [errW_none, errW_some] <;> rfl) | (simp [*, errW_none, errW_some] <;> rfl), by first | exact Kd.S_nil _ _ _ _ _ | exact Kd.N_nil _ _ _ _ _ | exact Kd.V_nil _ _ _ _ _ | exact Kd.Q_nil _ _ _ _ _ | exact Kd.R_nil _ _ _ _ _, by repeat (first | (with_reducible first | exact HB.out | apply below_alloc | apply pw_below_drewN | apply below_drew1) | exact HB.out)⟩

/-! ### impl_between: function 90 -/
def impl_between.f (a0 : Int) (a1 : Int) (a2 : Int) : Option (Bool) := if a0 ≥ a1 then (some (decide (a0 ≤ a2))) else (some false)
set_option maxHeartbeats 8000000 in
set_option maxRecDepth 100000 in
theorem impl_between.calls (a0 : Int) (a1 : Int) (a2 : Int) (r : Bool) (w : World) (h : impl_between.f a0 a1 a2 = some r) :
    Calls Try.prog 90 #[.int .i64 a0, .int .i64 a1, .int .i64 a2] w fun e w' => e = .returned (.bool r) ∧ Drawn0 w w' := by
  have H : (if a0 ≥ a1 then (some (decide (a0 ≤ a2))) else (some false)) = some r := h
  clear h
  by_cases c4 : a0 ≥ a1
  · rw [if_pos c4] at H
    have c4b0 : decide (a1 ≤ a0) = true := decide_eq_true c4
    clear c4
    obtain rfl := Option.some.inj H
    go_enter Try.func90, Try.ntmps90
    go_wp2
    go_ret
    exact ⟨by first | rfl | (simp; done) | (simp [*]; done), by repeat (first | exact Drawn0.refl _ | apply Drawn0.step)⟩
  · rw [if_neg c4] at H
    have c4b0 : decide (a1 ≤ a0) = false := decide_eq_false c4
    clear c4
    obtain rfl := Option.some.inj H
    go_enter Try.func90, Try.ntmps90
    go_wp2
    go_ret
    exact ⟨by first | rfl | (simp; done) | (simp [*]; done), by repeat (first | exact Drawn0.refl _ | apply Drawn0.step)⟩

/-! ### slices_Clone_int_int: function 102 -/
def slices_Clone_int_int.f (l0 : List Int) : Option (List Int) := (some (([] : List Int) : List Int)).bind fun y139 => (if y139.length + l0.length < 17592186044416 then (some (y139 ++ l0)) else (none))
set_option maxHeartbeats 8000000 in
set_option maxRecDepth 100000 in
theorem slices_Clone_int_int.calls_some (ad0 : Addr) (c0 : Nat) (l0 : List Int) (r : List Int) (w : World) (hr0 : Kd.C (Kd.int .i64) w (some ad0) l0.length l0) (hc0 : l0.length ≤ c0) (h : slices_Clone_int_int.f l0 = some r) :
    Calls Try.prog 102 #[.slice (some ad0) l0.length c0] w fun e w' => ∃ v0_ : Value, e = .returned (v0_) ∧ Kd.R (Kd.int .i64) 3 w' w.heap.size (fun _ => True) v0_ r ∧ Below w.heap.size w w' := by
  have HR0 := Aside0.mk hr0
  have HC0 := Aside0.mk hc0
  clear hr0 hc0
  have HB := Aside0.mk (Below.refl w.heap.size w)
  have H : ((some (([] : List Int) : List Int)).bind fun y139 => (if y139.length + l0.length < 17592186044416 then (some (y139 ++ l0)) else (none))) = some r := h
  clear h
  obtain ⟨y139, hy139⟩ : ∃ y_ : List Int, y_ = (([] : List Int)) := ⟨_, rfl⟩
  replace H : (if y139.length + l0.length < 17592186044416 then (some (y139 ++ l0)) else (none)) = some r := by first | (rw [hy139]; with_reducible exact H) | (have H2_ := (Option.bind_some _ _).symm.trans H; rw [hy139]; with_reducible exact H2_) | (have H2_ := (Option.bind_some _ _).symm.trans H; with_reducible exact H2_) | with_reducible exact H | (rw [hy139]; exact H) | exact H
  have Ny139 := Aside0.mk hy139
  clear hy139
  by_cases c2 : y139.length + l0.length < 17592186044416
  · rw [if_pos c2] at H
    have LMc2 := Aside0.mk c2
    clear c2
    obtain ⟨y142, hy142⟩ : ∃ y_ : List Int, y_ = (y139 ++ l0) := ⟨_, rfl⟩
    replace H : (some y142) = some r := by first | (rw [hy142]; with_reducible exact H) | (have H2_ := (Option.bind_some _ _).symm.trans H; rw [hy142]; with_reducible exact H2_) | (have H2_ := (Option.bind_some _ _).symm.trans H; with_reducible exact H2_) | with_reducible exact H | (rw [hy142]; exact H) | exact H
    have Ny142 := Aside0.mk hy142
    clear hy142
    obtain rfl := Option.some.inj H
    have heq := fun (w_ : World) (n_ c_ : Nat) => Lib.run_eql_slice_nil (P := Try.prog) w_ 22 3 (some ad0) n_ c_ 0 0 Try.underlying22
    go_enter Try.func102, Try.ntmps102
    go_wp2_with (first | ((with_reducible refine gate_dst (N := 5) rfl ?_); refine Kd.R_lit (Kd.int .i64) _ 3 ?hg (N := 5) ?hd (xs := ([] : List Int)) (inner := []) (ok := fun _ => True) (okp := fun _ => True) ?hr ?hp (fun _ hk => hk) trivial (Below.refl _ _) (Nat.le_refl _) (by simp) ?_; (case hd => rfl); (case hg => rfl); (case hr => first | (go_simp; done) | (go_simp; rfl)); (case hp => exact (Reps.none _ _)); intro v140 w3 ho4 hb hg_ hnew_; clear hg_ hnew_; (first | rw [← Ny139.out] at ho4 | (simp only [Int.reduceToNat] at ho4; rw [← Ny139.out] at ho4)); have n0_ := Aside0.mk (Kd.R_lower ho4 (below_size (by repeat (first | (with_reducible first | exact HB.out | apply below_alloc | apply pw_below_drewN | apply below_drew1) | exact HB.out)))); have n1_ := Aside0.mk (below_step (by repeat (first | (with_reducible first | exact HB.out | apply below_alloc | apply pw_below_drewN | apply below_drew1) | exact HB.out)) hb); clear HB; have HO141 := n0_; have HB := n1_; clear n0_ n1_; clear hb ho4) | ((with_reducible refine gate_builtin (b := .append) (xs := #[.tmp 5, .tmp 6]) rfl ?_); at_builtin; refine Kd.R_append_rows (Kd.int .i64) (w0 := w) w.heap.size rfl (.tmp 5) (.tmp 6) 22 3 (.int .i64 0) 8 rfl Try.underlying22 info3 rfl (by decide) (by omega) v140 y139 l0 _ _ _ (fun _ => True) (fun _ => False) rfl rfl ?aO ?aR (fun _ _ h => h) (fun _ h => h.elim) ?aF ?aB ?aS ?aL ?_; (case aR => repeat (first | exact (Kd.C_below HR0.out HB.out) | (with_reducible refine Kd.C_alloc ?_ _) | (with_reducible refine Kd.C_drewN ?_ _) | (with_reducible refine Kd.C_drew ?_))); (case aB => exact (by repeat (first | (with_reducible first | exact HB.out | apply below_alloc | apply pw_below_drewN | apply below_drew1) | exact HB.out))); (case aF => exact (fun _ _ => trivial)); (case aO => exact (by (with_reducible repeat (first | apply Kd.R_alloc | apply Kd.R_drewN | apply Kd.R_drew)); exact HO141.out)); (case aS => exact (below_size (by repeat (first | (with_reducible first | exact HB.out | apply below_alloc | apply pw_below_drewN | apply below_drew1) | exact HB.out)))); (case aL => have := LMc2.out; omega); intro v143 w5 ho hb hg hat; rw [← Ny142.out] at ho; have n0_ := Aside0.mk (hb); have n1_ := Aside0.mk (ho); clear HB; clear HO141; have HB := n0_; have HO144 := n1_; clear n0_ n1_; clear ho hb hg hat))
    go_ret
    exact ⟨_, by first | rfl | (simp [errW_none, errW_some] <;> rfl) | (simp [*, errW_none, errW_some] <;> rfl), by (with_reducible repeat (first | apply Kd.R_alloc | apply Kd.R_drewN | apply Kd.R_drew)); exact HO144.out, by repeat (first | (with_reducible first | exact HB.out | apply below_alloc | apply pw_below_drewN | apply below_drew1) | exact HB.out)⟩
  · rw [if_neg c2] at H
    exact absurd H (by simp)

set_option maxHeartbeats 8000000 in
set_option maxRecDepth 100000 in
theorem slices_Clone_int_int.calls (A0 : Option Addr) (c0 : Nat) (l0 : List Int) (r : List Int) (w : World) (hr0 : Kd.C (Kd.int .i64) w A0 l0.length l0) (hc0 : l0.length ≤ c0) (h : slices_Clone_int_int.f l0 = some r) :
    Calls Try.prog 102 #[.slice A0 l0.length c0] w fun e w' => ∃ v0_ : Value, e = .returned (v0_) ∧ Kd.R (Kd.int .i64) 3 w' w.heap.size (fun _ => True) v0_ r ∧ Below w.heap.size w w' := by
  cases A0 with
  | some ad0 => exact slices_Clone_int_int.calls_some ad0 c0 l0 r w hr0 hc0 h
  | none =>
    have hl : l0 = [] := by
      have h3 := hr0.2.2
      rcases Nat.eq_zero_or_pos l0.length with e | e
      · exact List.length_eq_zero_iff.1 e
      · obtain ⟨ad, e2, _⟩ := h3 e
        cases e2
    subst hl
    have hr : r = [] := by
      unfold slices_Clone_int_int.f at h
      simp only [Option.bind_some] at h
      split at h
      · simpa using h.symm
      · cases h
    subst hr
    clear h hr0 hc0
    have heq := fun (w_ : World) (n_ c_ : Nat) => Lib.run_eql_slice_nil (P := Try.prog) w_ 22 3 none n_ c_ 0 0 Try.underlying22
    go_enter Try.func102, Try.ntmps102
    go_wp2
    go_ret
    exact ⟨_, rfl, Kd.R_nil _ _ _ _ _, Below.refl _ _⟩

/-! ### impl_allHeights: function 91 (all heights, row by row: proved by hand) -/
section
/-- How far the next height goes. -/
def impl_allHeights.most (i : Nat) (list : List Int) : Nat := if 0 < i then (rd list ((i : Int) - 1) + 1).toNat else 0
/-- What goes on behind a list. -/
def impl_allHeights.kids (i : Nat) (list : List Int) : List (List Int) := (List.range (impl_allHeights.most i list + 1)).map fun h : Nat => list ++ [(h : Int)]
theorem impl_allHeights.kids_length (i : Nat) (list : List Int) : (impl_allHeights.kids i list).length = impl_allHeights.most i list + 1 := by simp [impl_allHeights.kids]
theorem impl_allHeights.kids_take (i : Nat) (list : List Int) (h : Nat) (hh : h < impl_allHeights.most i list + 1) : (impl_allHeights.kids i list).take (h + 1) = (impl_allHeights.kids i list).take h ++ [list ++ [(h : Int)]] := by
  rw [List.take_succ_eq_append_getElem (by rw [impl_allHeights.kids_length]; exact hh)]
  congr 1
  simp [impl_allHeights.kids]
theorem impl_allHeights.clone (l : List Int) (h : l.length ≤ 1000) : slices_Clone_int_int.f l = some l := by
  unfold slices_Clone_int_int.f
  simp only [Option.bind_some]
  rw [if_pos (by simp; omega)]
  simp
def impl_allHeights.lv : Nat → List (List Int)
  | 0 => [[]]
  | i + 1 => (impl_allHeights.lv i).flatMap (impl_allHeights.kids i)
def impl_allHeights.okB (i : Nat) : Bool := decide ((impl_allHeights.lv i).length ≤ 132) && (impl_allHeights.lv i).all fun x => decide (x.length = i) && x.all fun y => decide (0 ≤ y) && decide (y ≤ 6)
def impl_allHeights.f (_k : Nat) (a0 : Int) : Option (List (List Int)) := if 0 ≤ a0 ∧ a0 ≤ 6 then some (impl_allHeights.lv a0.toNat) else none
theorem impl_allHeights.mono : ∀ a0 k, LeO (impl_allHeights.f k a0) (impl_allHeights.f (k + 1) a0) := fun _ _ => LeO.refl _
set_option maxRecDepth 100000 in
theorem impl_allHeights.okAll : (List.range 7).all impl_allHeights.okB = true := by decide +kernel
theorem impl_allHeights.small (i : Nat) (hi : i ≤ 6) : (impl_allHeights.lv i).length ≤ 132 ∧ ∀ x ∈ impl_allHeights.lv i, x.length = i ∧ ∀ y ∈ x, 0 ≤ y ∧ y ≤ 6 := by
  have h := List.all_eq_true.1 impl_allHeights.okAll i (List.mem_range.2 (by omega))
  unfold impl_allHeights.okB at h
  simp only [Bool.and_eq_true, decide_eq_true_eq, List.all_eq_true] at h
  exact ⟨h.1, fun x hx => ⟨(h.2 x hx).1, fun y hy => (h.2 x hx).2 y hy⟩⟩
/-- The rows so far, and the ones that are made of them. -/
structure impl_allHeights.AH (w W : World) (n1 : Nat) (vo : Value) (so : List (List Int)) (vn : Value) (sn : List (List Int)) : Prop where
  bel : Below w.heap.size w W
  so : Kd.S (Kd.slice 3 (Kd.int .i64)) 22 W w.heap.size (fun k => k < n1) vo so
  sn : Kd.S (Kd.slice 3 (Kd.int .i64)) 22 W w.heap.size (fun k => n1 ≤ k) vn sn
  l1 : n1 ≤ W.heap.size
theorem impl_allHeights.AH.below {w W W' : World} {n1 : Nat} {vo vn : Value} {so sn : List (List Int)} (h : impl_allHeights.AH w W n1 vo so vn sn) (hb : Below W.heap.size W W') : impl_allHeights.AH w W' n1 vo so vn sn :=
  ⟨h.bel.trans (hb.mono h.bel.size), Kd.S_below h.so hb, Kd.S_below h.sn hb, Nat.le_trans h.l1 hb.size⟩
set_option maxHeartbeats 8000000 in
set_option maxRecDepth 100000 in
theorem impl_allHeights.calls (k : Nat) (a0 : Int) (r : List (List Int)) (w : World) (h : impl_allHeights.f k a0 = some r) :
    Calls Try.prog 91 #[.int .i64 a0] w fun e w' => ∃ v0_ : Value, e = .returned (v0_) ∧ Kd.S (Kd.slice 3 (Kd.int .i64)) 22 w' w.heap.size (fun _ => True) v0_ r ∧ Below w.heap.size w w' := by
  unfold impl_allHeights.f at h
  split at h
  next ha =>
    obtain ⟨n, rfl⟩ := Int.eq_ofNat_of_zero_le ha.1
    obtain rfl := Option.some.inj h
    have hn : n ≤ 6 := by omega
    have HB := Aside0.mk (Below.refl w.heap.size w)
    rw [Int.toNat_natCast]
    clear h ha
    go_enter Try.func91, Try.ntmps91
    go_wp2_with (first
      | ((with_reducible refine gate_dst (N := 10) rfl ?_); refine Kd.R_lit (Kd.int .i64) _ 3 ?hg (N := 10) ?hd (xs := ([] : List Int)) (inner := []) (ok := fun _ => True) (okp := fun _ => True) ?hr ?hp (fun _ hk => hk) trivial (Below.refl _ _) (Nat.le_refl _) (by simp) ?_; (case hd => rfl); (case hg => rfl); (case hr => first | (go_simp; done) | (go_simp; rfl)); (case hp => exact (Reps.none _ _)); intro v10 w1 ho1 hb1 hg_ hn_; clear hg_ hn_; obtain ⟨A10, c10, rfl⟩ := Kd.R_slice ho1; have T1 := Aside0.mk (And.intro ho1 hb1); clear ho1 hb1)
      | ((with_reducible refine gate_dst (N := 11) rfl ?_); refine Kd.S_lits (Kd.slice 3 (Kd.int .i64)) (w0 := w) w.heap.size 22 ?hg (N := 11) ?hd (xs := ([[]] : List (List Int))) (inner := [.slice A10 0 c10]) (ok := fun _ => True) (fun j k => j = 0) ?hr (by simp; rfl) ?hp ?ha (fun _ _ _ => trivial) trivial T1.out.2 T1.out.2.size (by simp) ?_; (case hd => rfl); (case hg => rfl); (case hr => first | (go_simp; done) | (go_simp; rfl)); (case hp => exact fun j x hj => by cases j with | zero => (cases hj; exact Kd.M_row (Kd.R_mono T1.out.1 (fun _ _ => rfl))) | succ j => (simp at hj)); (case ha => exact fun i j k h1 h2 => h1.trans h2.symm); intro v11 w2 ho2 hb2 hg_ hn_; clear hg_ hn_; obtain ⟨A11, c11, rfl⟩ := Kd.S_slice ho2; have T2 := Aside0.mk (And.intro ho2 hb2); clear ho2 hb2 T1))
    go_loopw [3, 13] (fun v3 v13 wr => ∃ (i : Nat), v13 = .int .i64 (i : Int) ∧ i ≤ n ∧ Aside0 (Kd.S (Kd.slice 3 (Kd.int .i64)) 22 wr w.heap.size (fun _ => True) v3 (impl_allHeights.lv i) ∧ Below w.heap.size w wr)) (fun _ v13 _ => n - (intOf v13).toNat)
    case atStart => exact ⟨0, rfl, Nat.zero_le _, T2⟩
    case round =>
      clear T2 HB
      obtain ⟨i, rfl, hin, HX⟩ := hrel
      obtain ⟨A3, c3, rfl⟩ := Kd.S_slice HX.out.1
      by_cases hlt : i < n
      · obtain ⟨hsm1, hsm2⟩ := impl_allHeights.small i (by omega)
        obtain ⟨hsn1, _⟩ := impl_allHeights.small (i + 1) (by omega)
        have HSM := Aside0.mk hsm2
        clear hsm2
        go_wp2_with (first
          | ((with_reducible refine gate_dst (N := 16) rfl ?_); refine Kd.S_lit (Kd.slice 3 (Kd.int .i64)) (w0 := wr) wr.heap.size 22 ?hg (N := 16) ?hd (xs := ([] : List (List Int))) (inner := []) (ok := fun _ => True) (okp := fun _ => True) ?hr ?hp (fun _ hk => hk) trivial (Below.refl _ _) (Nat.le_refl _) (by simp) ?_; (case hd => rfl); (case hg => rfl); (case hr => first | (go_simp; done) | (go_simp; rfl)); (case hp => exact (Reps.none _ _)); intro v16 w3 ho hb hg_ hn_; clear hg_ hn_; have T3 : Aside0 (impl_allHeights.AH w w3 wr.heap.size (.slice A3 (impl_allHeights.lv i).length c3) (impl_allHeights.lv i) v16 []) := ⟨HX.out.2.trans (hb.mono HX.out.2.size), Kd.S_below (Kd.S_mono (Kd.S_bound HX.out.1) (fun _ hk => hk.2.2.1)) hb, Kd.S_lower (Kd.S_mono (Kd.S_bound ho) (fun _ hk => hk.2.1)) HX.out.2.size, hb.size⟩; clear ho hb; obtain ⟨A16, c16, rfl⟩ := Kd.S_slice T3.out.sn))
        obtain ⟨n1, hn1⟩ : ∃ n1, n1 = wr.heap.size := ⟨_, rfl⟩
        rw [← hn1] at T3
        clear hn1
        go_loopw [5, 19] (fun v5 v19 wr2 => ∃ (j : Nat), v19 = .int .i64 (j : Int) ∧ j ≤ (impl_allHeights.lv i).length ∧ Aside0 (impl_allHeights.AH w wr2 n1 (.slice A3 (impl_allHeights.lv i).length c3) (impl_allHeights.lv i) v5 (((impl_allHeights.lv i).take j).flatMap (impl_allHeights.kids i)))) (fun _ v19 _ => (impl_allHeights.lv i).length - (intOf v19).toNat)
        case atStart => exact ⟨0, rfl, Nat.zero_le _, T3⟩
        case round =>
          clear T3 HX
          obtain ⟨j, rfl, hjl, HY⟩ := hrel
          obtain ⟨A5, c5, rfl⟩ := Kd.S_slice HY.out.sn
          by_cases hjt : j < (impl_allHeights.lv i).length
          · have z := HY.out
            obtain ⟨ad, rfl⟩ : ∃ ad, A3 = some ad := by
              obtain ⟨g, cap, hg, _⟩ := Kd.R_form (Kd.S_R z.so) (by omega)
              injection hg with h1
              exact ⟨_, h1⟩
            obtain ⟨g, rfl⟩ := Kd.R_head (Kd.S_R z.so)
            obtain ⟨oki, ce, hcl, hM, hcc, hoki, hH⟩ := Kd.S_lend z.so ([] : List Int) (j : Int) (by omega) (by omega)
            obtain ⟨ve, rfl, hR⟩ := hM
            have hcell := hcc 0 ve rfl
            have hce : wr.cell? ⟨g, j, none⟩ = some ve := by
              rw [← hcell]
              congr 2
              show j = (j : Int).toNat * 1 + 0
              omega
            obtain ⟨row, hrow⟩ : ∃ row, row = (impl_allHeights.lv i).getD (j : Int).toNat [] := ⟨_, rfl⟩
            rw [← hrow] at hR
            have hrow2 : (impl_allHeights.lv i)[j]'hjt = row := by
              rw [hrow, Int.toNat_natCast, List.getD_eq_getElem?_getD, List.getElem?_eq_getElem hjt]
              rfl
            have htk : ((impl_allHeights.lv i).take (j + 1)).flatMap (impl_allHeights.kids i) = ((impl_allHeights.lv i).take j).flatMap (impl_allHeights.kids i) ++ impl_allHeights.kids i row := by
              rw [List.take_succ_eq_append_getElem hjt, List.flatMap_append, hrow2]
              simp
            obtain ⟨hrl, hrb⟩ := HSM.out row (by rw [← hrow2]; exact List.getElem_mem _)
            obtain ⟨Aj, cj, rfl⟩ := Kd.R_slice hR
            have RL := Aside0.mk (Kd.R_mono hR (fun k hk => (hoki k hk).1))
            have HTK := Aside0.mk htk
            have hlen : ∀ h, (((impl_allHeights.lv i).take j).flatMap (impl_allHeights.kids i) ++ (impl_allHeights.kids i row).take h).length ≤ 132 := by
              intro h
              refine Nat.le_trans ?_ hsn1
              have e : impl_allHeights.lv (i + 1) = ((impl_allHeights.lv i).take (j + 1)).flatMap (impl_allHeights.kids i) ++ ((impl_allHeights.lv i).drop (j + 1)).flatMap (impl_allHeights.kids i) := by
                rw [← List.flatMap_append, List.take_append_drop]
                rfl
              rw [e, htk]
              simp only [List.length_append, List.length_take]
              omega
            have HLEN := Aside0.mk hlen
            obtain ⟨mm, hmm⟩ : ∃ mm, mm = impl_allHeights.most i row := ⟨_, rfl⟩
            have hkl : (impl_allHeights.kids i row).length = mm + 1 := by rw [impl_allHeights.kids, hmm]; simp
            have HKL := Aside0.mk hkl
            have HMM := Aside0.mk hmm
            by_cases hi0 : 0 < i
            · obtain ⟨ai, hai, hxc⟩ := Kd.at_int (Kd.R_reads' RL.out).2.2 ((i : Int) - 1) (by omega) (by omega)
              subst hai
              have hxb := hrb (rd row ((i : Int) - 1)) (by
                unfold rd
                rw [List.getD_eq_getElem?_getD, List.getElem?_eq_getElem (by omega)]
                exact List.getElem_mem _)
              have hmx : rd row ((i : Int) - 1) = (mm : Int) - 1 := by
                rw [hmm, impl_allHeights.most, if_pos hi0]
                omega
              have hmm7 : mm ≤ 7 := by omega
              rw [hmx, show ((i : Int) - 1).toNat = i - 1 by omega] at hxc
              have hwi : wrap64 ((i : Int) - 1) = (i : Int) - 1 := by unfold wrap64; omega
              have hwm : wrap64 ((mm : Int) - 1 + 1) = (mm : Int) := by unfold wrap64; omega
              clear hxb hmx hR hcc hcell hcl hoki hH hrow hrow2 htk hlen hkl hmm z hrb
              go_wp2
              have hclone := impl_allHeights.clone row (by omega)
              have HCL := Aside0.mk hclone
              have HLI : Aside0 (impl_allHeights.AH w wr n1 (.slice (some ⟨g, 0, none⟩) (impl_allHeights.lv i).length c3) (impl_allHeights.lv i) (.slice A5 (((impl_allHeights.lv i).take j).flatMap (impl_allHeights.kids i)).length c5) (((impl_allHeights.lv i).take j).flatMap (impl_allHeights.kids i) ++ (impl_allHeights.kids i row).take 0) ∧ Kd.R (Kd.int .i64) 3 wr w.heap.size (fun k => k < n1) (.slice (some ai) row.length cj) row) := ⟨by rw [List.take_zero, List.append_nil]; exact HY.out, RL.out⟩
              clear hclone HY RL hce
              go_loopw [5, 33] (fun v5 v33 wr3 => ∃ (h : Nat), v33 = .int .i64 (h : Int) ∧ h ≤ mm + 1 ∧ Aside0 (impl_allHeights.AH w wr3 n1 (.slice (some ⟨g, 0, none⟩) (impl_allHeights.lv i).length c3) (impl_allHeights.lv i) v5 (((impl_allHeights.lv i).take j).flatMap (impl_allHeights.kids i) ++ (impl_allHeights.kids i row).take h) ∧ Kd.R (Kd.int .i64) 3 wr3 w.heap.size (fun k => k < n1) (.slice (some ai) row.length cj) row)) (fun _ v33 _ => mm + 1 - (intOf v33).toNat)
              case atStart => exact ⟨0, rfl, Nat.zero_le _, HLI⟩
              case round =>
                clear HLI
                obtain ⟨h, rfl, hhm, HZ⟩ := hrel
                obtain ⟨A6, c6, rfl⟩ := Kd.S_slice HZ.out.1.sn
                by_cases hht : h < mm + 1
                · have cC := slices_Clone_int_int.calls (some ai) cj row row wr (Kd.R_reads' HZ.out.2).2.2 (Kd.R_reads' HZ.out.2).2.1 HCL.out
                  rw [hrl] at cC
                  have HCC := Aside0.mk cC
                  obtain ⟨nx, hnx⟩ : ∃ nx, nx = ((impl_allHeights.lv i).take j).flatMap (impl_allHeights.kids i) ++ (impl_allHeights.kids i row).take h := ⟨_, rfl⟩
                  have hnl : nx.length ≤ 132 := by rw [hnx]; exact HLEN.out h
                  have hnx2 : ((impl_allHeights.lv i).take j).flatMap (impl_allHeights.kids i) ++ (impl_allHeights.kids i row).take (h + 1) = nx ++ [row ++ [(h : Int)]] := by
                    rw [impl_allHeights.kids_take i row h (by rw [← HMM.out]; exact hht), ← List.append_assoc, ← hnx]
                  rw [← hnx] at HZ ⊢
                  have HNX := Aside0.mk hnx2
                  clear cC hnx hnx2
                  go_wp2_with (first
                    | (go_at_call 102; refine HCC.out.mono ?_; rintro e W1 ⟨v38, rfl, hR38, hb38⟩; obtain ⟨A38, c38, rfl⟩ := Kd.R_slice hR38; have S1 := Aside0.mk (And.intro hR38 hb38); clear hR38 hb38 HCC; simp only [hrl])
                    | ((with_reducible refine gate_builtin (b := .append) (xs := #[.tmp 38, .tmp 40]) rfl ?_); at_builtin; refine Kd.R_append (Kd.int .i64) (w0 := wr) wr.heap.size rfl (.tmp 38) (.tmp 40) 22 3 (.int .i64 0) 8 rfl Try.underlying22 info3 rfl (by decide) (by omega) (.slice A38 row.length c38) row (h : Int) [.int .i64 (h : Int)] (fun _ => True) (fun _ => False) (by rw [hrl]; rfl) rfl ?aP (fun _ hk => hk.elim) (fun _ _ => trivial) S1.out.1 S1.out.2 S1.out.2.size ?aL ?_; (case aP => rfl); (case aL => omega); intro v41 w5 ho hb hg hat; clear hg hat S1; obtain ⟨A41, c41, rfl⟩ := Kd.R_slice ho; rw [show (row ++ [(h : Int)]).length = i + 1 by simp [hrl]] at ho; have S2 := Aside0.mk (And.intro ho hb); clear ho hb)
                    | ((with_reducible refine gate_builtin (b := .append) (xs := #[.tmp 36, .tmp 42]) rfl ?_); at_builtin; have z := HZ.out.1.below (S2.out.2.mono (Nat.le_refl _)); refine Kd.S_append (Kd.slice 3 (Kd.int .i64)) (w0 := w) w.heap.size rfl (.tmp 36) (.tmp 42) 38 22 (.slice none 0 0) 24 rfl Try.underlying38 info22 rfl (by decide) (by omega) (.slice A6 nx.length c6) nx (row ++ [(h : Int)]) [.slice A41 (i + 1) c41] (fun k_ => n1 ≤ k_) (fun k_ => some k_ = (.slice A41 (i + 1) c41 : Value).ownBlock) rfl rfl ?aP ?aK ?aF ?aO ?aB ?aS ?aL ?_; (case aP => exact Kd.M_row (Kd.R_tight rfl (Kd.R_lower S2.out.1 HZ.out.1.bel.size))); (case aK => exact fun k_ hk => have h1 := Kd.R_base S2.out.1 k_ hk.symm; ⟨Nat.le_trans HZ.out.1.l1 h1, fun e_ => Nat.not_le.2 (Kd.S_lt HZ.out.1.sn k_ e_.symm) h1⟩); (case aF => exact fun k_ hk => Nat.le_trans HZ.out.1.l1 (Nat.le_trans S2.out.2.size hk)); (case aO => exact Kd.S_below (Kd.S_mono (Kd.S_bound HZ.out.1.sn) (fun k_ hk => ⟨hk.1, fun e_ => Nat.not_le.2 hk.2.2.1 (Kd.R_base S2.out.1 k_ e_.symm)⟩)) S2.out.2); (case aB => exact z.bel); (case aS => exact z.bel.size); (case aL => omega); intro v43 w7 ho hb hg hat; have S3 : Aside0 (impl_allHeights.AH w w7 n1 (.slice (some ⟨g, 0, none⟩) (impl_allHeights.lv i).length c3) (impl_allHeights.lv i) v43 (nx ++ [row ++ [(h : Int)]]) ∧ Kd.R (Kd.int .i64) 3 w7 w.heap.size (fun k => k < n1) (.slice (some ai) row.length cj) row) := ⟨⟨hb, Kd.S_grown z.so hg (fun k_ hk e_ => Nat.not_le.2 hk ((Kd.S_R z.sn).1 k_ e_.symm)), ho, Nat.le_trans z.l1 hg.size⟩, Kd.R_grown (Kd.R_below HZ.out.2 S2.out.2) hg (fun k_ hk e_ => Nat.not_le.2 hk ((Kd.S_R z.sn).1 k_ e_.symm))⟩; clear ho hb hg hat z S2 HZ))
                  go_roundw
                  case rel => exact ⟨h + 1, by congr 1, by omega, by rw [HNX.out]; exact S3⟩
                  case measure => first | (simp [intOf]; done) | (simp [intOf]; omega)
                · obtain rfl : h = mm + 1 := by omega
                  have HE3 : Aside0 (impl_allHeights.AH w wr n1 (.slice (some ⟨g, 0, none⟩) (impl_allHeights.lv i).length c3) (impl_allHeights.lv i) (.slice A6 (((impl_allHeights.lv i).take j).flatMap (impl_allHeights.kids i) ++ (impl_allHeights.kids i row).take (mm + 1)).length c6) (((impl_allHeights.lv i).take (j + 1)).flatMap (impl_allHeights.kids i))) := ⟨by have h9 := HZ.out.1; rw [HTK.out]; rw [← HKL.out, List.take_length] at h9 ⊢; exact h9⟩
                  clear HZ
                  go_wp2
                  go_roundw
                  case rel => exact ⟨j + 1, by congr 1, by omega, HE3⟩
                  case measure => first | (simp [intOf]; done) | (simp [intOf]; omega)
            · have HI0 := Aside0.mk hi0
              have hd0 : decide (0 < i) = false := decide_eq_false hi0
              have hmm0 : mm = 0 := by rw [hmm, impl_allHeights.most, if_neg hi0]
              have HM0 := Aside0.mk hmm0
              have hmm7 : mm ≤ 7 := by omega
              clear hR hcc hcell hcl hoki hH hrow hrow2 htk hlen hkl hmm z hrb hmm0 hi0
              go_wp2
              have hclone := impl_allHeights.clone row (by omega)
              have HCL := Aside0.mk hclone
              have HLI : Aside0 (impl_allHeights.AH w wr n1 (.slice (some ⟨g, 0, none⟩) (impl_allHeights.lv i).length c3) (impl_allHeights.lv i) (.slice A5 (((impl_allHeights.lv i).take j).flatMap (impl_allHeights.kids i)).length c5) (((impl_allHeights.lv i).take j).flatMap (impl_allHeights.kids i) ++ (impl_allHeights.kids i row).take 0) ∧ Kd.R (Kd.int .i64) 3 wr w.heap.size (fun k => k < n1) (.slice Aj row.length cj) row) := ⟨by rw [List.take_zero, List.append_nil]; exact HY.out, RL.out⟩
              clear hclone HY RL hce
              go_loopw [5, 33] (fun v5 v33 wr3 => ∃ (h : Nat), v33 = .int .i64 (h : Int) ∧ h ≤ mm + 1 ∧ Aside0 (impl_allHeights.AH w wr3 n1 (.slice (some ⟨g, 0, none⟩) (impl_allHeights.lv i).length c3) (impl_allHeights.lv i) v5 (((impl_allHeights.lv i).take j).flatMap (impl_allHeights.kids i) ++ (impl_allHeights.kids i row).take h) ∧ Kd.R (Kd.int .i64) 3 wr3 w.heap.size (fun k => k < n1) (.slice Aj row.length cj) row)) (fun _ v33 _ => mm + 1 - (intOf v33).toNat)
              case atStart => exact ⟨0, rfl, Nat.zero_le _, HLI⟩
              case round =>
                clear HLI
                obtain ⟨h, rfl, hhm, HZ⟩ := hrel
                obtain ⟨A6, c6, rfl⟩ := Kd.S_slice HZ.out.1.sn
                by_cases hht : h < mm + 1
                · have d1 : decide ((h : Int) < 1) = true := decide_eq_true (by have := HM0.out; omega)
                  have d2 : decide (h < 1) = true := decide_eq_true (by have := HM0.out; omega)
                  have cC := slices_Clone_int_int.calls Aj cj row row wr (Kd.R_reads' HZ.out.2).2.2 (Kd.R_reads' HZ.out.2).2.1 HCL.out
                  rw [hrl] at cC
                  have HCC := Aside0.mk cC
                  obtain ⟨nx, hnx⟩ : ∃ nx, nx = ((impl_allHeights.lv i).take j).flatMap (impl_allHeights.kids i) ++ (impl_allHeights.kids i row).take h := ⟨_, rfl⟩
                  have hnl : nx.length ≤ 132 := by rw [hnx]; exact HLEN.out h
                  have hnx2 : ((impl_allHeights.lv i).take j).flatMap (impl_allHeights.kids i) ++ (impl_allHeights.kids i row).take (h + 1) = nx ++ [row ++ [(h : Int)]] := by
                    rw [impl_allHeights.kids_take i row h (by rw [← HMM.out]; exact hht), ← List.append_assoc, ← hnx]
                  rw [← hnx] at HZ ⊢
                  have HNX := Aside0.mk hnx2
                  clear cC hnx hnx2
                  go_wp2_with (first
                    | (go_at_call 102; refine HCC.out.mono ?_; rintro e W1 ⟨v38, rfl, hR38, hb38⟩; obtain ⟨A38, c38, rfl⟩ := Kd.R_slice hR38; have S1 := Aside0.mk (And.intro hR38 hb38); clear hR38 hb38 HCC; simp only [hrl])
                    | ((with_reducible refine gate_builtin (b := .append) (xs := #[.tmp 38, .tmp 40]) rfl ?_); at_builtin; refine Kd.R_append (Kd.int .i64) (w0 := wr) wr.heap.size rfl (.tmp 38) (.tmp 40) 22 3 (.int .i64 0) 8 rfl Try.underlying22 info3 rfl (by decide) (by omega) (.slice A38 row.length c38) row (h : Int) [.int .i64 (h : Int)] (fun _ => True) (fun _ => False) (by rw [hrl]; rfl) rfl ?aP (fun _ hk => hk.elim) (fun _ _ => trivial) S1.out.1 S1.out.2 S1.out.2.size ?aL ?_; (case aP => rfl); (case aL => omega); intro v41 w5 ho hb hg hat; clear hg hat S1; obtain ⟨A41, c41, rfl⟩ := Kd.R_slice ho; rw [show (row ++ [(h : Int)]).length = i + 1 by simp [hrl]] at ho; have S2 := Aside0.mk (And.intro ho hb); clear ho hb)
                    | ((with_reducible refine gate_builtin (b := .append) (xs := #[.tmp 36, .tmp 42]) rfl ?_); at_builtin; have z := HZ.out.1.below (S2.out.2.mono (Nat.le_refl _)); refine Kd.S_append (Kd.slice 3 (Kd.int .i64)) (w0 := w) w.heap.size rfl (.tmp 36) (.tmp 42) 38 22 (.slice none 0 0) 24 rfl Try.underlying38 info22 rfl (by decide) (by omega) (.slice A6 nx.length c6) nx (row ++ [(h : Int)]) [.slice A41 (i + 1) c41] (fun k_ => n1 ≤ k_) (fun k_ => some k_ = (.slice A41 (i + 1) c41 : Value).ownBlock) rfl rfl ?aP ?aK ?aF ?aO ?aB ?aS ?aL ?_; (case aP => exact Kd.M_row (Kd.R_tight rfl (Kd.R_lower S2.out.1 HZ.out.1.bel.size))); (case aK => exact fun k_ hk => have h1 := Kd.R_base S2.out.1 k_ hk.symm; ⟨Nat.le_trans HZ.out.1.l1 h1, fun e_ => Nat.not_le.2 (Kd.S_lt HZ.out.1.sn k_ e_.symm) h1⟩); (case aF => exact fun k_ hk => Nat.le_trans HZ.out.1.l1 (Nat.le_trans S2.out.2.size hk)); (case aO => exact Kd.S_below (Kd.S_mono (Kd.S_bound HZ.out.1.sn) (fun k_ hk => ⟨hk.1, fun e_ => Nat.not_le.2 hk.2.2.1 (Kd.R_base S2.out.1 k_ e_.symm)⟩)) S2.out.2); (case aB => exact z.bel); (case aS => exact z.bel.size); (case aL => omega); intro v43 w7 ho hb hg hat; have S3 : Aside0 (impl_allHeights.AH w w7 n1 (.slice (some ⟨g, 0, none⟩) (impl_allHeights.lv i).length c3) (impl_allHeights.lv i) v43 (nx ++ [row ++ [(h : Int)]]) ∧ Kd.R (Kd.int .i64) 3 w7 w.heap.size (fun k => k < n1) (.slice Aj row.length cj) row) := ⟨⟨hb, Kd.S_grown z.so hg (fun k_ hk e_ => Nat.not_le.2 hk ((Kd.S_R z.sn).1 k_ e_.symm)), ho, Nat.le_trans z.l1 hg.size⟩, Kd.R_grown (Kd.R_below HZ.out.2 S2.out.2) hg (fun k_ hk e_ => Nat.not_le.2 hk ((Kd.S_R z.sn).1 k_ e_.symm))⟩; clear ho hb hg hat z S2 HZ))
                  go_roundw
                  case rel => exact ⟨h + 1, by congr 1, by omega, by rw [HNX.out]; exact S3⟩
                  case measure => first | (simp [intOf]; done) | (simp [intOf]; omega)
                · obtain rfl : h = mm + 1 := by omega
                  have HE3 : Aside0 (impl_allHeights.AH w wr n1 (.slice (some ⟨g, 0, none⟩) (impl_allHeights.lv i).length c3) (impl_allHeights.lv i) (.slice A6 (((impl_allHeights.lv i).take j).flatMap (impl_allHeights.kids i) ++ (impl_allHeights.kids i row).take (mm + 1)).length c6) (((impl_allHeights.lv i).take (j + 1)).flatMap (impl_allHeights.kids i))) := ⟨by have h9 := HZ.out.1; rw [HTK.out]; rw [← HKL.out, List.take_length] at h9 ⊢; exact h9⟩
                  clear HZ
                  go_wp2
                  go_roundw
                  case rel => exact ⟨j + 1, by congr 1, by omega, HE3⟩
                  case measure => first | (simp [intOf]; done) | (simp [intOf]; omega)
          · obtain rfl : j = (impl_allHeights.lv i).length := by omega
            have HE : Aside0 (Kd.S (Kd.slice 3 (Kd.int .i64)) 22 wr w.heap.size (fun _ => True) (.slice A5 (List.flatMap (impl_allHeights.kids i) (List.take (impl_allHeights.lv i).length (impl_allHeights.lv i))).length c5) (impl_allHeights.lv (i + 1)) ∧ Below w.heap.size w wr) := ⟨by have h9 := HY.out.sn; rw [List.take_length] at h9 ⊢; exact Kd.S_mono h9 (fun _ _ => trivial), HY.out.bel⟩
            clear HY
            go_wp2
            go_roundw
            case rel => exact ⟨i + 1, by congr 1, by omega, HE⟩
            case measure => first | (simp [intOf]; done) | (simp [intOf]; omega)
      · obtain rfl : i = n := by omega
        go_wp2
        go_ret
        exact ⟨_, rfl, HX.out.1, HX.out.2⟩
  next => cases h
end

/-! ### impl_AllHeights: function 39 -/
def impl_AllHeights.f (k : Nat) (a0 : Int) : Option ((List (List Int)) × Bool) := (impl_between.f a0 0 6).bind fun t145 => (if t145 = true then ((impl_allHeights.f k a0).bind fun t146 => (some (t146, true))) else (some (([] : List (List Int)), false)))
theorem impl_AllHeights.mono : ∀ a0 k, LeO (impl_AllHeights.f k a0) (impl_AllHeights.f (k + 1) a0) := by
 intro a0 k
 unfold impl_AllHeights.f
 repeat' first
   | (with_reducible exact impl_allHeights.mono _ _)
   | (with_reducible exact LeO.refl _)
   | (with_reducible exact LeO.none _)
   | (with_reducible refine LeO.ite ?_ ?_)
   | (with_reducible refine LeO.bind ?_ (fun _ => ?_))
   | exact LeO.none _
   | refine LeO.ite ?_ ?_
   | refine LeO.bind ?_ (fun _ => ?_)
set_option maxHeartbeats 8000000 in
set_option maxRecDepth 100000 in
theorem impl_AllHeights.calls (k : Nat) (a0 : Int) (r1 : List (List Int)) (r2 : Bool) (w : World) (h : impl_AllHeights.f k a0 = some (r1, r2)) :
  Calls Try.prog 39 #[.int .i64 a0] w fun e w' => ∃ v0_ : Value, e = .returned (.tuple #[v0_, .bool r2]) ∧ Kd.S (Kd.slice 3 (Kd.int .i64)) 22 w' w.heap.size (fun _ => True) v0_ r1 ∧ Below w.heap.size w w' := by
 have HB := Aside0.mk (Below.refl w.heap.size w)
 have H : ((impl_between.f a0 0 6).bind fun t145 => (if t145 = true then ((impl_allHeights.f k a0).bind fun t146 => (some (t146, true))) else (some (([] : List (List Int)), false)))) = some (r1, r2) := h
 clear h
 replace H := Option.bind_eq_some_iff.mp H
 obtain ⟨t145, A20, H⟩ := H
 replace H : (if t145 = true then ((impl_allHeights.f k a0).bind fun t146 => (some (t146, true))) else (some (([] : List (List Int)), false))) = some (r1, r2) := H
 have A2 := Aside0.mk A20
 clear A20
 by_cases c3 : t145 = true
 ·subst c3
  have H1 : ((impl_allHeights.f k a0).bind fun t146 => (some (t146, true))) = some (r1, r2) := by rw [if_pos rfl] at H; exact H
  clear H
  have H := H1
  clear H1
  replace H := Option.bind_eq_some_iff.mp H
  obtain ⟨t146, A40, H⟩ := H
  replace H : (some (t146, true)) = some (r1, r2) := H
  have A4 := Aside0.mk A40
  clear A40
  simp only [Option.some.injEq, Prod.mk.injEq] at H
  obtain ⟨rfl, rfl⟩ := H
  go_enter Try.func39, Try.ntmps39
  go_wp2_with (first | ((with_reducible refine gate_callee (f := 90) rfl ?_); refine goesL_ (some 5) rfl rfl Try.func90 (by kernel_rfl) rfl #[.int .i64 a0, .int .i64 0, .int .i64 6] rfl (by (try simp only [List.map_toArray, List.map_cons, List.map_nil]); first | done | rfl | (simp only [List.length_drop, List.length_take]; rfl)) ?_; (with_reducible refine (impl_between.calls a0 0 6 true _ A2.out).mono ?_); rintro e w' ⟨rfl, ⟨nd, rfl⟩⟩; refine ⟨_, rfl, ?_⟩) | ((with_reducible refine gate_callee (f := 91) rfl ?_); refine goesL_ (some 8) rfl rfl Try.func91 (by kernel_rfl) rfl #[.int .i64 a0] rfl (by (try simp only [List.map_toArray, List.map_cons, List.map_nil]); first | done | rfl | (simp only [List.length_drop, List.length_take]; rfl)) ?_; (with_reducible refine (impl_allHeights.calls k a0 t146 _ A4.out).mono ?_); rintro e w5 ⟨v147, rfl, ho0, hb⟩; refine ⟨_, rfl, ?_⟩; have n0_ := Aside0.mk (Kd.S_lower ho0 (below_size (by repeat (first | (with_reducible first | exact HB.out | apply below_alloc | apply pw_below_drewN | apply below_drew1) | exact HB.out)))); have n1_ := Aside0.mk (below_step (by repeat (first | (with_reducible first | exact HB.out | apply below_alloc | apply pw_below_drewN | apply below_drew1) | exact HB.out)) hb); clear HB; have HO148 := n0_; have HB := n1_; clear n0_ n1_; (try clear hb); (try clear hb2); (try clear hk); (try clear hi); (try clear ho0)))
  go_ret2
  exact ⟨_, by first | rfl | (simp [errW_none, errW_some] <;> rfl) | (simp [*, errW_none, errW_some] <;> rfl), by (with_reducible repeat (first | apply Kd.S_alloc | apply Kd.S_drewN | apply Kd.S_drew)); exact HO148.out, by repeat (first | (with_reducible first | exact HB.out | apply below_alloc | apply pw_below_drewN | apply below_drew1) | exact HB.out)⟩
 ·replace c3 := Bool.eq_false_iff.mpr c3
  subst c3
  have H1 : (some (([] : List (List Int)), false)) = some (r1, r2) := by rw [if_neg (show ¬ (false = true) by decide)] at H; exact H
  clear H
  have H := H1
  clear H1
  simp only [Option.some.injEq, Prod.mk.injEq] at H
  obtain ⟨rfl, rfl⟩ := H
  go_enter Try.func39, Try.ntmps39
  go_wp2_with (first | ((with_reducible refine gate_callee (f := 90) rfl ?_); refine goesL_ (some 5) rfl rfl Try.func90 (by kernel_rfl) rfl #[.int .i64 a0, .int .i64 0, .int .i64 6] rfl (by (try simp only [List.map_toArray, List.map_cons, List.map_nil]); first | done | rfl | (simp only [List.length_drop, List.length_take]; rfl)) ?_; (with_reducible refine (impl_between.calls a0 0 6 false _ A2.out).mono ?_); rintro e w' ⟨rfl, ⟨nd, rfl⟩⟩; refine ⟨_, rfl, ?_⟩))
  go_ret2
  exact ⟨_, by first | rfl | (simp [errW_none, errW_some] <;> rfl) | (simp [*, errW_none, errW_some] <;> rfl), by first | exact Kd.S_nil _ _ _ _ _ | exact Kd.N_nil _ _ _ _ _ | exact Kd.V_nil _ _ _ _ _ | exact Kd.Q_nil _ _ _ _ _ | exact Kd.R_nil _ _ _ _ _, by repeat (first | (with_reducible first | exact HB.out | apply below_alloc | apply pw_below_drewN | apply below_drew1) | exact HB.out)⟩

/-! ### What is told of the rows of rows of a law: what the reference made, what came in, what was made -/
section
structure SSF (w W : World) (n2 n3 n4 : Nat) (vw : Value) (s : List (List Int)) (vx : Value) (lx : List Int) (vy : Value) (ly : List Int) (vg : Value) (sg : List (List Int)) : Prop where
  bel : Below w.heap.size w W
  sw : Kd.N (Kd.slice 3 (Kd.int .i64)) 22 W w.heap.size (fun k => k < n2) vw s
  rx : Kd.R (Kd.int .i64) 3 W w.heap.size (fun k => (n2 ≤ k ∧ k < n3) ∧ some k ≠ vy.ownBlock) vx lx
  ry : Kd.R (Kd.int .i64) 3 W w.heap.size (fun k => (n2 ≤ k ∧ k < n3) ∧ some k ≠ vx.ownBlock) vy ly
  sg : Kd.S (Kd.slice 3 (Kd.int .i64)) 22 W w.heap.size (fun k => n3 ≤ k ∧ k < n4) vg sg
  l23 : n2 ≤ n3
  l34 : n3 ≤ n4
  l4 : n4 ≤ W.heap.size
theorem SSF.below {w W W' : World} {n2 n3 n4 : Nat} {vw vx vy vg : Value} {s sg : List (List Int)} {lx ly : List Int} (h : SSF w W n2 n3 n4 vw s vx lx vy ly vg sg) (hb : Below W.heap.size W W') : SSF w W' n2 n3 n4 vw s vx lx vy ly vg sg :=
  ⟨h.bel.trans (hb.mono h.bel.size), Kd.N_below h.sw hb, Kd.R_below h.rx hb, Kd.R_below h.ry hb, Kd.S_below h.sg hb, h.l23, h.l34, Nat.le_trans h.l4 hb.size⟩
theorem SSF.start {w W1 W2 : World} {v : Value} {s : List (List Int)} {ok : Nat → Prop} (b1 : Below w.heap.size w W1) (b2 : Below W1.heap.size W1 W2) (hS : Kd.N (Kd.slice 3 (Kd.int .i64)) 22 W2 W1.heap.size ok v s) :
    SSF w W2 W2.heap.size W2.heap.size W2.heap.size v s (.slice none 0 0) [] (.slice none 0 0) [] (.slice none 0 0) [] :=
  ⟨b1.trans (b2.mono b1.size), Kd.N_lower (Kd.N_mono (Kd.N_bound hS) (fun _ hk => hk.2)) b1.size, Kd.R_nil _ _ _ _ _, Kd.R_nil _ _ _ _ _, Kd.S_nil _ _ _ _ _, Nat.le_refl _, Nat.le_refl _, Nat.le_refl _⟩
theorem SSF.x {w W W' : World} {n2 n3 n4 : Nat} {vw v : Value} {s : List (List Int)} {l : List Int} {ok : Nat → Prop} (h : SSF w W n2 n3 n4 vw s (.slice none 0 0) [] (.slice none 0 0) [] (.slice none 0 0) []) (hb : Below W.heap.size W W') (hR : Kd.R (Kd.int .i64) 3 W' W.heap.size ok v l) :
    SSF w W' n2 W'.heap.size W'.heap.size vw s v l (.slice none 0 0) [] (.slice none 0 0) [] :=
  ⟨h.bel.trans (hb.mono h.bel.size), Kd.N_below h.sw hb, Kd.R_lower (Kd.R_mono (Kd.R_bound hR) (fun k hk => ⟨⟨by have := h.l23; have := h.l34; have := h.l4; have := hk.2.1; omega, hk.2.2.1⟩, by simp [Value.ownBlock]⟩)) h.bel.size, Kd.R_nil _ _ _ _ _, Kd.S_nil _ _ _ _ _, by have := h.l23; have := h.l34; have := h.l4; have := hb.size; omega, Nat.le_refl _, Nat.le_refl _⟩
theorem SSF.xy {w W W' : World} {n2 n3 n4 : Nat} {vw v0 v1 : Value} {s : List (List Int)} {l m : List Int} (h : SSF w W n2 n3 n4 vw s (.slice none 0 0) [] (.slice none 0 0) [] (.slice none 0 0) []) (hb : Below W.heap.size W W') (hR : Kd.R (Kd.int .i64) 3 W' W.heap.size (fun k_ => some k_ ≠ v1.ownBlock) v0 l) (hR2 : Kd.R (Kd.int .i64) 3 W' W.heap.size (fun k_ => some k_ ≠ v0.ownBlock) v1 m) :
    SSF w W' n2 W'.heap.size W'.heap.size vw s v0 l v1 m (.slice none 0 0) [] :=
  ⟨h.bel.trans (hb.mono h.bel.size), Kd.N_below h.sw hb, Kd.R_lower (Kd.R_mono (Kd.R_bound hR) (fun k hk => ⟨⟨by have := h.l23; have := h.l34; have := h.l4; have := hk.2.1; omega, hk.2.2.1⟩, hk.1⟩)) h.bel.size, Kd.R_lower (Kd.R_mono (Kd.R_bound hR2) (fun k hk => ⟨⟨by have := h.l23; have := h.l34; have := h.l4; have := hk.2.1; omega, hk.2.2.1⟩, hk.1⟩)) h.bel.size, Kd.S_nil _ _ _ _ _, by have := h.l23; have := h.l34; have := h.l4; have := hb.size; omega, Nat.le_refl _, Nat.le_refl _⟩
theorem SSF.g {w W W' : World} {n2 n3 n4 : Nat} {vw vx vy v : Value} {s sg : List (List Int)} {lx ly : List Int} {ok : Nat → Prop} (h : SSF w W n2 n3 n4 vw s vx lx vy ly (.slice none 0 0) []) (hb : Below W.heap.size W W') (hS : Kd.S (Kd.slice 3 (Kd.int .i64)) 22 W' W.heap.size ok v sg) :
    SSF w W' n2 n3 W'.heap.size vw s vx lx vy ly v sg :=
  ⟨h.bel.trans (hb.mono h.bel.size), Kd.N_below h.sw hb, Kd.R_below h.rx hb, Kd.R_below h.ry hb, Kd.S_lower (Kd.S_mono (Kd.S_bound hS) (fun k hk => ⟨by have := h.l34; have := h.l4; have := hk.2.1; omega, hk.2.2.1⟩)) h.bel.size, h.l23, by have := h.l34; have := h.l4; have := hb.size; omega, Nat.le_refl _⟩
theorem SSF.markx {w W W' : World} {n2 n3 n4 : Nat} {vw vx vy vg : Value} {s sg : List (List Int)} {lx ly : List Int} {P : Nat → Prop} (h : SSF w W n2 n3 n4 vw s vx lx vy ly vg sg) (hb : Below w.heap.size w W') (hk : Kept W W' P) (hP : ∀ k, P k → n2 ≤ k ∧ k < n3) :
    SSF w W' n2 n3 n4 vw s (.slice none 0 0) [] (.slice none 0 0) [] vg sg :=
  ⟨hb, Kd.N_kept h.sw hk (fun k h1 h2 => by have := hP k h2; omega), Kd.R_nil _ _ _ _ _, Kd.R_nil _ _ _ _ _, Kd.S_kept h.sg hk (fun k h1 h2 => by have := hP k h2; omega), h.l23, h.l34, Nat.le_trans h.l4 hk.1⟩
theorem SSF.markg {w W W' : World} {n2 n3 n4 : Nat} {vw vg : Value} {s sg sg' : List (List Int)} (h : SSF w W n2 n3 n4 vw s (.slice none 0 0) [] (.slice none 0 0) [] vg sg) (hb : Below w.heap.size w W') (hk : Kept W W' (fun k => n3 ≤ k ∧ k < n4)) (hS : Kd.S (Kd.slice 3 (Kd.int .i64)) 22 W' w.heap.size (fun k_ => (n3 ≤ k_ ∧ k_ < n4) ∨ W.heap.size ≤ k_) vg sg') :
    SSF w W' n2 n3 W'.heap.size vw s (.slice none 0 0) [] (.slice none 0 0) [] vg sg' :=
  ⟨hb, Kd.N_kept h.sw hk (fun k h1 h2 => by have := h.l23; omega), Kd.R_nil _ _ _ _ _, Kd.R_nil _ _ _ _ _, Kd.S_mono (Kd.S_bound hS) (fun k h1 => ⟨by have := h.l34; have := h.l4; omega, h1.2.2.1⟩), h.l23, by have := h.l34; have := h.l4; have := hk.1; omega, Nat.le_refl _⟩
end
/-! ### laws_FnExactAllHeights: function 9 (proved by hand) -/
section
def laws_FnExactAllHeights.ok (k : Nat) (a0 : Int) : Prop := ∃ (s : List (List Int)) (b : Bool) (m2 : Int) (s' : List (List Int)), spec_AllHeights.f k a0 = some (s, b) ∧ impl_AllHeights.f k a0 = some (s, b) ∧ laws_eqIntSS.f k s s = some true ∧ laws_markIntSS.f k s 1 = some (m2, s') ∧ laws_heldIntSS.f k s' 1 = some m2 ∧ 0 ≤ m2
open Classical in
noncomputable def laws_FnExactAllHeights.f (k : Nat) (a0 : Int) : Option Bool := if laws_FnExactAllHeights.ok k a0 then some true else none
set_option maxHeartbeats 8000000 in
set_option maxRecDepth 100000 in
theorem laws_FnExactAllHeights.calls (k : Nat) (a0 : Int) (r : Bool) (w : World) (h : laws_FnExactAllHeights.f k a0 = some r) :
    Calls Try.prog 9 #[.int .i64 a0] w fun e w' => e = .returned (.bool r) ∧ Below w.heap.size w w' := by
  unfold laws_FnExactAllHeights.f at h
  split at h
  next hor =>
    obtain rfl := Option.some.inj h
    obtain ⟨s, b, m2, s', h1, h2, h5, h7, h8, hm2⟩ := hor
    have hs' : s'.length = s.length := by
      unfold laws_markIntSS.f at h7
      split at h7
      · exact laws_markIntSS.g_length k _ _ _ _ h7
      · cases h7
    have H1 := Aside0.mk h1; have H2 := Aside0.mk h2; have H5 := Aside0.mk h5; have H7 := Aside0.mk h7; have H8 := Aside0.mk h8; have HL := Aside0.mk hs'
    have d2 : decide (m2 < 0) = false := decide_eq_false (by omega)
    have S1 := Aside0.mk (Below.refl w.heap.size w)
    clear h h1 h2 h5 h7 h8 hs' hm2
    go_enter Try.func9, Try.ntmps9
    go_wp2_with (first
      | (go_at_call 38; have z := S1.out; clear S1; refine (spec_AllHeights.calls k a0 s b _ H1.out).mono ?_; rintro e W2 ⟨v2, rfl, hS2, hb2⟩; obtain ⟨A2, c2, rfl⟩ := Kd.N_slice hS2; have S3 := Aside0.mk (SSF.start z hb2 hS2); clear z hS2 hb2)
      | (go_at_call 39; have z := S3.out; clear S3; refine (impl_AllHeights.calls k a0 s b _ H2.out).mono ?_; rintro e W4 ⟨v4, rfl, hS4, hb4⟩; obtain ⟨A4, c4, rfl⟩ := Kd.S_slice hS4; have S4 := Aside0.mk (z.g hb4 hS4); clear z hS4 hb4)
      | (go_at_call 33; have z := S4.out; clear S4; refine (laws_eqIntSS.calls k _ _ s _ _ s true _ (Kd.S_reads' z.sg).2.2 (Kd.S_reads' z.sg).2.1 (Kd.N_reads' z.sw).2.2 (Kd.N_reads' z.sw).2.1 H5.out).mono ?_; rintro e W5 ⟨rfl, hd⟩; have S9 := Aside0.mk (z.below hd.below); clear z hd)
      | (go_at_call 34; have z := S9.out; clear S9; refine (laws_markIntSS.calls k _ _ s 1 m2 s' w _ z.bel z.sg H7.out).mono ?_; rintro e W10 ⟨rfl, hS10, hb10, hk10⟩; have S10 := Aside0.mk (z.markg hb10 hk10 hS10); clear z hS10 hb10 hk10)
      | (go_at_call 35; have z := S10.out; clear S10; have cH := laws_heldIntSS.calls k _ _ s' 1 m2 _ (Kd.S_reads' z.sg).2.2 (HL.out ▸ (Kd.S_reads' z.sg).2.1) H8.out; rw [HL.out] at cH; refine cH.mono ?_; rintro e W11 ⟨rfl, hd⟩; have S12 := Aside0.mk (z.below hd.below); clear z hd cH)
      | (go_at_call 39; have z := S12.out; clear S12; refine (impl_AllHeights.calls k a0 s b _ H2.out).mono ?_; rintro e W13 ⟨v13, rfl, hS13, hb13⟩; obtain ⟨A13, c13, rfl⟩ := Kd.S_slice hS13; have S13 := Aside0.mk (And.intro (z.below hb13) hS13); clear z hS13 hb13)
      | (go_at_call 33; have z := S13.out; clear S13; refine (laws_eqIntSS.calls k _ _ s _ _ s true _ (Kd.S_reads' z.2).2.2 (Kd.S_reads' z.2).2.1 (Kd.N_reads' z.1.sw).2.2 (Kd.N_reads' z.1.sw).2.1 H5.out).mono ?_; rintro e W14 ⟨rfl, hd⟩; have S14 := Aside0.mk (z.1.below hd.below); clear z hd)
      | (go_at_call 35; have z := S14.out; clear S14; have cH := laws_heldIntSS.calls k _ _ s' 1 m2 _ (Kd.S_reads' z.sg).2.2 (HL.out ▸ (Kd.S_reads' z.sg).2.1) H8.out; rw [HL.out] at cH; refine cH.mono ?_; rintro e W15 ⟨rfl, hd⟩; have S15 := Aside0.mk (z.below hd.below); clear z hd cH))
    go_ret
    exact ⟨by first | rfl | simp, S15.out.bel⟩
  next => cases h
end
/-- THE ONE PURE STATEMENT of laws_FnExactAllHeights: yours. -/
def laws_FnExactAllHeights.Pure : Prop := ∀ (a0 : Int), (Lit.int .i64 a0).wf = true → ∃ k, laws_FnExactAllHeights.f k a0 = some true
theorem laws_FnExactAllHeights.walk (P : laws_FnExactAllHeights.Pure) (a0 : Int) (w : World) (w0 : (Lit.int .i64 a0).wf = true) :
    Calls Try.prog 9 #[.int .i64 a0] w fun e w' => e = .returned (.bool true) ∧ Below w.heap.size w w' := by
  obtain ⟨k, h⟩ := P a0 w0
  refine (laws_FnExactAllHeights.calls k a0 true w h).mono ?_
  rintro e w' ⟨rfl, hd⟩
  exact ⟨rfl, hd⟩

end Go.Proofs.Ytmollfkakalagaa.PFnExactAllHeights
