-- Written by a program of this session for this claim (its own turn of the print).
import Derived.Test.YtmollfkakalagaaPFnHeightsTurnedx0
import Derived.Test.YtmollfkakalagaaPFnHeightsTurnedx1
import Derived.Test.YtmollfkakalagaaPFnHeightsTurnedx2
namespace Go.Proofs.Ytmollfkakalagaa.PFnHeightsTurned
open Go.RowKit Go.Proofs.YtmollfkakalagaaW.PrintWords Go.Proofs.YtmollfkakalagaaW.PrintLast Go.Proofs.YtmollfkakalagaaW.PrintMore
attribute [local go_sem] max2_int min2_int max_two min_two max_three min_three max_four min_four   -- for this text's walks alone
set_option linter.unusedVariables false
set_option linter.unusedSimpArgs false

/-! ### spec_waPath: function 73 -/
mutual
def spec_waPath.l0 : Nat → List Int → List Bool → Int → List Int → Int → Int → Option (List Bool)
 | 0, _, _, _, _, _, _ => none
 | k + 1, x0, x3, x4, x7, x8, x9 => if x9 < x8 then (if 0 ≤ x9 then (if x9 < (x7.length : Int) then (spec_waPath.l1 k x0 x3 x4 x9 (rd x7 x9) x7 x8 x9) else (none)) else (none)) else (spec_waPath.l2 k x0 x3 x4)
def spec_waPath.l1 : Nat → List Int → List Bool → Int → Int → Int → List Int → Int → Int → Option (List Bool)
 | 0, _, _, _, _, _, _, _, _ => none
 | k + 1, x0, x3, x4, x5, x6, x7, x8, x9 => if x4 < (wrap64 (x5 - x6)) then (if x3.length < 140737488355328 then (spec_waPath.l1 k x0 (x3 ++ [false]) (wrap64 (x4 + 1)) x5 x6 x7 x8 x9) else (none)) else (if x3.length < 140737488355328 then (spec_waPath.l0 k x0 (x3 ++ [true]) x4 x7 x8 (wrap64 (x9 + 1))) else (none))
def spec_waPath.l2 : Nat → List Int → List Bool → Int → Option (List Bool)
 | 0, _, _, _ => none
 | k + 1, x0, x3, x4 => if x4 < (x0.length : Int) then (if x3.length < 140737488355328 then (spec_waPath.l2 k x0 (x3 ++ [false]) (wrap64 (x4 + 1))) else (none)) else (some x3)
end
def spec_waPath.f (k : Nat) (l0 : List Int) : Option (List Bool) := spec_waPath.l0 k l0 ([] : List Bool) 0 l0 (l0.length : Int) 0
theorem spec_waPath.mono_l : ∀ k, (∀ y0 y1 y2 y3 y4 y5, LeO (spec_waPath.l0 k y0 y1 y2 y3 y4 y5) (spec_waPath.l0 (k + 1) y0 y1 y2 y3 y4 y5)) ∧ (∀ y0 y1 y2 y3 y4 y5 y6 y7, LeO (spec_waPath.l1 k y0 y1 y2 y3 y4 y5 y6 y7) (spec_waPath.l1 (k + 1) y0 y1 y2 y3 y4 y5 y6 y7)) ∧ (∀ y0 y1 y2, LeO (spec_waPath.l2 k y0 y1 y2) (spec_waPath.l2 (k + 1) y0 y1 y2))
 | 0 => ⟨fun _ _ _ _ _ _ r h => by simp [spec_waPath.l0] at h, fun _ _ _ _ _ _ _ _ r h => by simp [spec_waPath.l1] at h, fun _ _ _ r h => by simp [spec_waPath.l2] at h⟩
 | k + 1 => by
  obtain ⟨ih0, ih1, ih2⟩ := spec_waPath.mono_l k
  refine ⟨?_, ?_, ?_⟩
  ·intro y0 y1 y2 y3 y4 y5
   unfold spec_waPath.l0
   repeat' first
   | (with_reducible exact ih0 _ _ _ _ _ _)
   | (with_reducible exact ih1 _ _ _ _ _ _ _ _)
   | (with_reducible exact ih2 _ _ _)
   | (with_reducible exact LeO.refl _)
   | (with_reducible exact LeO.none _)
   | (with_reducible refine LeO.ite ?_ ?_)
   | (with_reducible refine LeO.bind ?_ (fun _ => ?_))
   | exact LeO.none _
   | refine LeO.ite ?_ ?_
   | refine LeO.bind ?_ (fun _ => ?_)
  ·intro y0 y1 y2 y3 y4 y5 y6 y7
   unfold spec_waPath.l1
   repeat' first
   | (with_reducible exact ih0 _ _ _ _ _ _)
   | (with_reducible exact ih1 _ _ _ _ _ _ _ _)
   | (with_reducible exact ih2 _ _ _)
   | (with_reducible exact LeO.refl _)
   | (with_reducible exact LeO.none _)
   | (with_reducible refine LeO.ite ?_ ?_)
   | (with_reducible refine LeO.bind ?_ (fun _ => ?_))
   | exact LeO.none _
   | refine LeO.ite ?_ ?_
   | refine LeO.bind ?_ (fun _ => ?_)
  ·intro y0 y1 y2
   unfold spec_waPath.l2
   repeat' first
   | (with_reducible exact ih0 _ _ _ _ _ _)
   | (with_reducible exact ih1 _ _ _ _ _ _ _ _)
   | (with_reducible exact ih2 _ _ _)
   | (with_reducible exact LeO.refl _)
   | (with_reducible exact LeO.none _)
   | (with_reducible refine LeO.ite ?_ ?_)
   | (with_reducible refine LeO.bind ?_ (fun _ => ?_))
   | exact LeO.none _
   | refine LeO.ite ?_ ?_
   | refine LeO.bind ?_ (fun _ => ?_)
theorem spec_waPath.mono : ∀ a0 k, LeO (spec_waPath.f k a0) (spec_waPath.f (k + 1) a0) := by
 intro a0 k
 obtain ⟨ih0, ih1, ih2⟩ := spec_waPath.mono_l k
 unfold spec_waPath.f
 repeat' first
   | (with_reducible exact ih0 _ _ _ _ _ _)
   | (with_reducible exact ih1 _ _ _ _ _ _ _ _)
   | (with_reducible exact ih2 _ _ _)
   | (with_reducible exact LeO.refl _)
   | (with_reducible exact LeO.none _)
   | (with_reducible refine LeO.ite ?_ ?_)
   | (with_reducible refine LeO.bind ?_ (fun _ => ?_))
   | exact LeO.none _
   | refine LeO.ite ?_ ?_
   | refine LeO.bind ?_ (fun _ => ?_)
set_option maxHeartbeats 8000000 in
set_option maxRecDepth 100000 in
theorem spec_waPath.calls (k : Nat) (A0 : Option Addr) (c0 : Nat) (l0 : List Int) (r : List Bool) (w : World) (hr0 : Kd.C (Kd.int .i64) w A0 l0.length l0) (hc0 : l0.length ≤ c0) (h : spec_waPath.f k l0 = some r) :
  Calls Try.prog 73 #[.slice A0 l0.length c0] w fun e w' => ∃ v0_ : Value, e = .returned (v0_) ∧ Kd.R Kd.bool 4 w' w.heap.size (fun _ => True) v0_ r ∧ Below w.heap.size w w' := by
 have HR0 := Aside0.mk hr0
 have HC0 := Aside0.mk hc0
 clear hr0 hc0
 have HB := Aside0.mk (Below.refl w.heap.size w)
 have H : (spec_waPath.l0 k l0 ([] : List Bool) 0 l0 (l0.length : Int) 0) = some r := h
 clear h
 have H' := Aside0.mk H
 clear H
 go_enter Try.func73, Try.ntmps73
 go_wp2
 go_loopg [3, 4, 9] k (fun kq v3 v4 v9 w' => ∃ (x3_1 : List Bool) (x4_1 : Int) (x9_1 : Int), v4 = .int .i64 x4_1 ∧ v9 = .int .i64 x9_1 ∧ Aside0 (spec_waPath.l0 kq l0 x3_1 x4_1 l0 (l0.length : Int) x9_1 = some r) ∧ Aside0 (kq ≤ k) ∧ Aside0 (Kd.R Kd.bool 4 w' w.heap.size (fun _ => True) v3 x3_1) ∧ Aside0 (Below w.heap.size w w'))
 case atStart => exact ⟨(([] : List Bool)), (0), (0), (by first | rfl | (simp; done) | (simp [*]; done)), (by first | rfl | (simp; done) | (simp [*]; done)), H', ⟨Nat.le_refl _⟩, ⟨by first | exact Kd.R_nil _ _ _ _ _ | exact Kd.N_nil _ _ _ _ _ | exact Kd.V_nil _ _ _ _ _ | exact Kd.Q_nil _ _ _ _ _ | exact Kd.S_nil _ _ _ _ _⟩, ⟨by repeat (first | (with_reducible first | exact HB.out | apply below_alloc | apply pw_below_drewN | apply below_drew1) | exact HB.out)⟩⟩
 case round =>
  clear H'
  obtain ⟨x3_1, x4_1, x9_1, rfl, rfl, HA, HK1, HO_3, HB⟩ := hrel
  cases gk with
  | zero => exact absurd HA.out (by simp [spec_waPath.l0])
  | succ k1 =>
   have H := HA.out
   clear HA
   simp only [spec_waPath.l0] at H
   by_cases c2 : x9_1 < (l0.length : Int)
   ·rw [if_pos c2] at H
    have c2b0 : decide (x9_1 < (l0.length : Int)) = true := decide_eq_true c2
    clear c2
    by_cases c3 : 0 ≤ x9_1
    ·rw [if_pos c3] at H
     have c3b0 : decide (0 ≤ x9_1) = true := decide_eq_true c3
     clear c3
     by_cases c4 : x9_1 < (l0.length : Int)
     ·rw [if_pos c4] at H
      have c4b0 : decide (x9_1 < (l0.length : Int)) = true := decide_eq_true c4
      clear c4
      have H' := Aside0.mk H
      clear H
      have p137 : 0 ≤ (x9_1 : Int) := of_decide_eq_true (by first | (with_reducible assumption) | assumption)
      have q137 : x9_1 < (l0.length : Int) := of_decide_eq_true (by first | (with_reducible assumption) | assumption)
      obtain ⟨ad137, e137, hx137_0⟩ := Kd.at_int HR0.out x9_1 p137 q137
      cases e137
      replace hx137_0 := (HB.out.cell (World.block_lt_of_cell? w _ hx137_0)).trans hx137_0
      replace p137 := eq_true p137
      replace q137 := eq_true q137
      go_wp2
      go_loopg [3, 4] k1 (fun kq v3 v4 w' => ∃ (x3_2 : List Bool) (x4_2 : Int), v4 = .int .i64 x4_2 ∧ Aside0 (spec_waPath.l1 kq l0 x3_2 x4_2 x9_1 (rd l0 x9_1) l0 (l0.length : Int) x9_1 = some r) ∧ Aside0 (kq ≤ k1) ∧ Aside0 (Kd.R Kd.bool 4 w' w.heap.size (fun _ => True) v3 x3_2) ∧ Aside0 (Below w.heap.size w w'))
      case atStart => exact ⟨(x3_1), (x4_1), (by first | rfl | (simp; done) | (simp [*]; done)), H', ⟨Nat.le_refl _⟩, ⟨by (with_reducible repeat (first | apply Kd.R_alloc | apply Kd.R_drewN | apply Kd.R_drew)); exact HO_3.out⟩, ⟨by repeat (first | (with_reducible first | exact HB.out | apply below_alloc | apply pw_below_drewN | apply below_drew1) | exact HB.out)⟩⟩
      case round =>
       clear H'
       try clear p1
       try clear q1
       try clear hx1
       try clear c2
       try clear c2b0
       try clear p2
       try clear c3
       try clear c3b0
       try clear c4
       try clear c4b0
       try clear hx137_0
       try clear p137
       try clear q137
       obtain ⟨x3_2, x4_2, rfl, HA, HK2, HO_3, HB⟩ := hrel
       cases gk with
       | zero => exact absurd HA.out (by simp [spec_waPath.l1])
       | succ k2 =>
        have H := HA.out
        clear HA
        simp only [spec_waPath.l1] at H
        by_cases c5 : x4_2 < (wrap64 (x9_1 - (rd l0 x9_1)))
        ·rw [if_pos c5] at H
         have c5b0 : decide (x4_2 < (wrap64 (x9_1 - (rd l0 x9_1)))) = true := decide_eq_true c5
         clear c5
         by_cases c6 : x3_2.length < 140737488355328
         ·rw [if_pos c6] at H
          have LMc6 := Aside0.mk c6
          clear c6
          obtain ⟨y138, hy138⟩ : ∃ y_ : List Bool, y_ = (x3_2 ++ [false]) := ⟨_, rfl⟩
          replace H : (spec_waPath.l1 k2 l0 y138 (wrap64 (x4_2 + 1)) x9_1 (rd l0 x9_1) l0 (l0.length : Int) x9_1) = some r := by first | (rw [hy138]; with_reducible exact H) | (have H2_ := (Option.bind_some _ _).symm.trans H; rw [hy138]; with_reducible exact H2_) | (have H2_ := (Option.bind_some _ _).symm.trans H; with_reducible exact H2_) | with_reducible exact H | (rw [hy138]; exact H) | exact H
          have Ny138 := Aside0.mk hy138
          clear hy138
          have H' := Aside0.mk H
          clear H
          go_wp2_with (first | ((with_reducible refine gate_builtin (b := .append) (xs := #[.tmp 19, .tmp 20]) rfl ?_); at_builtin; refine Kd.R_append Kd.bool (w0 := w) w.heap.size rfl (.tmp 19) (.tmp 20) 58 4 (.bool false) 1 rfl Try.underlying58 info4 rfl (by decide) (by omega) u3 x3_2 false [.bool false] (fun _ => True) (fun _ => False) rfl rfl ?aP (fun _ hk => hk.elim) ?aF ?aO ?aB ?aS ?aL ?_; (case aP => exact rfl); (case aB => exact (by repeat (first | (with_reducible first | exact HB.out | apply below_alloc | apply pw_below_drewN | apply below_drew1) | exact HB.out))); (case aF => exact (fun _ _ => trivial)); (case aO => exact (by (with_reducible repeat (first | apply Kd.R_alloc | apply Kd.R_drewN | apply Kd.R_drew)); exact HO_3.out)); (case aS => exact (below_size (by repeat (first | (with_reducible first | exact HB.out | apply below_alloc | apply pw_below_drewN | apply below_drew1) | exact HB.out)))); (case aL => have := LMc6.out; omega); intro v139 w7 ho hb hg hat; rw [← Ny138.out] at ho; have n0_ := Aside0.mk (hb); have n1_ := Aside0.mk (ho); clear HB; clear HO_3; have HB := n0_; have HO140 := n1_; clear n0_ n1_; clear ho hb hg hat))
          go_roundg k2
          case measure => have := HK1.out; have := HK2.out; omega
          case rel => exact ⟨(y138), (wrap64 (x4_2 + 1)), (by first | rfl | (simp; done) | (simp [*]; done)), H', ⟨by have := HK1.out; have := HK2.out; omega⟩, ⟨by (with_reducible repeat (first | apply Kd.R_alloc | apply Kd.R_drewN | apply Kd.R_drew)); exact HO140.out⟩, ⟨by repeat (first | (with_reducible first | exact HB.out | apply below_alloc | apply pw_below_drewN | apply below_drew1) | exact HB.out)⟩⟩
         ·rw [if_neg c6] at H
          exact absurd H (by simp)
        ·rw [if_neg c5] at H
         have c5b0 : decide (x4_2 < (wrap64 (x9_1 - (rd l0 x9_1)))) = false := decide_eq_false c5
         clear c5
         by_cases c8 : x3_2.length < 140737488355328
         ·rw [if_pos c8] at H
          have LMc8 := Aside0.mk c8
          clear c8
          obtain ⟨y141, hy141⟩ : ∃ y_ : List Bool, y_ = (x3_2 ++ [true]) := ⟨_, rfl⟩
          replace H : (spec_waPath.l0 k2 l0 y141 x4_2 l0 (l0.length : Int) (wrap64 (x9_1 + 1))) = some r := by first | (rw [hy141]; with_reducible exact H) | (have H2_ := (Option.bind_some _ _).symm.trans H; rw [hy141]; with_reducible exact H2_) | (have H2_ := (Option.bind_some _ _).symm.trans H; with_reducible exact H2_) | with_reducible exact H | (rw [hy141]; exact H) | exact H
          have Ny141 := Aside0.mk hy141
          clear hy141
          have H' := Aside0.mk H
          clear H
          go_wp2_with (first | ((with_reducible refine gate_builtin (b := .append) (xs := #[.tmp 24, .tmp 25]) rfl ?_); at_builtin; refine Kd.R_append Kd.bool (w0 := w) w.heap.size rfl (.tmp 24) (.tmp 25) 58 4 (.bool false) 1 rfl Try.underlying58 info4 rfl (by decide) (by omega) u3 x3_2 true [.bool true] (fun _ => True) (fun _ => False) rfl rfl ?aP (fun _ hk => hk.elim) ?aF ?aO ?aB ?aS ?aL ?_; (case aP => exact rfl); (case aB => exact (by repeat (first | (with_reducible first | exact HB.out | apply below_alloc | apply pw_below_drewN | apply below_drew1) | exact HB.out))); (case aF => exact (fun _ _ => trivial)); (case aO => exact (by (with_reducible repeat (first | apply Kd.R_alloc | apply Kd.R_drewN | apply Kd.R_drew)); exact HO_3.out)); (case aS => exact (below_size (by repeat (first | (with_reducible first | exact HB.out | apply below_alloc | apply pw_below_drewN | apply below_drew1) | exact HB.out)))); (case aL => have := LMc8.out; omega); intro v142 w9 ho hb hg hat; rw [← Ny141.out] at ho; have n0_ := Aside0.mk (hb); have n1_ := Aside0.mk (ho); clear HB; clear HO_3; have HB := n0_; have HO143 := n1_; clear n0_ n1_; clear ho hb hg hat))
          go_roundg k2
          case measure => have := HK1.out; have := HK2.out; omega
          case rel => exact ⟨(y141), (x4_2), (wrap64 (x9_1 + 1)), (by first | rfl | (simp; done) | (simp [*]; done)), (by first | rfl | (simp; done) | (simp [*]; done)), H', ⟨by have := HK1.out; have := HK2.out; omega⟩, ⟨by (with_reducible repeat (first | apply Kd.R_alloc | apply Kd.R_drewN | apply Kd.R_drew)); exact HO143.out⟩, ⟨by repeat (first | (with_reducible first | exact HB.out | apply below_alloc | apply pw_below_drewN | apply below_drew1) | exact HB.out)⟩⟩
         ·rw [if_neg c8] at H
          exact absurd H (by simp)
     ·rw [if_neg c4] at H
      exact absurd H (by simp)
    ·rw [if_neg c3] at H
     exact absurd H (by simp)
   ·rw [if_neg c2] at H
    have c2b0 : decide (x9_1 < (l0.length : Int)) = false := decide_eq_false c2
    clear c2
    have H' := Aside0.mk H
    clear H
    go_wp2
    go_loopg [3, 4] k1 (fun kq v3 v4 w' => ∃ (x3_2 : List Bool) (x4_2 : Int), v4 = .int .i64 x4_2 ∧ Aside0 (spec_waPath.l2 kq l0 x3_2 x4_2 = some r) ∧ Aside0 (kq ≤ k1) ∧ Aside0 (Kd.R Kd.bool 4 w' w.heap.size (fun _ => True) v3 x3_2) ∧ Aside0 (Below w.heap.size w w'))
    case atStart => exact ⟨(x3_1), (x4_1), (by first | rfl | (simp; done) | (simp [*]; done)), H', ⟨Nat.le_refl _⟩, ⟨by (with_reducible repeat (first | apply Kd.R_alloc | apply Kd.R_drewN | apply Kd.R_drew)); exact HO_3.out⟩, ⟨by repeat (first | (with_reducible first | exact HB.out | apply below_alloc | apply pw_below_drewN | apply below_drew1) | exact HB.out)⟩⟩
    case round =>
     clear H'
     try clear p1
     try clear q1
     try clear hx1
     try clear c2
     try clear c2b0
     try clear p2
     try clear c3
     try clear c3b0
     try clear c4
     try clear c4b0
     try clear c5
     try clear c5b0
     try clear c6
     try clear p6
     try clear c7
     try clear c8
     try clear hx137_0
     try clear p1
     try clear p137
     try clear p2
     try clear q1
     try clear q137
     obtain ⟨x3_2, x4_2, rfl, HA, HK2, HO_3, HB⟩ := hrel
     cases gk with
     | zero => exact absurd HA.out (by simp [spec_waPath.l2])
     | succ k2 =>
      have H := HA.out
      clear HA
      simp only [spec_waPath.l2] at H
      by_cases c10 : x4_2 < (l0.length : Int)
      ·rw [if_pos c10] at H
       have c10b0 : decide (x4_2 < (l0.length : Int)) = true := decide_eq_true c10
       clear c10
       by_cases c11 : x3_2.length < 140737488355328
       ·rw [if_pos c11] at H
        have LMc11 := Aside0.mk c11
        clear c11
        obtain ⟨y144, hy144⟩ : ∃ y_ : List Bool, y_ = (x3_2 ++ [false]) := ⟨_, rfl⟩
        replace H : (spec_waPath.l2 k2 l0 y144 (wrap64 (x4_2 + 1))) = some r := by first | (rw [hy144]; with_reducible exact H) | (have H2_ := (Option.bind_some _ _).symm.trans H; rw [hy144]; with_reducible exact H2_) | (have H2_ := (Option.bind_some _ _).symm.trans H; with_reducible exact H2_) | with_reducible exact H | (rw [hy144]; exact H) | exact H
        have Ny144 := Aside0.mk hy144
        clear hy144
        have H' := Aside0.mk H
        clear H
        go_wp2_with (first | ((with_reducible refine gate_builtin (b := .append) (xs := #[.tmp 34, .tmp 35]) rfl ?_); at_builtin; refine Kd.R_append Kd.bool (w0 := w) w.heap.size rfl (.tmp 34) (.tmp 35) 58 4 (.bool false) 1 rfl Try.underlying58 info4 rfl (by decide) (by omega) u3 x3_2 false [.bool false] (fun _ => True) (fun _ => False) rfl rfl ?aP (fun _ hk => hk.elim) ?aF ?aO ?aB ?aS ?aL ?_; (case aP => exact rfl); (case aB => exact (by repeat (first | (with_reducible first | exact HB.out | apply below_alloc | apply pw_below_drewN | apply below_drew1) | exact HB.out))); (case aF => exact (fun _ _ => trivial)); (case aO => exact (by (with_reducible repeat (first | apply Kd.R_alloc | apply Kd.R_drewN | apply Kd.R_drew)); exact HO_3.out)); (case aS => exact (below_size (by repeat (first | (with_reducible first | exact HB.out | apply below_alloc | apply pw_below_drewN | apply below_drew1) | exact HB.out)))); (case aL => have := LMc11.out; omega); intro v145 w12 ho hb hg hat; rw [← Ny144.out] at ho; have n0_ := Aside0.mk (hb); have n1_ := Aside0.mk (ho); clear HB; clear HO_3; have HB := n0_; have HO146 := n1_; clear n0_ n1_; clear ho hb hg hat))
        go_roundg k2
        case measure => have := HK1.out; have := HK2.out; omega
        case rel => exact ⟨(y144), (wrap64 (x4_2 + 1)), (by first | rfl | (simp; done) | (simp [*]; done)), H', ⟨by have := HK1.out; have := HK2.out; omega⟩, ⟨by (with_reducible repeat (first | apply Kd.R_alloc | apply Kd.R_drewN | apply Kd.R_drew)); exact HO146.out⟩, ⟨by repeat (first | (with_reducible first | exact HB.out | apply below_alloc | apply pw_below_drewN | apply below_drew1) | exact HB.out)⟩⟩
       ·rw [if_neg c11] at H
        exact absurd H (by simp)
      ·rw [if_neg c10] at H
       have c10b0 : decide (x4_2 < (l0.length : Int)) = false := decide_eq_false c10
       clear c10
       obtain rfl := Option.some.inj H
       go_wp2
       go_ret
       exact ⟨_, by first | rfl | (simp [errW_none, errW_some] <;> rfl) | (simp [*, errW_none, errW_some] <;> rfl), by (with_reducible repeat (first | apply Kd.R_alloc | apply Kd.R_drewN | apply Kd.R_drew)); exact HO_3.out, by repeat (first | (with_reducible first | exact HB.out | apply below_alloc | apply pw_below_drewN | apply below_drew1) | exact HB.out)⟩

/-! ### spec_TurnHeights: function 24 -/
def spec_TurnHeights.l0 : Nat → List Bool → List Int → Int → Int → Option (List Int × Bool)
 | 0, _, _, _, _ => none
 | k + 1, x4, x5, x6, x7 => if x7 ≥ 0 then (if 0 ≤ x7 then (if x7 < (x4.length : Int) then (if rdOf false x4 x7 = true then (spec_TurnHeights.l0 k x4 x5 (wrap64 (x6 + 1)) (wrap64 (x7 - 1))) else (if x5.length < 17592186044416 then (spec_TurnHeights.l0 k x4 (x5 ++ [wrap64 ((x5.length : Int) - x6)]) x6 (wrap64 (x7 - 1))) else (none))) else (none)) else (none)) else (some (x5, true))
def spec_TurnHeights.f (k : Nat) (l0 : List Int) : Option (List Int × Bool) := (spec_waHeights.f k l0).bind fun t147 => (if t147 = true then ((spec_waPath.f k l0).bind fun t148 => (spec_TurnHeights.l0 k t148 ([] : List Int) 0 (wrap64 ((t148.length : Int) - 1)))) else (some (([] : List Int), false)))
theorem spec_TurnHeights.mono_l : ∀ k, (∀ y0 y1 y2 y3, LeO (spec_TurnHeights.l0 k y0 y1 y2 y3) (spec_TurnHeights.l0 (k + 1) y0 y1 y2 y3))
 | 0 => fun _ _ _ _ r h => by simp [spec_TurnHeights.l0] at h
 | k + 1 => by
  have ih0 := spec_TurnHeights.mono_l k
  ·intro y0 y1 y2 y3
   unfold spec_TurnHeights.l0
   repeat' first
   | (with_reducible exact ih0 _ _ _ _)
   | (with_reducible exact spec_waHeights.mono _ _)
   | (with_reducible exact spec_waPath.mono _ _)
   | (with_reducible exact LeO.refl _)
   | (with_reducible exact LeO.none _)
   | (with_reducible refine LeO.ite ?_ ?_)
   | (with_reducible refine LeO.bind ?_ (fun _ => ?_))
   | exact LeO.none _
   | refine LeO.ite ?_ ?_
   | refine LeO.bind ?_ (fun _ => ?_)
theorem spec_TurnHeights.mono : ∀ a0 k, LeO (spec_TurnHeights.f k a0) (spec_TurnHeights.f (k + 1) a0) := by
 intro a0 k
 have ih0 := spec_TurnHeights.mono_l k
 unfold spec_TurnHeights.f
 repeat' first
   | (with_reducible exact ih0 _ _ _ _)
   | (with_reducible exact spec_waHeights.mono _ _)
   | (with_reducible exact spec_waPath.mono _ _)
   | (with_reducible exact LeO.refl _)
   | (with_reducible exact LeO.none _)
   | (with_reducible refine LeO.ite ?_ ?_)
   | (with_reducible refine LeO.bind ?_ (fun _ => ?_))
   | exact LeO.none _
   | refine LeO.ite ?_ ?_
   | refine LeO.bind ?_ (fun _ => ?_)
set_option maxHeartbeats 8000000 in
set_option maxRecDepth 100000 in
theorem spec_TurnHeights.calls (k : Nat) (A0 : Option Addr) (c0 : Nat) (l0 : List Int) (r1 : List Int) (r2 : Bool) (w : World) (hr0 : Kd.C (Kd.int .i64) w A0 l0.length l0) (hc0 : l0.length ≤ c0) (h : spec_TurnHeights.f k l0 = some (r1, r2)) :
  Calls Try.prog 24 #[.slice A0 l0.length c0] w fun e w' => ∃ v0_ : Value, e = .returned (.tuple #[v0_, .bool r2]) ∧ Kd.R (Kd.int .i64) 3 w' w.heap.size (fun _ => True) v0_ r1 ∧ Below w.heap.size w w' := by
 have HR0 := Aside0.mk hr0
 have HC0 := Aside0.mk hc0
 clear hr0 hc0
 have HB := Aside0.mk (Below.refl w.heap.size w)
 have H : ((spec_waHeights.f k l0).bind fun t147 => (if t147 = true then ((spec_waPath.f k l0).bind fun t148 => (spec_TurnHeights.l0 k t148 ([] : List Int) 0 (wrap64 ((t148.length : Int) - 1)))) else (some (([] : List Int), false)))) = some (r1, r2) := h
 clear h
 replace H := Option.bind_eq_some_iff.mp H
 obtain ⟨t147, A20, H⟩ := H
 replace H : (if t147 = true then ((spec_waPath.f k l0).bind fun t148 => (spec_TurnHeights.l0 k t148 ([] : List Int) 0 (wrap64 ((t148.length : Int) - 1)))) else (some (([] : List Int), false))) = some (r1, r2) := H
 have A2 := Aside0.mk A20
 clear A20
 by_cases c3 : t147 = true
 ·subst c3
  have H1 : ((spec_waPath.f k l0).bind fun t148 => (spec_TurnHeights.l0 k t148 ([] : List Int) 0 (wrap64 ((t148.length : Int) - 1)))) = some (r1, r2) := by rw [if_pos rfl] at H; exact H
  clear H
  have H := H1
  clear H1
  replace H := Option.bind_eq_some_iff.mp H
  obtain ⟨t148, A40, H⟩ := H
  replace H : (spec_TurnHeights.l0 k t148 ([] : List Int) 0 (wrap64 ((t148.length : Int) - 1))) = some (r1, r2) := H
  have A4 := Aside0.mk A40
  clear A40
  have H' := Aside0.mk H
  clear H
  go_enter Try.func24, Try.ntmps24
  go_wp2_with (first | ((with_reducible refine gate_callee (f := 72) rfl ?_); refine goesL_ (some 9) rfl rfl Try.func72 (by kernel_rfl) rfl #[.slice A0 l0.length c0] rfl (by (try simp only [List.map_toArray, List.map_cons, List.map_nil]); first | done | rfl | (simp only [List.length_drop, List.length_take]; rfl)) ?_; (with_reducible refine (spec_waHeights.calls k _ _ l0 true _ ?side1 ?side2 A2.out).mono ?_); (case side1 => repeat (first | exact HR0.out | (with_reducible refine Kd.C_alloc ?_ _) | (with_reducible refine Kd.C_drewN ?_ _) | (with_reducible refine Kd.C_drew ?_))); (case side2 => exact HC0.out); rintro e w' ⟨rfl, ⟨nd, rfl⟩⟩; refine ⟨_, rfl, ?_⟩) | ((with_reducible refine gate_callee (f := 73) rfl ?_); refine goesL_ (some 12) rfl rfl Try.func73 (by kernel_rfl) rfl #[.slice A0 l0.length c0] rfl (by (try simp only [List.map_toArray, List.map_cons, List.map_nil]); first | done | rfl | (simp only [List.length_drop, List.length_take]; rfl)) ?_; (with_reducible refine (spec_waPath.calls k _ _ l0 t148 _ ?side1 ?side2 A4.out).mono ?_); (case side1 => repeat (first | exact HR0.out | (with_reducible refine Kd.C_alloc ?_ _) | (with_reducible refine Kd.C_drewN ?_ _) | (with_reducible refine Kd.C_drew ?_))); (case side2 => exact HC0.out); rintro e w5 ⟨v149, rfl, ho0, hb⟩; refine ⟨_, rfl, ?_⟩; have n0_ := Aside0.mk (Kd.R_lower ho0 (below_size (by repeat (first | (with_reducible first | exact HB.out | apply below_alloc | apply pw_below_drewN | apply below_drew1) | exact HB.out)))); have n1_ := Aside0.mk (below_step (by repeat (first | (with_reducible first | exact HB.out | apply below_alloc | apply pw_below_drewN | apply below_drew1) | exact HB.out)) hb); clear HB; have HO150 := n0_; have HB := n1_; clear n0_ n1_; (try clear hb); (try clear hb2); (try clear hk); (try clear hi); (try clear ho0); obtain ⟨Ao6, co6, eo6⟩ := Kd.R_slice HO150.out; subst eo6))
  go_loopg [5, 6, 7] k (fun kq v5 v6 v7 w' => ∃ (x5_1 : List Int) (x6_1 : Int) (x7_1 : Int), v6 = .int .i64 x6_1 ∧ v7 = .int .i64 x7_1 ∧ Aside0 (spec_TurnHeights.l0 kq t148 x5_1 x6_1 x7_1 = some (r1, r2)) ∧ Aside0 (kq ≤ k) ∧ Aside0 (Kd.R Kd.bool 4 w' w.heap.size (fun _ => True) (.slice Ao6 t148.length co6) t148) ∧ Aside0 (Kd.R (Kd.int .i64) 3 w' w.heap.size (fun _ => True) v5 x5_1) ∧ Aside0 (Below w.heap.size w w'))
  case atStart => exact ⟨(([] : List Int)), (0), (wrap64 ((t148.length : Int) - 1)), (by first | rfl | (simp; done) | (simp [*]; done)), (by first | rfl | (simp; done) | (simp [*]; done)), H', ⟨Nat.le_refl _⟩, ⟨by (with_reducible repeat (first | apply Kd.R_alloc | apply Kd.R_drewN | apply Kd.R_drew)); exact HO150.out⟩, ⟨by first | exact Kd.R_nil _ _ _ _ _ | exact Kd.N_nil _ _ _ _ _ | exact Kd.V_nil _ _ _ _ _ | exact Kd.Q_nil _ _ _ _ _ | exact Kd.S_nil _ _ _ _ _⟩, ⟨by repeat (first | (with_reducible first | exact HB.out | apply below_alloc | apply pw_below_drewN | apply below_drew1) | exact HB.out)⟩⟩
  case round =>
   clear H'
   try clear c2
   try clear p2
   try clear c3
   try clear p6
   obtain ⟨x5_1, x6_1, x7_1, rfl, rfl, HA, HK1, HO_4, HO_5, HB⟩ := hrel
   cases gk with
   | zero => exact absurd HA.out (by simp [spec_TurnHeights.l0])
   | succ k1 =>
    have H := HA.out
    clear HA
    simp only [spec_TurnHeights.l0] at H
    by_cases c7 : x7_1 ≥ 0
    ·rw [if_pos c7] at H
     have c7b0 : decide (0 ≤ x7_1) = true := decide_eq_true c7
     clear c7
     by_cases c8 : 0 ≤ x7_1
     ·rw [if_pos c8] at H
      have c8b0 : decide (0 ≤ x7_1) = true := decide_eq_true c8
      clear c8
      by_cases c9 : x7_1 < (t148.length : Int)
      ·rw [if_pos c9] at H
       have c9b0 : decide (x7_1 < (t148.length : Int)) = true := decide_eq_true c9
       clear c9
       obtain ⟨bq10, hbq10⟩ : ∃ b_ : Bool, b_ = (rdOf false t148 x7_1) := ⟨_, rfl⟩
       replace H : (if bq10 = true then (spec_TurnHeights.l0 k1 t148 x5_1 (wrap64 (x6_1 + 1)) (wrap64 (x7_1 - 1))) else (if x5_1.length < 17592186044416 then (spec_TurnHeights.l0 k1 t148 (x5_1 ++ [wrap64 ((x5_1.length : Int) - x6_1)]) x6_1 (wrap64 (x7_1 - 1))) else (none))) = some (r1, r2) := by rw [← hbq10] at H; exact H
       have Nbq10 := Aside0.mk hbq10
       clear hbq10
       by_cases c11 : bq10 = true
       ·subst c11
        have H1 : (spec_TurnHeights.l0 k1 t148 x5_1 (wrap64 (x6_1 + 1)) (wrap64 (x7_1 - 1))) = some (r1, r2) := by rw [if_pos rfl] at H; exact H
        clear H
        have H := H1
        clear H1
        have H' := Aside0.mk H
        clear H
        have p151 : 0 ≤ (x7_1 : Int) := of_decide_eq_true (by first | (with_reducible assumption) | assumption)
        have q151 : x7_1 < (t148.length : Int) := of_decide_eq_true (by first | (with_reducible assumption) | assumption)
        obtain ⟨ad151, e151, hx151_0⟩ := Kd.at_bool (Kd.R_reads' HO_4.out).2.2 x7_1 p151 q151
        (try rw [← Nbq10.out] at hx151_0)
        cases e151
        replace p151 := eq_true p151
        replace q151 := eq_true q151
        go_wp2
        go_roundg k1
        case measure => have := HK1.out; omega
        case rel => exact ⟨(x5_1), (wrap64 (x6_1 + 1)), (wrap64 (x7_1 - 1)), (by first | rfl | (simp; done) | (simp [*]; done)), (by first | rfl | (simp; done) | (simp [*]; done)), H', ⟨by have := HK1.out; omega⟩, ⟨by (with_reducible repeat (first | apply Kd.R_alloc | apply Kd.R_drewN | apply Kd.R_drew)); exact HO_4.out⟩, ⟨by (with_reducible repeat (first | apply Kd.R_alloc | apply Kd.R_drewN | apply Kd.R_drew)); exact HO_5.out⟩, ⟨by repeat (first | (with_reducible first | exact HB.out | apply below_alloc | apply pw_below_drewN | apply below_drew1) | exact HB.out)⟩⟩
       ·replace c11 := Bool.eq_false_iff.mpr c11
        subst c11
        have H1 : (if x5_1.length < 17592186044416 then (spec_TurnHeights.l0 k1 t148 (x5_1 ++ [wrap64 ((x5_1.length : Int) - x6_1)]) x6_1 (wrap64 (x7_1 - 1))) else (none)) = some (r1, r2) := by rw [if_neg (show ¬ (false = true) by decide)] at H; exact H
        clear H
        have H := H1
        clear H1
        by_cases c12 : x5_1.length < 17592186044416
        ·rw [if_pos c12] at H
         have LMc12 := Aside0.mk c12
         clear c12
         obtain ⟨y152, hy152⟩ : ∃ y_ : List Int, y_ = (x5_1 ++ [wrap64 ((x5_1.length : Int) - x6_1)]) := ⟨_, rfl⟩
         replace H : (spec_TurnHeights.l0 k1 t148 y152 x6_1 (wrap64 (x7_1 - 1))) = some (r1, r2) := by first | (rw [hy152]; with_reducible exact H) | (have H2_ := (Option.bind_some _ _).symm.trans H; rw [hy152]; with_reducible exact H2_) | (have H2_ := (Option.bind_some _ _).symm.trans H; with_reducible exact H2_) | with_reducible exact H | (rw [hy152]; exact H) | exact H
         have Ny152 := Aside0.mk hy152
         clear hy152
         have H' := Aside0.mk H
         clear H
         have p151 : 0 ≤ (x7_1 : Int) := of_decide_eq_true (by first | (with_reducible assumption) | assumption)
         have q151 : x7_1 < (t148.length : Int) := of_decide_eq_true (by first | (with_reducible assumption) | assumption)
         obtain ⟨ad151, e151, hx151_0⟩ := Kd.at_bool (Kd.R_reads' HO_4.out).2.2 x7_1 p151 q151
         (try rw [← Nbq10.out] at hx151_0)
         cases e151
         replace p151 := eq_true p151
         replace q151 := eq_true q151
         obtain ⟨Ao13, co13, eo13⟩ := Kd.R_slice HO_5.out
         subst eo13
         go_wp2_with (first | ((with_reducible refine gate_builtin (b := .append) (xs := #[.tmp 26, .tmp 31]) rfl ?_); at_builtin; refine Kd.R_append (Kd.int .i64) (w0 := w) w.heap.size rfl (.tmp 26) (.tmp 31) 22 3 (.int .i64 0) 8 rfl Try.underlying22 info3 rfl (by decide) (by omega) (.slice Ao13 x5_1.length co13) x5_1 (wrap64 ((x5_1.length : Int) - x6_1)) [.int .i64 (wrap64 ((x5_1.length : Int) - x6_1))] (fun _ => True) (fun _ => False) rfl rfl ?aP (fun _ hk => hk.elim) ?aF ?aO ?aB ?aS ?aL ?_; (case aP => exact rfl); (case aB => exact (by repeat (first | (with_reducible first | exact HB.out | apply below_alloc | apply pw_below_drewN | apply below_drew1) | exact HB.out))); (case aF => exact (fun _ _ => trivial)); (case aO => exact (by (with_reducible repeat (first | apply Kd.R_alloc | apply Kd.R_drewN | apply Kd.R_drew)); exact HO_5.out)); (case aS => exact (below_size (by repeat (first | (with_reducible first | exact HB.out | apply below_alloc | apply pw_below_drewN | apply below_drew1) | exact HB.out)))); (case aL => have := LMc12.out; omega); intro v153 w14 ho hb hg hat; rw [← Ny152.out] at ho; have n0_ := Aside0.mk (Kd.R_over' (by (with_reducible repeat (first | apply Kd.R_alloc | apply Kd.R_drewN | apply Kd.R_drew)); exact HO_4.out) (Kd.R_typed (by (with_reducible repeat (first | apply Kd.R_alloc | apply Kd.R_drewN | apply Kd.R_drew)); exact HO_5.out)) (by decide) hg); have n1_ := Aside0.mk (hb); have n2_ := Aside0.mk (ho); clear HO_4; clear HB; clear HO_5; have HO_4 := n0_; have HB := n1_; have HO154 := n2_; clear n0_ n1_ n2_; clear ho hb hg hat))
         go_roundg k1
         case measure => have := HK1.out; omega
         case rel => exact ⟨(y152), (x6_1), (wrap64 (x7_1 - 1)), (by first | rfl | (simp; done) | (simp [*]; done)), (by first | rfl | (simp; done) | (simp [*]; done)), H', ⟨by have := HK1.out; omega⟩, ⟨by (with_reducible repeat (first | apply Kd.R_alloc | apply Kd.R_drewN | apply Kd.R_drew)); exact HO_4.out⟩, ⟨by (with_reducible repeat (first | apply Kd.R_alloc | apply Kd.R_drewN | apply Kd.R_drew)); exact HO154.out⟩, ⟨by repeat (first | (with_reducible first | exact HB.out | apply below_alloc | apply pw_below_drewN | apply below_drew1) | exact HB.out)⟩⟩
        ·rw [if_neg c12] at H
         exact absurd H (by simp)
      ·rw [if_neg c9] at H
       exact absurd H (by simp)
     ·rw [if_neg c8] at H
      exact absurd H (by simp)
    ·rw [if_neg c7] at H
     have c7b0 : decide (0 ≤ x7_1) = false := decide_eq_false c7
     clear c7
     simp only [Option.some.injEq, Prod.mk.injEq] at H
     obtain ⟨rfl, rfl⟩ := H
     go_wp2
     go_ret2
     exact ⟨_, by first | rfl | (simp [errW_none, errW_some] <;> rfl) | (simp [*, errW_none, errW_some] <;> rfl), by (with_reducible repeat (first | apply Kd.R_alloc | apply Kd.R_drewN | apply Kd.R_drew)); exact HO_5.out, by repeat (first | (with_reducible first | exact HB.out | apply below_alloc | apply pw_below_drewN | apply below_drew1) | exact HB.out)⟩
 ·replace c3 := Bool.eq_false_iff.mpr c3
  subst c3
  have H1 : (some (([] : List Int), false)) = some (r1, r2) := by rw [if_neg (show ¬ (false = true) by decide)] at H; exact H
  clear H
  have H := H1
  clear H1
  simp only [Option.some.injEq, Prod.mk.injEq] at H
  obtain ⟨rfl, rfl⟩ := H
  go_enter Try.func24, Try.ntmps24
  go_wp2_with (first | ((with_reducible refine gate_callee (f := 72) rfl ?_); refine goesL_ (some 9) rfl rfl Try.func72 (by kernel_rfl) rfl #[.slice A0 l0.length c0] rfl (by (try simp only [List.map_toArray, List.map_cons, List.map_nil]); first | done | rfl | (simp only [List.length_drop, List.length_take]; rfl)) ?_; (with_reducible refine (spec_waHeights.calls k _ _ l0 false _ ?side1 ?side2 A2.out).mono ?_); (case side1 => repeat (first | exact HR0.out | (with_reducible refine Kd.C_alloc ?_ _) | (with_reducible refine Kd.C_drewN ?_ _) | (with_reducible refine Kd.C_drew ?_))); (case side2 => exact HC0.out); rintro e w' ⟨rfl, ⟨nd, rfl⟩⟩; refine ⟨_, rfl, ?_⟩))
  go_ret2
  exact ⟨_, by first | rfl | (simp [errW_none, errW_some] <;> rfl) | (simp [*, errW_none, errW_some] <;> rfl), by first | exact Kd.R_nil _ _ _ _ _ | exact Kd.N_nil _ _ _ _ _ | exact Kd.V_nil _ _ _ _ _ | exact Kd.Q_nil _ _ _ _ _ | exact Kd.S_nil _ _ _ _ _, by repeat (first | (with_reducible first | exact HB.out | apply below_alloc | apply pw_below_drewN | apply below_drew1) | exact HB.out)⟩

/-! ### slices.Backward over a slice: function 75 and its closure 113 (the walks of an iterator over a slice follow the worked text of the guide) -/
section
attribute [local go_sem] Oper.semAt_some
open Go.Shelf
/-- The cells of C hold on what they hold. -/
def KpCBool (C : Addr → Prop) (W W' : World) : Prop := ∀ a v, C a → W.cell? a = some v → W'.cell? a = some v
theorem KpCBool.refl (C : Addr → Prop) (W : World) : KpCBool C W W := fun _ _ _ h => h
theorem KpCBool.trans {C : Addr → Prop} {A B D : World} (h : KpCBool C A B) (k : KpCBool C B D) : KpCBool C A D := fun a v ha hv => k a v ha (h a v ha hv)
theorem KpCBool.put {C : Addr → Prop} {w : World} (W : World) (l : Nat) (o o' : Obj) (_ : w.heap.size ≤ l) (h : W.heap[l]? = some o) (hc : o.isCells = false) (_ : o.isWalk = false) : KpCBool C W (W.putObj l o') := fun a v _ hv => by
  have hne : a.block ≠ l := fun e => by
    unfold World.cell? at hv
    rw [e, h] at hv
    cases o <;> simp [Obj.isCells] at hv hc
  unfold World.cell? at hv ⊢
  rw [show (W.putObj l o').heap[a.block]? = W.heap[a.block]? from by unfold World.putObj; simp [Array.getElem?_setIfInBounds, Ne.symm hne]]
  exact hv
/-- What has come when k rounds are over, from the last one down. -/
def backIBool {β : Type} (zs : List β) (k : Nat) : List (Nat × β) := ((List.range zs.length).zip zs).reverse.take k
theorem backIBool_succ {β : Type} (zs : List β) (k q : Nat) (hq : q + k + 1 = zs.length) : backIBool zs (k + 1) = backIBool zs k ++ [(q, zs[q]'(by omega))] := by
  unfold backIBool
  rw [List.take_succ_eq_append_getElem (by simp; omega)]
  congr 2
  simp [List.getElem_reverse]
  constructor
  · omega
  · congr 1
    omega
theorem backIBool_length {β : Type} (zs : List β) (k : Nat) (hk : k ≤ zs.length) : (backIBool zs k).length = k := by simp [backIBool]; omega
theorem backIBool_map2 {β : Type} (zs : List β) : (backIBool zs zs.length).map (·.2) = zs.reverse := by
  unfold backIBool
  rw [List.take_of_length_le (by simp), List.map_reverse]
  congr 1
  exact List.map_snd_zip (by simp)
set_option maxRecDepth 100000 in
set_option maxHeartbeats 2000000 in
theorem backBool1_in {β : Type} (enc : β → Value) (F : Fence) (n : Nat) (h7 : F.fn 113) (hro : F.round = none) (hn : 1 ≤ n) (l Bs : Nat) (A : Option Addr) (cap : Nat) (zs : List β) (hreach : zs.length * 8 ≤ 140737488351232) (C : Addr → Prop) (hCs : C ⟨Bs, 0, none⟩) (J Jx : List (Nat × β) → World → Prop)
    (hY : ∀ pre x W, J pre W → pre.length < zs.length → YieldAt F (n - 1) Try.prog l #[.int .i64 (x.1 : Int), enc x.2] W fun e W' =>
      (e = .returned (.bool true) ∧ J (pre ++ [x]) W' ∧ KpCBool C W W') ∨ (e = .returned (.bool false) ∧ Jx (pre ++ [x]) W'))
    (W : World) (hBs : W.cell? ⟨Bs, 0, none⟩ = some (.slice A zs.length cap)) (hc : ∀ j (hj : j < zs.length), ∃ ad, A = some ad ∧ C (ad.add j) ∧ W.cell? (ad.add j) = some (enc zs[j])) (h0 : J [] W) :
    CallsIn F n Try.prog 113 #[.func (.yield l) #[] #[], .pointer (some ⟨Bs, 0, none⟩)] W fun e W' => (∃ v, e = .returned v) ∧
      ((∃ ys, ys = backIBool zs zs.length ∧ J ys W') ∨ (∃ pre, (∃ k, k ≤ zs.length ∧ pre = backIBool zs k) ∧ Jx pre W')) := by
  refine callsIn_of_wp Try.func113 rfl h7 ?_ hro
  simp only [Try.ntmps113, List.size_toArray, List.length_cons, List.length_nil, Nat.reduceAdd, Nat.reduceSub, Array.replicate_succ, Array.replicate_zero, List.push_toArray, List.append_toArray, List.nil_append, List.cons_append]
  gi_wp2
  gi_loopw [3] (fun i wr => ∃ k : Nat, k ≤ zs.length ∧ i = .int .i64 ((zs.length : Int) - 1 - k) ∧ J (backIBool zs k) wr ∧ KpCBool C W wr)
    (fun i _ => ((intOf i) + 1).toNat)
  case atStart => exact ⟨0, Nat.zero_le _, by simp, by simpa [backIBool] using h0, KpCBool.refl _ _⟩
  case round =>
    obtain ⟨k, hk, hi, hJs, hnx⟩ := hrel
    by_cases hlt : k < zs.length
    · obtain ⟨q, hq⟩ : ∃ q : Nat, q + k + 1 = zs.length := ⟨zs.length - 1 - k, by omega⟩
      have hiq : (zs.length : Int) - 1 - k = (q : Int) := by omega
      rw [hiq] at hi
      subst hi
      have hb2 : q < zs.length := by omega
      obtain ⟨ad, rfl, hCa, hca⟩ := hc q hb2
      obtain ⟨v9, hv9⟩ : ∃ v9, v9 = zs[q] := ⟨_, rfl⟩
      rw [← hv9] at hca
      obtain ⟨fn, tmps, assign, body, hy, hR⟩ := hY _ (q, v9) wr hJs (by rw [backIBool_length zs k hk]; exact hlt)
      dsimp only at hy
      have hcx' := hnx _ _ hCa hca
      have hbx' := hnx _ _ hCs hBs
      have hb1 : (q : Int) ≤ 9223372036854775807 := by omega
      have hs2 := (backIBool_succ zs k q hq).symm
      rw [← hv9] at hs2
      have HS := Aside0.mk hs2
      have HIQ := Aside0.mk hiq
      clear hs2 hq hiq hv9
      gi_wp2
      refine hR.mono ?_
      rintro e W3 (⟨rfl, hJ3, hk3⟩ | ⟨rfl, hJx3⟩)
      · gi_wp2
        go_roundw
        case rel =>
          have h1 := HS.out
          have h2 := HIQ.out
          exact ⟨k + 1, by omega, by congr 1; omega, by rw [← h1]; exact hJ3, hnx.trans hk3⟩
        case measure => first | (simp [intOf]; done) | (simp [intOf]; omega)
      · gi_wp2
        refine bodyPost_ret (results_none rfl _ _ _) rfl ?_
        exact ⟨⟨_, rfl⟩, .inr ⟨_, ⟨k + 1, by omega, HS.out⟩, hJx3⟩⟩
    · obtain rfl : k = zs.length := by omega
      have hi2 : (zs.length : Int) - 1 - (zs.length : Int) = -1 := by omega
      rw [hi2] at hi
      subst hi
      gi_wp2
      go_end0
      exact ⟨⟨_, rfl⟩, .inl ⟨_, rfl, hJs⟩⟩
set_option maxRecDepth 100000 in
set_option maxHeartbeats 1000000 in
theorem backBool_in (F : Fence) (n : Nat) (h5 : F.fn 75) (hro : F.round = none) (a : Option Addr) (len cap : Nat) (w : World) :
    CallsIn F n Try.prog 75 #[.slice a len cap] w fun e w' => e = .returned (.func (.func 113) #[] #[.pointer (some ⟨w.heap.size, 0, none⟩)]) ∧ w' = w.alloc (.cells #[.slice a len cap] 58) := by
  refine callsIn_of_wp Try.func75 rfl h5 ?_ hro
  simp only [Try.ntmps75, List.size_toArray, List.length_cons, List.length_nil, Nat.reduceAdd, Nat.reduceSub, Array.replicate_succ, Array.replicate_zero, List.push_toArray, List.append_toArray, List.nil_append, List.cons_append]
  gi_wp2
  go_ret
  exact ⟨rfl, rfl⟩
theorem backBool_stops {β : Type} (enc : β → Value) (F : Fence) (n : Nat) (h7 : F.fn 113) (hro : F.round = none) (hn : 1 ≤ n) (Bs : Nat) (A : Option Addr) (cap : Nat) (zs : List β) (hreach : zs.length * 8 ≤ 140737488351232) (C : Addr → Prop) (hCs : C ⟨Bs, 0, none⟩) (w : World) (hBs : Bs < w.heap.size)
    (hcs : w.cell? ⟨Bs, 0, none⟩ = some (.slice A zs.length cap)) (hc : ∀ j (hj : j < zs.length), ∃ ad, A = some ad ∧ C (ad.add j) ∧ w.cell? (ad.add j) = some (enc zs[j])) :
    SeqStopsK F n Try.prog 113 #[.pointer (some ⟨Bs, 0, none⟩)] (fun x : Nat × β => #[Value.int .i64 (x.1 : Int), enc x.2]) (KpCBool C) (fun ys => ys = backIBool zs zs.length) (fun pre => ∃ k, k ≤ zs.length ∧ pre = backIBool zs k) zs.length w := fun l J Jx W hW _ _ hY h0 =>
  backBool1_in enc F n h7 hro hn l Bs A cap zs hreach C hCs J Jx hY W ((hW.cell (p := ⟨Bs, 0, none⟩) hBs).trans hcs) (fun j hj => by
    obtain ⟨ad, e, h1, h2⟩ := hc j hj
    exact ⟨ad, e, h1, (hW.cell (World.block_lt_of_cell? _ _ h2)).trans h2⟩) h0
end
/-! ### impl_TurnHeights: function 26 (a loop over slices.Backward: proved by hand) -/
section
attribute [local go_sem] Oper.semAt_some
open Go.Shelf
/-- The steps of heights, true for those up; how many go to the right so far. -/
def impl_TurnHeights.ups : List Int → Int → List Bool → Int → List Bool × Int
  | [], _, u, r => (u, r)
  | h :: t, i, u, r => impl_TurnHeights.ups t (i + 1) (u ++ List.replicate (i - h - r).toNat false ++ [true]) (r + ((i - h - r).toNat : Int))
def impl_TurnHeights.path (l : List Int) : List Bool := (impl_TurnHeights.ups l 0 [] 0).1 ++ List.replicate ((l.length : Int) - (impl_TurnHeights.ups l 0 [] 0).2).toNat false
def impl_TurnHeights.stp (s : List Int × Int) (b : Bool) : List Int × Int := if b = true then (s.1, s.2 + 1) else (s.1 ++ [(s.1.length : Int) - s.2], s.2)
def impl_TurnHeights.res (l : List Int) : List Int := ((impl_TurnHeights.path l).reverse.foldl impl_TurnHeights.stp ([], 0)).1
def impl_TurnHeights.f (k : Nat) (l0 : List Int) : Option (List Int × Bool) := (impl_areHeights.f k l0).bind fun t => if t = true then (if l0.length ≤ 8 ∧ ∀ h ∈ l0, 0 ≤ h ∧ h ≤ 8 then some (impl_TurnHeights.res l0, true) else none) else some ([], false)
theorem impl_TurnHeights.mono : ∀ a0 k, LeO (impl_TurnHeights.f k a0) (impl_TurnHeights.f (k + 1) a0) := fun a0 k => LeO.bind (impl_areHeights.mono a0 k) (fun _ => LeO.refl _)
def impl_TurnHeights.st (pre : List (Nat × Bool)) : List Int × Int := (pre.map (·.2)).foldl impl_TurnHeights.stp ([], 0)
theorem impl_TurnHeights.st_snoc (pre : List (Nat × Bool)) (x : Nat × Bool) : impl_TurnHeights.st (pre ++ [x]) = impl_TurnHeights.stp (impl_TurnHeights.st pre) x.2 := by simp [impl_TurnHeights.st, List.foldl_append]
theorem impl_TurnHeights.st_bound (us : List Bool) : ∀ s : List Int × Int, 0 ≤ s.2 → (us.foldl impl_TurnHeights.stp s).1.length ≤ s.1.length + us.length ∧ 0 ≤ (us.foldl impl_TurnHeights.stp s).2 ∧ (us.foldl impl_TurnHeights.stp s).2 ≤ s.2 + us.length := by
  induction us with
  | nil => exact fun s h => ⟨Nat.le_refl _, h, by show s.2 ≤ s.2 + ((0 : Nat) : Int); omega⟩
  | cons b t ih =>
    intro s h
    rw [List.foldl_cons]
    by_cases c : b = true
    · have e : impl_TurnHeights.stp s b = (s.1, s.2 + 1) := by unfold impl_TurnHeights.stp; rw [if_pos c]
      rw [e]
      obtain ⟨h1, h2, h3⟩ := ih (s.1, s.2 + 1) (by show 0 ≤ s.2 + 1; omega)
      refine ⟨Nat.le_trans h1 ?_, h2, Int.le_trans h3 ?_⟩
      · show s.1.length + t.length ≤ s.1.length + (t.length + 1); omega
      · show s.2 + 1 + (t.length : Int) ≤ s.2 + ((t.length + 1 : Nat) : Int); omega
    · have e : impl_TurnHeights.stp s b = (s.1 ++ [(s.1.length : Int) - s.2], s.2) := by unfold impl_TurnHeights.stp; rw [if_neg c]
      rw [e]
      obtain ⟨h1, h2, h3⟩ := ih (s.1 ++ [(s.1.length : Int) - s.2], s.2) h
      refine ⟨Nat.le_trans h1 ?_, h2, Int.le_trans h3 ?_⟩
      · show (s.1 ++ [(s.1.length : Int) - s.2]).length + t.length ≤ s.1.length + (t.length + 1)
        rw [List.length_append, List.length_singleton]; omega
      · show s.2 + (t.length : Int) ≤ s.2 + ((t.length + 1 : Nat) : Int); omega
theorem impl_TurnHeights.cell_same {W W' : World} {a : Addr} (h : W'.heap[a.block]? = W.heap[a.block]?) : W'.cell? a = W.cell? a := by
  unfold World.cell?
  rw [h]
/-- The steps so far, and the variable that the loops share. -/
structure impl_TurnHeights.TS (w W : World) (br : Nat) (v : Value) (u : List Bool) (r : Int) : Prop where
  own : W.ownsRow w.heap.size 4 1 v u.length (encs Value.bool u)
  box : Boxed W br 3 (.int .i64 r)
  bel : Below w.heap.size w W
  ge : w.heap.size ≤ br
theorem impl_TurnHeights.TS.app {w W w1 : World} {br : Nat} {v v1 : Value} {u : List Bool} {r : Int} {b : Bool} (h : impl_TurnHeights.TS w W br v u r) (hown : w1.ownsRow w.heap.size 4 1 v1 (u.length + 1) (encs Value.bool u ++ [.bool b])) (hg : (W.alloc (.cells #[.bool b] 4)).grownBy w1 v.ownBlock) : impl_TurnHeights.TS w w1 br v1 (u ++ [b]) r := by
  refine ⟨by rw [List.length_append, List.length_singleton]; simpa [encs] using hown, (h.box.alloc _).kept hg (h.box.not_row (by decide) h.own), (h.bel.alloc h.bel.size _).grown hg (by have := h.bel.size; simp; omega) (own_base h.own), h.ge⟩
theorem impl_TurnHeights.TS.set {w W : World} {br : Nat} {v : Value} {u : List Bool} {r : Int} (h : impl_TurnHeights.TS w W br v u r) (r' : Int) : impl_TurnHeights.TS w (W.setCell ⟨br, 0, none⟩ (.int .i64 r')) br v u r' :=
  ⟨h.own.kept (grownBy_setCell' W br _) (.inr (h.box.not_row (by decide) h.own).symm), h.box.set _, h.bel.setCell (p := ⟨br, 0, none⟩) h.ge _, h.ge⟩
theorem impl_TurnHeights.ups_step (l : List Int) (i : Nat) (hi : i < l.length) (u : List Bool) (r : Int) : impl_TurnHeights.ups (l.drop i) i u r = impl_TurnHeights.ups (l.drop (i + 1)) ((i + 1 : Nat) : Int) (u ++ List.replicate ((i : Int) - rd l i - r).toNat false ++ [true]) (r + (((i : Int) - rd l i - r).toNat : Int)) := by
  have e : l.drop i = rd l i :: l.drop (i + 1) := by
    rw [List.drop_eq_getElem_cons hi]
    congr 1
    unfold rd
    rw [Int.toNat_natCast, List.getD_eq_getElem?_getD, List.getElem?_eq_getElem hi]
    rfl
  rw [e, impl_TurnHeights.ups]
  rfl
set_option maxHeartbeats 8000000 in
set_option maxRecDepth 100000 in
theorem impl_TurnHeights.calls (k : Nat) (A0 : Option Addr) (c0 : Nat) (l0 : List Int) (r1 : List Int) (r2 : Bool) (w : World) (hr0 : Kd.C (Kd.int .i64) w A0 l0.length l0) (hc0 : l0.length ≤ c0) (h : impl_TurnHeights.f k l0 = some (r1, r2)) :
    Calls Try.prog 26 #[.slice A0 l0.length c0] w fun e w' => ∃ v0_ : Value, e = .returned (.tuple #[v0_, .bool r2]) ∧ Kd.R (Kd.int .i64) 3 w' w.heap.size (fun _ => True) v0_ r1 ∧ Below w.heap.size w w' := by
  obtain ⟨t, ht, h2⟩ := Option.bind_eq_some_iff.mp h
  have cA := impl_areHeights.calls k A0 c0 l0 t w hr0 hc0 ht
  clear h ht
  cases t with
  | false =>
    rw [if_neg (by simp)] at h2
    obtain ⟨rfl, rfl⟩ := Prod.mk.inj (Option.some.inj h2)
    clear h2 hr0 hc0
    have HC := Aside0.mk cA
    clear cA
    go_enter Try.func26, Try.ntmps26
    go_wp2_with (first | (go_at_call 74; refine HC.out.mono ?_; rintro e w' ⟨rfl, ⟨nd, rfl⟩⟩))
    go_ret2
    exact ⟨_, rfl, Kd.R_nil _ _ _ _ _, (Drawn0.step (Drawn0.refl _) _).below⟩
  | true =>
    rw [if_pos rfl] at h2
    split at h2
    next hb =>
      obtain ⟨rfl, rfl⟩ := Prod.mk.inj (Option.some.inj h2)
      clear h2
      obtain ⟨hl8, hh8⟩ := hb
      refine (callsIn_wide (n := 8)).1 ?_
      refine callsIn_of_wp_marks Try.func26 rfl trivial ?_ rfl
      simp only [Try.ntmps26, List.size_toArray, List.length_cons, List.length_nil, Nat.reduceAdd, Nat.reduceSub, Array.replicate_succ, Array.replicate_zero, List.push_toArray, List.append_toArray, List.nil_append, List.cons_append]
      have hf1 : Fence.wide.fn 74 := trivial
      gi_wp2_with (first | (gi_at_call 74; refine (callsIn_wide.2 cA).mono ?_; rintro e w' ⟨rfl, ⟨nd, rfl⟩⟩))
      have T0 : impl_TurnHeights.TS w (((w.drewN nd).alloc (Obj.cells #[] 4)).alloc (Obj.cells #[Value.int IntKind.i64 0] 3)) (w.heap.size + 1) (.slice (some ⟨w.heap.size, 0, none⟩) 0 0) [] 0 := by
        refine ⟨?_, ?_, ?_, by omega⟩
        · exact (own_lit_of (enc := Value.bool) (w.drewN nd) w.heap.size 4 [] (by simp) (by simp)).alloc _
        · have := Boxed.new ((w.drewN nd).alloc (Obj.cells #[] 4)) 3 (.int .i64 0)
          simpa using this
        · exact ((pw_below_drewN (Below.refl _ w) nd).alloc (by simp) _).alloc (by simp) _
      obtain ⟨i0, hi, hz0, hz1, hz2⟩ := info_parts info4
      clear cA hf1
      gi_loopw [4, 17] (fun v4 v17 wr => ∃ (i : Nat) (u : List Bool) (r : Nat), v17 = .int .i64 (i : Int) ∧ i ≤ l0.length ∧ Aside0 (impl_TurnHeights.ups (l0.drop i) i u r = impl_TurnHeights.ups l0 0 [] 0 ∧ r ≤ i ∧ u.length = i + r) ∧ impl_TurnHeights.TS w wr (w.heap.size + 1) v4 u (r : Int)) (fun _ v17 _ => l0.length - (intOf v17).toNat)
      case atStart => exact ⟨0, [], 0, rfl, Nat.zero_le _, ⟨rfl, Nat.le_refl _, rfl⟩, T0⟩
      case round =>
        clear T0
        obtain ⟨i, u, r, rfl, hil, HU, HT⟩ := hrel
        by_cases hlt : i < l0.length
        · obtain ⟨ad, rfl, hcell⟩ := Kd.at_int (Kd.C_below hr0 HT.bel) (i : Int) (by omega) (by omega)
          rw [Int.toNat_natCast] at hcell
          obtain ⟨hh0, hh1⟩ := hh8 (rd l0 (i : Int)) (by unfold rd; rw [Int.toNat_natCast, List.getD_eq_getElem?_getD, List.getElem?_eq_getElem hlt]; exact List.getElem_mem _)
          obtain ⟨x, hx⟩ : ∃ x, x = rd l0 (i : Int) := ⟨_, rfl⟩
          rw [← hx] at hcell hh0 hh1
          have HX := Aside0.mk hx
          clear hx
          obtain ⟨u0, u1, u2⟩ := HU.out
          obtain ⟨m, hm⟩ : ∃ m, m = ((i : Int) - x - r).toNat := ⟨_, rfl⟩
          have HM := Aside0.mk hm
          clear hm
          gi_wp2
          gi_loopw [4] (fun v4 wr => ∃ (q : Nat), Aside0 (q ≤ m) ∧ impl_TurnHeights.TS w wr (w.heap.size + 1) v4 (u ++ List.replicate q false) ((r : Int) + (q : Int))) (fun v4 wr => ((i : Int) - x - intOf ((wr.cell? ⟨w.heap.size + 1, 0, none⟩).getD undef)).toNat)
          case atStart => exact ⟨0, ⟨Nat.zero_le _⟩, by simpa using HT⟩
          case round =>
            clear HT
            obtain ⟨q, HQ, HT⟩ := hrel
            have hbc := HT.box.cell
            have hbf := HT.box.frozen
            have hq9 := HQ.out
            have hm9 := HM.out
            have hlen : (u ++ List.replicate q false).length ≤ 40 := by simp; omega
            by_cases hq : q < m
            · have hlt2 : (r : Int) + (q : Int) < (i : Int) - x := by omega
              have hq20 : (q : Int) ≤ 20 := by omega
              clear hm9
              gi_wp2_with (gi_at_builtin; refine wpListIn_append_own _ rfl _ _ 58 rfl w.heap.size 4 i0 (.bool false) 1 1 Try.underlying58 hi hz0 hz1 hz2 rfl (by decide) _ _ _ rfl (HT.own.alloc _) ⟨wr.heap.size, 0, none⟩ 1 1 [.bool false] rfl rfl (cell_one_new _ _ _) (by simp [Value.oneCell']) (by simp only [maxLen]; omega) (by omega) (by have := HT.bel.size; simp; omega) ?_; intro v' w1 hown' hgrow _; have HT1 := impl_TurnHeights.TS.app HT hown' hgrow; clear hown' hgrow hbc hbf; have hbc := HT1.box.cell; have hbf := HT1.box.frozen)
              refine ⟨⟨q + 1, ⟨by omega⟩, ?_⟩, ?_⟩
              · have e1 : u ++ List.replicate (q + 1) false = u ++ List.replicate q false ++ [false] := by rw [List.replicate_succ', ← List.append_assoc]
                have e2 : (r : Int) + ((q + 1 : Nat) : Int) = (r : Int) + (q : Int) + 1 := by omega
                rw [e1, e2]
                exact HT1.set _
              · rw [(HT1.set ((r : Int) + (q : Int) + 1)).box.cell, HT.box.cell]
                simp only [intOf, Option.getD_some]
                omega
            · obtain rfl : q = m := by omega
              have hlt2 : (i : Int) - x ≤ (r : Int) + (q : Int) := by omega
              have hq20 : (q : Int) ≤ 20 := by omega
              have hqm : (r : Int) + (q : Int) ≤ i := by omega
              clear hm9 u0
              gi_wp2_with (gi_at_builtin; refine wpListIn_append_own _ rfl _ _ 58 rfl w.heap.size 4 i0 (.bool false) 1 1 Try.underlying58 hi hz0 hz1 hz2 rfl (by decide) _ _ _ rfl (HT.own.alloc _) ⟨wr.heap.size, 0, none⟩ 1 1 [.bool true] rfl rfl (cell_one_new _ _ _) (by simp [Value.oneCell']) (by simp only [maxLen]; omega) (by omega) (by have := HT.bel.size; simp; omega) ?_; intro v' w1 hown' hgrow _; have HT1 := impl_TurnHeights.TS.app HT hown' hgrow; clear hown' hgrow hbc hbf; have hbc := HT1.box.cell; have hbf := HT1.box.frozen)
              have hst := impl_TurnHeights.ups_step l0 i hlt u (r : Int)
              rw [← HX.out, ← HM.out] at hst
              refine ⟨⟨i + 1, u ++ List.replicate q false ++ [true], r + q, by congr 1, by omega, ⟨?_, by omega, by simp; omega⟩, ?_⟩, by simp [intOf]; omega⟩
              · rw [show ((r + q : Nat) : Int) = (r : Int) + (q : Int) by omega, ← hst]
                exact HU.out.1
              · rw [show ((r + q : Nat) : Int) = (r : Int) + (q : Int) by omega]
                exact HT1
        · obtain rfl : i = l0.length := by omega
          obtain ⟨u0, u1, u2⟩ := HU.out
          have hup : impl_TurnHeights.ups l0 0 [] 0 = (u, (r : Int)) := by rw [← u0, List.drop_length, impl_TurnHeights.ups]
          have HUP := Aside0.mk hup
          obtain ⟨m, hm⟩ : ∃ m, m = l0.length - r := ⟨_, rfl⟩
          have HM := Aside0.mk hm
          clear hm hup u0
          gi_wp2
          gi_loopw [4] (fun v4 wr => ∃ (q : Nat), Aside0 (q ≤ m) ∧ impl_TurnHeights.TS w wr (w.heap.size + 1) v4 (u ++ List.replicate q false) ((r : Int) + (q : Int))) (fun v4 wr => ((l0.length : Int) - intOf ((wr.cell? ⟨w.heap.size + 1, 0, none⟩).getD undef)).toNat)
          case atStart => exact ⟨0, ⟨Nat.zero_le _⟩, by simpa using HT⟩
          case round =>
            clear HT
            obtain ⟨q, HQ, HT⟩ := hrel
            have hbc := HT.box.cell
            have hbf := HT.box.frozen
            have hq9 := HQ.out
            have hm9 := HM.out
            have hlen : (u ++ List.replicate q false).length ≤ 40 := by simp; omega
            by_cases hq : q < m
            · have hlt2 : (r : Int) + (q : Int) < (l0.length : Int) := by omega
              have hq20 : (q : Int) ≤ 20 := by omega
              clear hm9
              gi_wp2_with (gi_at_builtin; refine wpListIn_append_own _ rfl _ _ 58 rfl w.heap.size 4 i0 (.bool false) 1 1 Try.underlying58 hi hz0 hz1 hz2 rfl (by decide) _ _ _ rfl (HT.own.alloc _) ⟨wr.heap.size, 0, none⟩ 1 1 [.bool false] rfl rfl (cell_one_new _ _ _) (by simp [Value.oneCell']) (by simp only [maxLen]; omega) (by omega) (by have := HT.bel.size; simp; omega) ?_; intro v' w1 hown' hgrow _; have HT1 := impl_TurnHeights.TS.app HT hown' hgrow; clear hown' hgrow hbc hbf; have hbc := HT1.box.cell; have hbf := HT1.box.frozen)
              refine ⟨⟨q + 1, ⟨by omega⟩, ?_⟩, ?_⟩
              · have e1 : u ++ List.replicate (q + 1) false = u ++ List.replicate q false ++ [false] := by rw [List.replicate_succ', ← List.append_assoc]
                have e2 : (r : Int) + ((q + 1 : Nat) : Int) = (r : Int) + (q : Int) + 1 := by omega
                rw [e1, e2]
                exact HT1.set _
              · rw [(HT1.set ((r : Int) + (q : Int) + 1)).box.cell, HT.box.cell]
                simp only [intOf, Option.getD_some]
                omega
            · obtain rfl : q = m := by omega
              have hlt2 : (l0.length : Int) ≤ (r : Int) + (q : Int) := by omega
              clear hm9
              obtain ⟨us, hus⟩ : ∃ us, us = u ++ List.replicate q false := ⟨_, rfl⟩
              rw [← hus] at HT hlen
              have HUS := Aside0.mk hus
              clear hus u2 HQ hq9 hq
              obtain ⟨A4, c4, rfl⟩ := own_slice HT.own
              have hbl := HT.box.lt
              have hf1 : Fence.wide.fn 75 := trivial
              have hbc2 := (HT.box.alloc (.cells #[] 3)).alloc (.cells #[.slice (some ⟨wr.heap.size, 0, none⟩) 0 0] 22)
              have hb3 := hbc2.cell
              have hb4 := hbc2.frozen
              gi_wp2_with (gi_at_call 75; refine (backBool_in Fence.wide _ trivial rfl _ _ _ _).mono ?_; rintro e w' ⟨rfl, hw⟩; rw [hw])
              obtain ⟨W4, hW4⟩ : ∃ W4, ((((wr.alloc (Obj.cells #[] 3)).alloc (Obj.cells #[Value.slice (some ⟨wr.heap.size, 0, none⟩) 0 0] 22)).setCell ⟨w.heap.size + 1, 0, none⟩ (Value.int IntKind.i64 0)).alloc (Obj.cells #[Value.slice A4 us.length c4] 58)) = W4 := ⟨_, rfl⟩
              rw [hW4]
              have hsz : W4.heap.size = wr.heap.size + 3 := by rw [← hW4]; simp [World.setCell]
              have b1 : Boxed W4 (w.heap.size + 1) 3 (.int .i64 0) := by rw [← hW4]; exact (hbc2.set _).alloc _
              have b2 : Boxed W4 (wr.heap.size + 1) 22 (.slice (some ⟨wr.heap.size, 0, none⟩) 0 0) := by
                rw [← hW4]
                have h9 := Boxed.new (wr.alloc (Obj.cells #[] 3)) 22 (.slice (some ⟨wr.heap.size, 0, none⟩) 0 0)
                rw [World.size_alloc] at h9
                exact (h9.kept (grownBy_setCell' _ (w.heap.size + 1) _) (by simp; omega)).alloc _
              have b3 : Boxed W4 (wr.heap.size + 2) 58 (.slice A4 us.length c4) := by
                rw [← hW4]
                have h9 := Boxed.new (((wr.alloc (Obj.cells #[] 3)).alloc (Obj.cells #[Value.slice (some ⟨wr.heap.size, 0, none⟩) 0 0] 22)).setCell ⟨w.heap.size + 1, 0, none⟩ (Value.int IntKind.i64 0)) 58 (.slice A4 us.length c4)
                rwa [show (((wr.alloc (Obj.cells #[] 3)).alloc (Obj.cells #[Value.slice (some ⟨wr.heap.size, 0, none⟩) 0 0] 22)).setCell ⟨w.heap.size + 1, 0, none⟩ (Value.int IntKind.i64 0)).heap.size = wr.heap.size + 2 by simp [World.setCell]] at h9
              have r0 : W4.ownsRow wr.heap.size 3 1 (.slice (some ⟨wr.heap.size, 0, none⟩) 0 0) 0 [] := by
                rw [← hW4]
                have h9 := ((own_lit_of (enc := Value.int .i64) wr wr.heap.size 3 [] (Nat.le_refl _) (by simp)).alloc (Obj.cells #[Value.slice (some ⟨wr.heap.size, 0, none⟩) 0 0] 22))
                exact (h9.kept (grownBy_setCell' _ (w.heap.size + 1) _) (.inr (by simp [Value.ownBlock]; omega))).alloc _
              have B4 : Below w.heap.size w W4 := by
                rw [← hW4]
                exact (((HT.bel.alloc HT.bel.size _).alloc (by have := HT.bel.size; simp; omega) _).setCell (p := ⟨w.heap.size + 1, 0, none⟩) (by simp) _).alloc (by have := HT.bel.size; simp [World.setCell]; omega) _
              -- the row of the steps, as Backward reads it
              have hrowU : ∀ j (hj : j < us.length), ∃ ad, A4 = some ad ∧ ad.block < wr.heap.size ∧ ad.block ≠ w.heap.size + 1 ∧ W4.cell? (ad.add j) = some (.bool us[j]) := fun j hj => by
                obtain ⟨g, cap, hg, _, _⟩ := HT.own.form (by omega)
                injection hg with hg1 _ hg3
                have hob : (Value.slice A4 us.length c4).ownBlock = some g := by rw [hg1]; simp [Value.ownBlock]
                have hlt3 := own_lt HT.own g hob
                have hne : g ≠ w.heap.size + 1 := fun e => HT.box.not_row (by decide) HT.own (by rw [← e, hob])
                refine ⟨_, hg1, hlt3, hne, ?_⟩
                have hcl := HT.own.cells (g := g) hob j (.bool us[j]) (by simp [encs, hj])
                rw [← hcl]
                refine impl_TurnHeights.cell_same ?_
                rw [add_plain, ← hW4]
                exact (Below.heap_alloc _ _ g (by simp [World.setCell]; omega)).trans ((Below.heap_setCell _ _ _ g hne).trans ((Below.heap_alloc _ _ g (by simp; omega)).trans (Below.heap_alloc _ _ g hlt3)))
              have h1 : 1 ≤ 8 := by omega
              obtain ⟨i3, gi3, gz0, gz1, gz2⟩ := info_parts info3
              have HW4 := Aside0.mk hW4
              clear hW4 hbc hbf hb3 hb4 hbc2
              refine wpIn_rangeFunc_ownG rfl h1 (gf := 113) (lb := #[.pointer (some ⟨wr.heap.size + 2, 0, none⟩)]) rfl trivial (enters_of Try.func113 (by kernel_rfl) rfl)
                (backBool_stops Value.bool Fence.wide _ trivial rfl (by omega) (wr.heap.size + 2) A4 c4 us (by omega) (fun a => a = ⟨wr.heap.size + 2, 0, none⟩ ∨ a.block < wr.heap.size ∧ a.block ≠ w.heap.size + 1) (.inl rfl) W4 (by omega) b3.cell (fun j hj => by
                  obtain ⟨ad, e1, e2, e3, e4⟩ := hrowU j hj
                  exact ⟨ad, e1, .inr ⟨by rw [add_block]; exact e2, by rw [add_block]; exact e3⟩, e4⟩)) KpCBool.trans (fun W l o o' => KpCBool.put W l o o') (Below.refl _ _) (fun _ => rfl)
                (fun pre W => (∃ v, Boxed W (wr.heap.size + 1) 22 v ∧ W.ownsRow wr.heap.size 3 1 v (impl_TurnHeights.st pre).1.length ((impl_TurnHeights.st pre).1.map (Value.int .i64)) ∧ True) ∧ Boxed W (w.heap.size + 1) 3 (.int .i64 (impl_TurnHeights.st pre).2) ∧ Boxed W (wr.heap.size + 2) 58 (.slice A4 us.length c4) ∧ Below w.heap.size w W)
                (fun _ _ _ => False)
                (OwnFrom.and (Own.from (holdsRow_own wr.heap.size (wr.heap.size + 1) 22 3 1 (fun pre => (impl_TurnHeights.st pre).1.length) (fun pre => (impl_TurnHeights.st pre).1.map (Value.int .i64)) (fun _ _ => True)) _) (OwnFrom.and (Own.from (boxed_own (w.heap.size + 1) 3 (fun pre => .int .i64 (impl_TurnHeights.st pre).2)) _) (OwnFrom.and (Own.from (boxed_own (wr.heap.size + 2) 58 (fun _ => .slice A4 us.length c4)) _) (ownFrom_below (Nat.le_refl _) (by rw [hsz]; have := HT.bel.size; omega)))))
                (fun _ _ _ _ _ hs _ _ => hs)
                ⟨⟨_, b2, r0, trivial⟩, b1, b3, B4⟩
                (fun x => { tmps := #[.slice A0 l0.length c0, undef, .slice none 0 0, .bool false, .slice A4 us.length c4, .pointer (some ⟨w.heap.size + 1, 0, none⟩), u6, u7, .pointer (some ⟨wr.heap.size + 1, 0, none⟩), undef, .bool x.2, .slice A0 l0.length c0, .bool true, .bool false, .slice (some ⟨w.heap.size, 0, none⟩) 0 0, .slice A0 l0.length c0, .int .i64 l0.length, .int .i64 l0.length, .bool false, u19, u20, u21, u22, u23, u24, u25, u26, u27, u28, u29, u30, u31, u32, u33, u34, u35, .int .i64 ((r : Int) + (q : Int)), .slice A0 l0.length c0, .int .i64 l0.length, .bool (decide ((r : Int) + (q : Int) < (l0.length : Int))), u40, u41, u42, u43, u44, .slice (some ⟨wr.heap.size, 0, none⟩) 0 0, .slice A4 us.length c4, .func (.func 113) #[] #[.pointer (some ⟨wr.heap.size + 2, 0, none⟩)], .int .i64 (x.1 : Int), .bool x.2, undef, undef, undef, undef, undef, undef, undef, undef, undef, undef, undef], defers := [] }) ?assign ?body ?done ?stop
              case assign =>
                intro l x W K hK
                gi_wp2
                exact hK
              case body =>
                rintro l pre ⟨xi, xb⟩ W ⟨⟨v, hv, hrow, -⟩, hb1, hb3, hB⟩ hlt9
                have hs0 := impl_TurnHeights.st_bound (pre.map (·.2)) ([], 0) (Int.le_refl _)
                obtain ⟨sl, sr, hs⟩ : ∃ sl sr, impl_TurnHeights.st pre = (sl, sr) := ⟨_, _, rfl⟩
                rw [show (pre.map (·.2)).foldl impl_TurnHeights.stp ([], 0) = (sl, sr) from hs, List.length_map] at hs0
                obtain ⟨n1, n2, n3⟩ := hs0
                have n4 : sl.length ≤ 40 := by have : sl.length ≤ 0 + pre.length := n1; omega
                have n5 : sr ≤ 40 := by have : sr ≤ 0 + (pre.length : Int) := n3; omega
                have n6 : 0 ≤ sr := n2
                rw [hs] at hrow hb1
                dsimp only at hrow hb1
                have hsn := impl_TurnHeights.st_snoc pre (xi, xb)
                rw [hs] at hsn
                have hwsz := hb3.lt
                have hvb := own_base hrow
                have HLT := Aside0.mk hlt9
                clear n1 n2 n3 hs hlt9
                cases xb with
                | true =>
                  have hsn2 : impl_TurnHeights.st (pre ++ [(xi, true)]) = (sl, sr + 1) := hsn
                  have HSN := Aside0.mk hsn2
                  clear hsn hsn2
                  have c1 := hb1.cell
                  have f1 := hb1.frozen
                  gi_wp2
                  refine ⟨(KeepsOthers.setCell _ _ _).from _, ?_, ?_⟩
                  · intro a v9 hC hv9
                    refine (impl_TurnHeights.cell_same (Below.heap_setCell _ _ _ _ ?_)).trans hv9
                    rcases hC with rfl | ⟨_, hC⟩
                    · show wr.heap.size + 2 ≠ w.heap.size + 1
                      omega
                    · exact hC
                  · dsimp only
                    rw [HSN.out]
                    exact ⟨⟨v, hv.kept (grownBy_setCell' W (w.heap.size + 1) _) (by simp; omega), hrow.kept (grownBy_setCell' W (w.heap.size + 1) _) (.inr fun e => by have := hvb _ e; omega), trivial⟩, hb1.set _, hb3.kept (grownBy_setCell' W (w.heap.size + 1) _) (by simp; omega), hB.setCell (p := ⟨w.heap.size + 1, 0, none⟩) (by simp) _⟩
                | false =>
                  have hsn2 : impl_TurnHeights.st (pre ++ [(xi, false)]) = (sl ++ [(sl.length : Int) - sr], sr) := hsn
                  have HSN := Aside0.mk hsn2
                  clear hsn hsn2
                  obtain ⟨Av, cv, rfl⟩ := own_slice hrow
                  have c1 := hb1.cell
                  have c8 := hv.cell
                  have f8 := hv.frozen
                  gi_wp2_with (gi_at_builtin; refine wpListIn_append_own _ rfl _ _ 22 rfl wr.heap.size 3 i3 (.int .i64 0) 1 8 Try.underlying22 gi3 gz0 gz1 gz2 rfl (by decide) _ _ _ rfl (hrow.alloc _) ⟨W.heap.size, 0, none⟩ 1 1 [.int .i64 ((sl.length : Int) - sr)] rfl rfl (cell_one_new _ _ _) (by simp [Value.oneCell']) (by simp only [maxLen]; omega) (by omega) (by simp; omega) ?_; intro v' w1 hown' hgrow _; obtain ⟨g', cap', rfl⟩ := ownsRow_succ hown'; obtain ⟨hv1, hv2, hr2, hk2, hb2⟩ := hv.appended (by decide) hrow (by omega) (by omega) hown' hgrow; have hb3' := ((hb3.alloc _).kept hgrow (hb3.not_row (by decide) hrow)).kept (grownBy_setCell' w1 (wr.heap.size + 1) (.slice (some ⟨g', 0, none⟩) (sl.length + 1) cap')) (by simp); have hc1 := hv1.cell; have hf1 := hv1.frozen; clear hown' hgrow c1 c8 f8)
                  refine ⟨hk2.from _, ?_, ?_⟩
                  · intro a v9 hC hv9
                    rcases hC with rfl | ⟨hC, _⟩
                    · exact hb3'.cell.trans (hb3.cell.symm.trans hv9)
                    · exact (hb2.cell hC).trans hv9
                  · dsimp only
                    rw [HSN.out]
                    refine ⟨⟨_, hv2, by simpa using hr2⟩, (hb2.block _ hbl).trans hb1, hb3', hB.trans (hb2.mono (by have := HT.bel.size; omega))⟩
              case done =>
                rintro D ys W hD hys ⟨⟨v, hv, hrow, -⟩, hb1, hb3, hB⟩ hK
                have hres : (impl_TurnHeights.st ys).1 = impl_TurnHeights.res l0 := by
                  unfold impl_TurnHeights.st impl_TurnHeights.res impl_TurnHeights.path
                  rw [hys, backIBool_map2, HUP.out]
                  show (us.reverse.foldl impl_TurnHeights.stp ([], 0)).1 = ((u ++ List.replicate ((l0.length : Int) - (r : Int)).toNat false).reverse.foldl impl_TurnHeights.stp ([], 0)).1
                  rw [show ((l0.length : Int) - (r : Int)).toNat = q by have := HM.out; omega, ← HUS.out]
                rw [hres] at hrow
                have c8 := hv.cell
                gi_wp2
                refine ⟨by simp, .inl ⟨_, _, rfl, run_takeDeferred hK, ?_⟩⟩
                exact ⟨_, (by simp [results, Try.results26, go_sem] : _ = _), v, rfl, Kd.R_of_own (own_weaken (ownsRow_putObj hrow _ hK rfl) HT.bel.size) (fun _ _ => trivial), hB.trans (belowK_b (w := w) (Nat.le_refl _) W D _ _ (by have := HT.bel.size; omega) hK rfl rfl)⟩
              case stop =>
                rintro D c pre W _ _ h _
                exact h.elim
    next => cases h2
end

/-! ### laws_big: function 46 -/
def laws_big.f (l0 : List Int) (l1 : List Int) : Option (Bool) := if (l0.length : Int) > 1048576 then (some true) else (some (decide ((l1.length : Int) > (wrap64 (1048576 - (l0.length : Int))))))
set_option maxHeartbeats 8000000 in
set_option maxRecDepth 100000 in
theorem laws_big.calls (A0 : Option Addr) (c0 : Nat) (l0 : List Int) (A1 : Option Addr) (c1 : Nat) (l1 : List Int) (r : Bool) (w : World) (hr0 : Kd.C (Kd.int .u8) w A0 l0.length l0) (hc0 : l0.length ≤ c0) (hr1 : Kd.C (Kd.int .u8) w A1 l1.length l1) (hc1 : l1.length ≤ c1) (h : laws_big.f l0 l1 = some r) :
    Calls Try.prog 46 #[.slice A0 l0.length c0, .slice A1 l1.length c1] w fun e w' => e = .returned (.bool r) ∧ Drawn0 w w' := by
  have HR0 := Aside0.mk hr0
  have HC0 := Aside0.mk hc0
  clear hr0 hc0
  have HR1 := Aside0.mk hr1
  have HC1 := Aside0.mk hc1
  clear hr1 hc1
  have H : (if (l0.length : Int) > 1048576 then (some true) else (some (decide ((l1.length : Int) > (wrap64 (1048576 - (l0.length : Int))))))) = some r := h
  clear h
  by_cases c3 : (l0.length : Int) > 1048576
  · rw [if_pos c3] at H
    have c3b0 : decide (1048576 < (l0.length : Int)) = true := decide_eq_true c3
    have c3b1 : decide (1048576 < l0.length) = true := decide_eq_true (by omega)
    clear c3
    obtain rfl := Option.some.inj H
    go_enter Try.func46, Try.ntmps46
    go_wp2
    go_ret
    exact ⟨by first | rfl | (simp; done) | (simp [*]; done), by repeat (first | exact Drawn0.refl _ | apply Drawn0.step)⟩
  · rw [if_neg c3] at H
    have c3b0 : decide (1048576 < (l0.length : Int)) = false := decide_eq_false c3
    have c3b1 : decide (1048576 < l0.length) = false := decide_eq_false (by omega)
    clear c3
    obtain rfl := Option.some.inj H
    go_enter Try.func46, Try.ntmps46
    go_wp2
    go_ret
    exact ⟨by first | rfl | (simp; done) | (simp [*]; done), by repeat (first | exact Drawn0.refl _ | apply Drawn0.step)⟩

end Go.Proofs.Ytmollfkakalagaa.PFnHeightsTurned
