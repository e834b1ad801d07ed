-- Written by a program of this session for this claim (its own turn of the print).
import Derived.Test.YtlknoidcopkmfaaGreatDoorPFnWalkTextsx0
import Derived.Test.YtlknoidcopkmfaaGreatDoorPFnWalkTextsx7
import Derived.Test.YtlknoidcopkmfaaGreatDoorPFnWalkTextsx12
import Derived.Test.YtlknoidcopkmfaaGreatDoorPFnWalkTextsx13
namespace Go.Proofs.YtlknoidcopkmfaaGreatDoor.PFnWalkTexts
open Go.RowKit Go.Proofs.YtlknoidcopkmfaaGreatDoorW.PrintWords Go.Proofs.YtlknoidcopkmfaaGreatDoorW.PrintLast Go.Proofs.YtlknoidcopkmfaaGreatDoorW.PrintMore
attribute [local go_sem] max2_int min2_int max_two min_two max_three min_three max_four min_four   -- for this text's walks alone
set_option linter.unusedVariables false
set_option linter.unusedSimpArgs false

/-! ### impl_countOrders_1: function 102 handed to function 101 -/
def impl_countOrders_1.p (a1 : Int) (n : Int) : Bool := decide (n = a1)
set_option maxHeartbeats 8000000 in
set_option maxRecDepth 100000 in
theorem impl_countOrders_1.pred (gb1 : Nat) (a1 : Int) (w : World) (hbox1 : w.heap[gb1]? = some (.cells #[.int .i64 a1] 3 (0, 0))) : PredI Tryz.prog 102 #[.pointer (some ⟨gb1, 0, none⟩)] (impl_countOrders_1.p a1) w := by
  intro W x hb
  have hc1 : W.cell? ⟨gb1, 0, none⟩ = some (.int .i64 a1) := (blk_cell (blk_below hbox1 hb) 0).trans rfl
  clear hbox1
  clear hb
  show Calls Tryz.prog 102 #[.int .i64 x, .pointer (some ⟨gb1, 0, none⟩)] W (fun e w' => e = .returned (.bool (decide (x = a1))) ∧ Drawn0 W w')
  go_enter Tryz.func102, Tryz.ntmps102
  go_wp2
  go_ret
  exact ⟨by first | rfl | (simp; done) | (congr 2; rw [Bool.eq_iff_iff]; simp; done), Drawn0.refl _⟩
def impl_countOrders_1.f (k : Nat) (l0 : List Int) (a1 : Int) : Option (Int) := impl_countIf.f (impl_countOrders_1.p a1) k l0
theorem impl_countOrders_1.mono : ∀ a0 a1 k, LeO (impl_countOrders_1.f k a0 a1) (impl_countOrders_1.f (k + 1) a0 a1) := fun a0 a1 k => impl_countIf.mono (impl_countOrders_1.p a1) a0 k
theorem impl_countOrders_1.calls (k : Nat) (A0 : Option Addr) (c0 : Nat) (l0 : List Int) (gb1 : Nat) (a1 : Int) (r : Int) (w : World) (hr0 : Kd.C (Kd.int .i64) w A0 l0.length l0) (hc0 : l0.length ≤ c0) (hbox1 : w.heap[gb1]? = some (.cells #[.int .i64 a1] 3 (0, 0))) (h : impl_countOrders_1.f k l0 a1 = some r) :
    Calls Tryz.prog 101 #[.slice A0 l0.length c0, .func (.func 102) #[] #[.pointer (some ⟨gb1, 0, none⟩)]] w fun e w' => e = .returned ((.int .i64 r)) ∧ Drawn0 w w' :=
  impl_countIf.calls k A0 c0 l0 102 #[.pointer (some ⟨gb1, 0, none⟩)] (impl_countOrders_1.p a1) r w hr0 hc0 (enters_of Tryz.func102 (by kernel_rfl) rfl) (impl_countOrders_1.pred gb1 a1 w hbox1) h

/-! ### impl_countOrders: function 74 -/
def impl_countOrders.l0 : Nat → List Int → Int → Int → List Int → Int → Int → Option (Int)
 | 0, _, _, _, _, _, _ => none
 | k + 1, x0, x3, x4, x12, x13, x14 => if x14 < x13 then (if 0 ≤ x14 then (if x14 < (x12.length : Int) then ((impl_countOrders_1.f k x0 (rd x12 x14)).bind fun t521 => ((impl_choose.f k x4 t521).bind fun t522 => (impl_countOrders.l0 k x0 (wrap64 (x3 * t522)) (wrap64 (x4 - t521)) x12 x13 (wrap64 (x14 + 1))))) else (none)) else (none)) else (some x3)
def impl_countOrders.f (k : Nat) (l0 : List Int) : Option (Int) := (impl_sorted.f k l0).bind fun t513 => ((slices_Compact_int_int.f k t513).bind fun t516 => (impl_countOrders.l0 k l0 1 (l0.length : Int) t516 (t516.length : Int) 0))
theorem impl_countOrders.mono_l : ∀ k, (∀ y0 y1 y2 y3 y4 y5, LeO (impl_countOrders.l0 k y0 y1 y2 y3 y4 y5) (impl_countOrders.l0 (k + 1) y0 y1 y2 y3 y4 y5))
 | 0 => fun _ _ _ _ _ _ r h => by simp [impl_countOrders.l0] at h
 | k + 1 => by
  have ih0 := impl_countOrders.mono_l k
  ·intro y0 y1 y2 y3 y4 y5
   unfold impl_countOrders.l0
   repeat' first | (with_reducible first | exact ih0 _ _ _ _ _ _ | exact impl_choose.mono _ _ _ | exact impl_countOrders_1.mono _ _ _ | exact impl_sorted.mono _ _ | exact slices_Compact_int_int.mono _ _ | exact LeO.refl _ | exact LeO.none _ | refine LeO.ite ?_ ?_ | refine LeO.bind ?_ (fun _ => ?_)) | exact LeO.none _ | refine LeO.ite ?_ ?_ | refine LeO.bind ?_ (fun _ => ?_)
theorem impl_countOrders.mono : ∀ a0 k, LeO (impl_countOrders.f k a0) (impl_countOrders.f (k + 1) a0) := by
 intro a0 k
 have ih0 := impl_countOrders.mono_l k
 unfold impl_countOrders.f
 repeat' first | (with_reducible first | exact ih0 _ _ _ _ _ _ | exact impl_choose.mono _ _ _ | exact impl_countOrders_1.mono _ _ _ | exact impl_sorted.mono _ _ | exact slices_Compact_int_int.mono _ _ | exact LeO.refl _ | exact LeO.none _ | refine LeO.ite ?_ ?_ | refine LeO.bind ?_ (fun _ => ?_)) | exact LeO.none _ | refine LeO.ite ?_ ?_ | refine LeO.bind ?_ (fun _ => ?_)
set_option maxHeartbeats 8000000 in
set_option maxRecDepth 100000 in
theorem impl_countOrders.calls (k : Nat) (A0 : Option Addr) (c0 : Nat) (l0 : List Int) (r : Int) (w : World) (hr0 : Kd.C (Kd.int .i64) w A0 l0.length l0) (hc0 : l0.length ≤ c0) (h : impl_countOrders.f k l0 = some r) :
  Calls Tryz.prog 74 #[.slice A0 l0.length c0] w fun e w' => e = .returned (.int .i64 r) ∧ Below w.heap.size w w' := by
 have HR0 := Aside0.mk hr0
 have HC0 := Aside0.mk hc0
 clear hr0 hc0
 have HB := Aside0.mk (Below.refl w.heap.size w)
 have H : ((impl_sorted.f k l0).bind fun t513 => ((slices_Compact_int_int.f k t513).bind fun t516 => (impl_countOrders.l0 k l0 1 (l0.length : Int) t516 (t516.length : Int) 0))) = some r := h
 clear h
 replace H := Option.bind_eq_some_iff.mp H
 obtain ⟨t513, A20, H⟩ := H
 (try dsimp -simprocs only at H)
 have A2 := Aside0.mk A20
 clear A20
 replace H := Option.bind_eq_some_iff.mp H
 obtain ⟨t516, A30, H⟩ := H
 (try dsimp -simprocs only at H)
 have A3 := Aside0.mk A30
 clear A30
 have H' := Aside0.mk H
 clear H
 have hmf : ∀ (fn_ : Fn) (first_ cap_ : Array Value) (w_ : World), (Instr.makeFunc fn_ first_ cap_).run Tryz.prog w_ = .ok (.func fn_ first_ cap_) w_ := fun _ _ _ _ => rfl
 go_enter Tryz.func74, Tryz.ntmps74
 go_wp2_with (first | ((with_reducible refine gate_callee (f := 100) rfl ?_); refine gcW 11 Tryz.func100 #[.slice A0 l0.length c0] rfl ?_; (with_reducible refine (impl_sorted.calls k _ _ l0 t513 _ ?side1 ?side2 A2.out).mono ?_); (case side1 => exact cbW HR0.out); (case side2 => exact HC0.out); rintro e w4 ⟨v514, rfl, ho0, hb⟩; refine ⟨_, rfl, ?_⟩; have n0_ := Aside0.mk (Kd.R_lower ho0 (below_size (nbW HB.out))); have n1_ := Aside0.mk (below_step (nbW HB.out) hb); clear HB; have HO515 := n0_; have HB := n1_; clear n0_ n1_; (try clear hb); (try clear hb2); (try clear hk); (try clear hi); (try clear ho0); obtain ⟨Ao5, co5, eo5⟩ := Kd.R_slice HO515.out; subst eo5) | ((with_reducible refine gate_callee (f := 99) rfl ?_); refine gcW 12 Tryz.func99 #[.slice Ao5 t513.length co5] rfl ?_; (with_reducible refine (slices_Compact_int_int.calls k (fun _ => True) _ t513 t516 w _ ?side1 ?side2 A3.out).mono ?_); (case side1 => exact (nbW HB.out)); (case side2 => apply rbW; exact Kd.R_mono HO515.out (fun _ _ => trivial)); rintro e w6 ⟨v517, rfl, ho0, hb⟩; refine ⟨_, rfl, ?_⟩; clear HO515 HB; have HO518 := Aside0.mk ho0; have HB := Aside0.mk hb; clear ho0 hb; obtain ⟨Ao7, co7, eo7⟩ := Kd.R_slice HO518.out; subst eo7))
 go_loopg [3, 4, 14] k (fun kq v3 v4 v14 w' => ∃ (x3_1 : Int) (x4_1 : Int) (x14_1 : Int), v3 = .int .i64 x3_1 ∧ v4 = .int .i64 x4_1 ∧ v14 = .int .i64 x14_1 ∧ Aside0 (impl_countOrders.l0 kq l0 x3_1 x4_1 t516 (t516.length : Int) x14_1 = some r) ∧ Aside0 (kq ≤ k) ∧ Aside0 (Kd.R (Kd.int .i64) 3 w' w.heap.size (fun _ => True) (.slice Ao7 t516.length co7) t516) ∧ Aside0 (Below w.heap.size w w'))
 case atStart => exact ⟨(1), ((l0.length : Int)), (0), (by first | rfl | (simp; done) | (simp [*]; done)), (by first | rfl | (simp; done) | (simp [*]; done)), (by first | rfl | (simp; done) | (simp [*]; done)), H', ⟨Nat.le_refl _⟩, ⟨by apply rbW; exact Kd.R_mono HO518.out (fun _ hk => trivial)⟩, ⟨nbW HB.out⟩⟩
 case round =>
  clear H'
  try clear c1
  try clear p2
  try clear c7
  obtain ⟨x3_1, x4_1, x14_1, rfl, rfl, rfl, HA, HK1, HO_12, HB⟩ := hrel
  cases gk with
  | zero => exact absurd HA.out (by simp [impl_countOrders.l0])
  | succ k1 =>
   have H := HA.out
   clear HA
   simp only [impl_countOrders.l0] at H
   by_cases c8 : x14_1 < (t516.length : Int)
   ·rw [if_pos c8] at H
    have c8b0 := decide_eq_true c8
    clear c8
    by_cases c9 : 0 ≤ x14_1
    ·rw [if_pos c9] at H
     have c9b0 := decide_eq_true c9
     clear c9
     by_cases c10 : x14_1 < (t516.length : Int)
     ·rw [if_pos c10] at H
      have c10b0 := decide_eq_true c10
      clear c10
      replace H := Option.bind_eq_some_iff.mp H
      obtain ⟨t521, A110, H⟩ := H
      (try dsimp -simprocs only at H)
      have A11 := Aside0.mk A110
      clear A110
      replace H := Option.bind_eq_some_iff.mp H
      obtain ⟨t522, A120, H⟩ := H
      (try dsimp -simprocs only at H)
      have A12 := Aside0.mk A120
      clear A120
      have H' := Aside0.mk H
      clear H
      have p519 : 0 ≤ (x14_1 : Int) := of_decide_eq_true (by first | (with_reducible assumption) | assumption)
      have q519 : x14_1 < (t516.length : Int) := of_decide_eq_true (by first | (with_reducible assumption) | assumption)
      obtain ⟨ad519, e519, hx519_0⟩ := Kd.at_int (Kd.R_reads' HO_12.out).2.2 x14_1 p519 q519
      cases e519
      replace p519 := eq_true p519
      replace q519 := eq_true q519
      go_wp2_with (first | ((with_reducible refine gate_dst (N := 6) rfl ?_); refine box_event ?hg (N := 6) ?hd (cs := #[.int .i64 0]) (t := 3) ?hr ?_; (case hd => rfl); (case hg => rfl); (case hr => first | (go_simp; done) | (go_simp; rfl)); intro gb520 hg w13 hbox hb; have n0_ := Aside0.mk (Kd.R_below (Kd.R_elderB (rbW HO_12.out) gb520 (Nat.le_of_eq hg.symm)) hb); have n1_ := Aside0.mk (below_step (nbW HB.out) hb); have n2_ := Aside0.mk (hbox); have n3_ := Aside0.mk ((by rw [hg]; exact (below_size (nbW HB.out)) : w.heap.size ≤ gb520)); have n4_ := Aside0.mk ((by rw [hg]; exact (below_size (nbW HB.out)) : w.heap.size ≤ gb520)); clear HO_12; clear HB; have HO_12 := n0_; have HB := n1_; have BK520 := n2_; have GW520 := n3_; have GE520 := n4_; clear n0_ n1_ n2_ n3_ n4_; clear hb hbox hg; have hcz14_0 : w13.cell? ⟨gb520, 0, none⟩ = some (.int .i64 0) := (blk_cell BK520.out 0).trans rfl; have hfz14_0 := blk_frozen BK520.out 0) | ((with_reducible refine gate_callee (f := 101) rfl ?_); refine gcW 20 Tryz.func101 #[.slice A0 l0.length c0, .func (.func 102) #[] #[.pointer (some ⟨gb520, 0, none⟩)]] rfl ?_; (with_reducible refine (impl_countOrders_1.calls k1 _ _ l0 gb520 (rd t516 x14_1) t521 _ ?side1 ?side2 ?side3 A11.out).mono ?_); (case side1 => exact Kd.C_below HR0.out (by repeat (first | exact nbW HB.out | refine nbW (below_set ?_ GE520.out)))); (case side2 => exact HC0.out); (case side3 => apply kbW; refine blk_put (cs := #[.int .i64 0]) ?_ 0 _ rfl; apply kbW; exact BK520.out); rintro e w' ⟨rfl, ⟨nd, rfl⟩⟩; refine ⟨_, rfl, ?_⟩) | ((with_reducible refine gate_callee (f := 103) rfl ?_); refine gcW 24 Tryz.func103 #[.int .i64 x4_1, .int .i64 t521] rfl ?_; (with_reducible refine (impl_choose.calls k1 x4_1 t521 t522 _ A12.out).mono ?_); rintro e w' ⟨rfl, ⟨nd, rfl⟩⟩; refine ⟨_, rfl, ?_⟩))
      go_roundg k1
      case measure => have := HK1.out; omega
      case rel => exact ⟨(wrap64 (x3_1 * t522)), (wrap64 (x4_1 - t521)), (wrap64 (x14_1 + 1)), (by first | rfl | (simp; done) | (simp [*]; done)), (by first | rfl | (simp; done) | (simp [*]; done)), (by first | rfl | (simp; done) | (simp [*]; done)), H', ⟨by have := HK1.out; omega⟩, ⟨by apply rbW; exact Kd.R_mono (Kd.R_far (p := ⟨gb520, 0, none⟩) (Kd.R_mono HO_12.out (fun k_ hk => (⟨hk, hk.2⟩ : _ ∧ k_ ≠ gb520))) (fun _ hk => hk.2) (.int .i64 (rd t516 x14_1))) (fun _ hk => trivial)⟩, ⟨by repeat (first | exact nbW HB.out | refine nbW (below_set ?_ GE520.out))⟩⟩
     ·rw [if_neg c10] at H
      exact absurd H (by simp)
    ·rw [if_neg c9] at H
     exact absurd H (by simp)
   ·rw [if_neg c8] at H
    have c8b0 := decide_eq_false c8
    clear c8
    obtain rfl := Option.some.inj H
    go_wp2
    go_ret
    exact ⟨by first | rfl | (simp [errW_none, errW_some] <;> rfl) | (simp [*, errW_none, errW_some] <;> rfl), nbW HB.out⟩

/-! ### impl_CountOrders: function 39 -/
def impl_CountOrders.f (k : Nat) (l0 : List Int) : Option (Int × Bool) := (impl_isParking.f k l0).bind fun t523 => (if t523 = true then ((impl_countOrders.f k l0).bind fun t524 => (some (t524, true))) else (some (0, false)))
theorem impl_CountOrders.mono : ∀ a0 k, LeO (impl_CountOrders.f k a0) (impl_CountOrders.f (k + 1) a0) := by
 intro a0 k
 unfold impl_CountOrders.f
 repeat' first | (with_reducible first | exact impl_countOrders.mono _ _ | exact impl_isParking.mono _ _ | exact LeO.refl _ | exact LeO.none _ | refine LeO.ite ?_ ?_ | refine LeO.bind ?_ (fun _ => ?_)) | exact LeO.none _ | refine LeO.ite ?_ ?_ | refine LeO.bind ?_ (fun _ => ?_)
set_option maxHeartbeats 8000000 in
set_option maxRecDepth 100000 in
theorem impl_CountOrders.calls (k : Nat) (A0 : Option Addr) (c0 : Nat) (l0 : List Int) (r1 : Int) (r2 : Bool) (w : World) (hr0 : Kd.C (Kd.int .i64) w A0 l0.length l0) (hc0 : l0.length ≤ c0) (h : impl_CountOrders.f k l0 = some (r1, r2)) :
  Calls Tryz.prog 39 #[.slice A0 l0.length c0] w fun e w' => e = .returned (.tuple #[.int .i64 r1, .bool r2]) ∧ Below w.heap.size w w' := by
 have HR0 := Aside0.mk hr0
 have HC0 := Aside0.mk hc0
 clear hr0 hc0
 have HB := Aside0.mk (Below.refl w.heap.size w)
 have H : ((impl_isParking.f k l0).bind fun t523 => (if t523 = true then ((impl_countOrders.f k l0).bind fun t524 => (some (t524, true))) else (some (0, false)))) = some (r1, r2) := h
 clear h
 replace H := Option.bind_eq_some_iff.mp H
 obtain ⟨t523, A20, H⟩ := H
 (try dsimp -simprocs only at H)
 have A2 := Aside0.mk A20
 clear A20
 by_cases c3 : t523 = true
 ·subst c3
  rw [if_pos rfl] at H
  replace H := Option.bind_eq_some_iff.mp H
  obtain ⟨t524, A40, H⟩ := H
  (try dsimp -simprocs only at H)
  have A4 := Aside0.mk A40
  clear A40
  simp only [Option.some.injEq, Prod.mk.injEq] at H
  obtain ⟨rfl, rfl⟩ := H
  go_enter Tryz.func39, Tryz.ntmps39
  go_wp2_with (first | ((with_reducible refine gate_callee (f := 73) rfl ?_); refine gcW 5 Tryz.func73 #[.slice A0 l0.length c0] rfl ?_; (with_reducible refine (impl_isParking.calls k _ _ l0 true _ ?side1 ?side2 A2.out).mono ?_); (case side1 => exact cbW HR0.out); (case side2 => exact HC0.out); rintro e w5 ⟨rfl, hb⟩; refine ⟨_, rfl, ?_⟩; have n0_ := Aside0.mk (below_step (nbW HB.out) hb); clear HB; have HB := n0_; clear n0_; (try clear hb); (try clear hb2); (try clear hk); (try clear hi)) | ((with_reducible refine gate_callee (f := 74) rfl ?_); refine gcW 8 Tryz.func74 #[.slice A0 l0.length c0] rfl ?_; (with_reducible refine (impl_countOrders.calls k _ _ l0 t524 _ ?side1 ?side2 A4.out).mono ?_); (case side1 => exact cbW (Kd.C_below HR0.out HB.out)); (case side2 => exact HC0.out); rintro e w6 ⟨rfl, hb⟩; refine ⟨_, rfl, ?_⟩; have n0_ := Aside0.mk (below_step (nbW HB.out) hb); clear HB; have HB := n0_; clear n0_; (try clear hb); (try clear hb2); (try clear hk); (try clear hi)))
  go_ret2
  exact ⟨by first | rfl | (simp [errW_none, errW_some] <;> rfl) | (simp [*, errW_none, errW_some] <;> rfl), nbW HB.out⟩
 ·replace c3 := Bool.eq_false_iff.mpr c3
  subst c3
  rw [if_neg (show ¬ (false = true) by decide)] at H
  simp only [Option.some.injEq, Prod.mk.injEq] at H
  obtain ⟨rfl, rfl⟩ := H
  go_enter Tryz.func39, Tryz.ntmps39
  go_wp2_with (first | ((with_reducible refine gate_callee (f := 73) rfl ?_); refine gcW 5 Tryz.func73 #[.slice A0 l0.length c0] rfl ?_; (with_reducible refine (impl_isParking.calls k _ _ l0 false _ ?side1 ?side2 A2.out).mono ?_); (case side1 => exact cbW HR0.out); (case side2 => exact HC0.out); rintro e w7 ⟨rfl, hb⟩; refine ⟨_, rfl, ?_⟩; have n0_ := Aside0.mk (below_step (nbW HB.out) hb); clear HB; have HB := n0_; clear n0_; (try clear hb); (try clear hb2); (try clear hk); (try clear hi)))
  go_ret2
  exact ⟨by first | rfl | (simp [errW_none, errW_some] <;> rfl) | (simp [*, errW_none, errW_some] <;> rfl), nbW HB.out⟩

end Go.Proofs.YtlknoidcopkmfaaGreatDoor.PFnWalkTexts
