-- Written by a program of this session for this claim (its own turn of the print).
import Derived.Test.YtlknoidcopkmfaaGreatDoorPFnWalkTextsx0
import Derived.Test.YtlknoidcopkmfaaGreatDoorPFnWalkTextsx6
import Derived.Test.YtlknoidcopkmfaaGreatDoorPFnWalkTextsx12
namespace Go.Proofs.YtlknoidcopkmfaaGreatDoor.PFnWalkTexts
open Go.RowKit Go.Proofs.YtlknoidcopkmfaaGreatDoorW.PrintWords Go.Proofs.YtlknoidcopkmfaaGreatDoorW.PrintLast Go.Proofs.YtlknoidcopkmfaaGreatDoorW.PrintMore
attribute [local go_sem] max2_int min2_int max_two min_two max_three min_three max_four min_four   -- for this text's walks alone
set_option linter.unusedVariables false
set_option linter.unusedSimpArgs false

/-! ### slices_IndexFunc_int_int: function 123 -/
def slices_IndexFunc_int_int.l0 (p1 : Int → Bool) : Nat → List Int → Int → Int → Option (Int)
  | 0, _, _, _ => none
  | k + 1, x0, x7, x8 => if x8 < x7 then (if 0 ≤ x8 then (if x8 < (x0.length : Int) then (((some (p1 (rd x0 x8)) : Option Bool)).bind fun t485 => (if t485 = true then (some x8) else (slices_IndexFunc_int_int.l0 p1 k x0 x7 (wrap64 (x8 + 1))))) else (none)) else (none)) else (some (-1))
def slices_IndexFunc_int_int.f (p1 : Int → Bool) (k : Nat) (l0 : List Int) : Option (Int) := slices_IndexFunc_int_int.l0 p1 k l0 (l0.length : Int) 0
theorem slices_IndexFunc_int_int.mono_l (p1 : Int → Bool) : ∀ k, (∀ y0 y1 y2, LeO (slices_IndexFunc_int_int.l0 p1 k y0 y1 y2) (slices_IndexFunc_int_int.l0 p1 (k + 1) y0 y1 y2))
  | 0 => fun _ _ _ r h => by simp [slices_IndexFunc_int_int.l0] at h
  | k + 1 => by
    have ih0 := slices_IndexFunc_int_int.mono_l p1 k
    · intro y0 y1 y2
      unfold slices_IndexFunc_int_int.l0
      repeat' first | (with_reducible first | exact ih0 _ _ _ | exact LeO.refl _ | exact LeO.none _ | refine LeO.ite ?_ ?_ | refine LeO.bind ?_ (fun _ => ?_)) | exact ih0 _ _ _ | exact LeO.none _ | refine LeO.ite ?_ ?_ | refine LeO.bind ?_ (fun _ => ?_)
theorem slices_IndexFunc_int_int.mono (p1 : Int → Bool) : ∀ a0 k, LeO (slices_IndexFunc_int_int.f p1 k a0) (slices_IndexFunc_int_int.f p1 (k + 1) a0) := by
  intro a0 k
  have ih0 := slices_IndexFunc_int_int.mono_l p1 k
  unfold slices_IndexFunc_int_int.f
  repeat' first | (with_reducible first | exact ih0 _ _ _ | exact LeO.refl _ | exact LeO.none _ | refine LeO.ite ?_ ?_ | refine LeO.bind ?_ (fun _ => ?_)) | exact ih0 _ _ _ | exact LeO.none _ | refine LeO.ite ?_ ?_ | refine LeO.bind ?_ (fun _ => ?_)
set_option maxHeartbeats 8000000 in
set_option maxRecDepth 100000 in
theorem slices_IndexFunc_int_int.calls (k : Nat) (A0 : Option Addr) (c0 : Nat) (l0 : List Int) (g1 : Nat) (lb1 : Array Value) (p1 : Int → Bool) (r : Int) (w : World) (hr0 : Kd.C (Kd.int .i64) w A0 l0.length l0) (hc0 : l0.length ≤ c0) (eg : ∀ args w, (callFunc g1 args).run Tryz.prog w = .ok (.enter g1 args) w) (hp1 : PredI Tryz.prog g1 lb1 p1 w) (h : slices_IndexFunc_int_int.f p1 k l0 = some r) :
    Calls Tryz.prog 123 #[.slice A0 l0.length c0, .func (.func g1) #[] lb1] w fun e w' => e = .returned (.int .i64 r) ∧ Drawn0 w w' := by
  have HP1 := Aside0.mk hp1
  clear hp1
  have HR0 := Aside0.mk hr0
  have HC0 := Aside0.mk hc0
  clear hr0 hc0
  have H : (slices_IndexFunc_int_int.l0 p1 k l0 (l0.length : Int) 0) = some r := h
  clear h
  have H' := Aside0.mk H
  clear H
  go_enter Tryz.func123, Tryz.ntmps123
  go_wp2
  go_loopg [8] k (fun kq v8 w' => ∃ (x8_1 : Int), v8 = .int .i64 x8_1 ∧ Aside0 (slices_IndexFunc_int_int.l0 p1 kq l0 (l0.length : Int) x8_1 = some r) ∧ Aside0 (kq ≤ k) ∧ Drawn0 w w')
  case atStart => exact ⟨(0), (by first | rfl | (simp; done) | (simp [*]; done)), H', ⟨Nat.le_refl _⟩, by repeat (first | exact Drawn0.refl _ | apply Drawn0.step)⟩
  case round =>
    clear H'
    try clear c1
    try clear p2
    obtain ⟨x8_1, rfl, HA, HK1, ⟨m1, rfl⟩⟩ := hrel
    cases gk with
    | zero => exact absurd HA.out (by simp [slices_IndexFunc_int_int.l0])
    | succ k1 =>
      have H := HA.out
      clear HA
      simp only [slices_IndexFunc_int_int.l0] at H
      by_cases c3 : x8_1 < (l0.length : Int)
      · rw [if_pos c3] at H
        have c3b0 := decide_eq_true c3
        clear c3
        by_cases c4 : 0 ≤ x8_1
        · rw [if_pos c4] at H
          have c4b0 := decide_eq_true c4
          clear c4
          by_cases c5 : x8_1 < (l0.length : Int)
          · rw [if_pos c5] at H
            have c5b0 := decide_eq_true c5
            clear c5
            replace H := Option.bind_eq_some_iff.mp H
            obtain ⟨t485, A60, H⟩ := H
            (try dsimp -simprocs only at H)
            have A6 := Aside0.mk A60
            clear A60
            by_cases c7 : t485 = true
            · subst c7
              rw [if_pos rfl] at H
              obtain rfl := Option.some.inj H
              have p484 : 0 ≤ (x8_1 : Int) := of_decide_eq_true (by first | (with_reducible assumption) | assumption)
              have q484 : x8_1 < (l0.length : Int) := of_decide_eq_true (by first | (with_reducible assumption) | assumption)
              obtain ⟨ad484, e484, hx484_0⟩ := Kd.at_int HR0.out x8_1 p484 q484
              cases e484
              replace p484 := eq_true p484
              replace q484 := eq_true q484
              go_wp2_with (first | ((go_at_fn g1; refine (pred_is HP1.out _ (rd l0 x8_1) true (pw_below_drewN (Below.refl _ _) _) A6.out).mono ?_; rintro e w' ⟨rfl, ⟨nd, rfl⟩⟩)))
              go_ret
              exact ⟨by first | rfl | (simp; done) | (simp [*]; done), by repeat (first | exact Drawn0.refl _ | apply Drawn0.step)⟩
            · replace c7 := Bool.eq_false_iff.mpr c7
              subst c7
              rw [if_neg (show ¬ (false = true) by decide)] at H
              have H' := Aside0.mk H
              clear H
              have p484 : 0 ≤ (x8_1 : Int) := of_decide_eq_true (by first | (with_reducible assumption) | assumption)
              have q484 : x8_1 < (l0.length : Int) := of_decide_eq_true (by first | (with_reducible assumption) | assumption)
              obtain ⟨ad484, e484, hx484_0⟩ := Kd.at_int HR0.out x8_1 p484 q484
              cases e484
              replace p484 := eq_true p484
              replace q484 := eq_true q484
              go_wp2_with (first | ((go_at_fn g1; refine (pred_is HP1.out _ (rd l0 x8_1) false (pw_below_drewN (Below.refl _ _) _) A6.out).mono ?_; rintro e w' ⟨rfl, ⟨nd, rfl⟩⟩)))
              go_roundg k1
              case measure => have := HK1.out; omega
              case rel => exact ⟨(wrap64 (x8_1 + 1)), (by first | rfl | (simp; done) | (simp [*]; done)), H', ⟨by have := HK1.out; omega⟩, by repeat (first | exact Drawn0.refl _ | apply Drawn0.step)⟩
          · rw [if_neg c5] at H
            exact absurd H (by simp)
        · rw [if_neg c4] at H
          exact absurd H (by simp)
      · rw [if_neg c3] at H
        have c3b0 := decide_eq_false c3
        clear c3
        obtain rfl := Option.some.inj H
        go_wp2
        go_ret
        exact ⟨by first | rfl | (simp; done) | (simp [*]; done), by repeat (first | exact Drawn0.refl _ | apply Drawn0.step)⟩

/-! ### slices_ContainsFunc_int_int: function 110 -/
def slices_ContainsFunc_int_int.f (p1 : Int → Bool) (k : Nat) (l0 : List Int) : Option Bool := (slices_IndexFunc_int_int.f p1 k l0).bind fun t => some (decide (t ≥ 0))
theorem slices_ContainsFunc_int_int.mono (p1 : Int → Bool) : ∀ a0 k, LeO (slices_ContainsFunc_int_int.f p1 k a0) (slices_ContainsFunc_int_int.f p1 (k + 1) a0) := fun a0 k => LeO.bind (slices_IndexFunc_int_int.mono p1 a0 k) (fun _ => LeO.refl _)
set_option maxHeartbeats 8000000 in
set_option maxRecDepth 100000 in
theorem slices_ContainsFunc_int_int.calls (k : Nat) (A0 : Option Addr) (c0 : Nat) (l0 : List Int) (g1 : Nat) (lb1 : Array Value) (p1 : Int → Bool) (r : Bool) (w : World) (hr0 : Kd.C (Kd.int .i64) w A0 l0.length l0) (hc0 : l0.length ≤ c0) (eg : ∀ args w, (callFunc g1 args).run Tryz.prog w = .ok (.enter g1 args) w) (hp1 : PredI Tryz.prog g1 lb1 p1 w) (h : slices_ContainsFunc_int_int.f p1 k l0 = some r) :
    Calls Tryz.prog 110 #[.slice A0 l0.length c0, .func (.func g1) #[] lb1] w fun e w' => e = .returned (.bool r) ∧ Drawn0 w w' := by
  obtain ⟨t, ht, h2⟩ := Option.bind_eq_some_iff.mp h
  obtain rfl := Option.some.inj h2
  have HC := Aside0.mk (slices_IndexFunc_int_int.calls k A0 c0 l0 g1 lb1 p1 t w hr0 hc0 eg hp1 ht)
  clear h h2 ht hp1 hr0 hc0 eg
  go_enter Tryz.func110, Tryz.ntmps110
  go_wp2_with (first | (go_at_call 123; refine HC.out.mono ?_; rintro e w' ⟨rfl, ⟨nd, rfl⟩⟩))
  go_ret
  exact ⟨by first | rfl | simp, Drawn0.step (Drawn0.refl _) _⟩

/-! ### impl_areBetween_1: function 111 handed to function 110 -/
def impl_areBetween_1.p (a1 : Int) (a2 : Int) (n : Int) : Bool := !((impl_between.f n a1 a2).getD false)
set_option maxHeartbeats 8000000 in
set_option maxRecDepth 100000 in
theorem impl_areBetween_1.pred (gb1 : Nat) (a1 : Int) (gb2 : Nat) (a2 : Int) (w : World) (hbox1 : w.heap[gb1]? = some (.cells #[.int .i64 a1] 3 (0, 0))) (hbox2 : w.heap[gb2]? = some (.cells #[.int .i64 a2] 3 (0, 0))) : PredI Tryz.prog 111 #[.pointer (some ⟨gb1, 0, none⟩), .pointer (some ⟨gb2, 0, none⟩)] (impl_areBetween_1.p a1 a2) w := by
  intro W x hb
  have hc1 : W.cell? ⟨gb1, 0, none⟩ = some (.int .i64 a1) := (blk_cell (blk_below hbox1 hb) 0).trans rfl
  have hc2 : W.cell? ⟨gb2, 0, none⟩ = some (.int .i64 a2) := (blk_cell (blk_below hbox2 hb) 0).trans rfl
  clear hbox1 hbox2
  clear hb
  obtain ⟨b, hbt⟩ : ∃ b, impl_between.f x a1 a2 = some b := by
    unfold impl_between.f
    split <;> exact ⟨_, rfl⟩
  show Calls Tryz.prog 111 #[.int .i64 x, .pointer (some ⟨gb1, 0, none⟩), .pointer (some ⟨gb2, 0, none⟩)] W (fun e w' => e = .returned (.bool (!((impl_between.f x a1 a2).getD false))) ∧ Drawn0 W w')
  rw [hbt]
  have HC := Aside0.mk (fun W1 => impl_between.calls x a1 a2 b W1 hbt)
  clear hbt
  go_enter Tryz.func111, Tryz.ntmps111
  go_wp2_with (first | (go_at_call 60; refine (HC.out _).mono ?_; rintro e w' ⟨rfl, ⟨nd, rfl⟩⟩))
  go_ret
  exact ⟨by first | rfl | simp, Drawn0.step (Drawn0.refl _) _⟩
def impl_areBetween_1.f (k : Nat) (l0 : List Int) (a1 : Int) (a2 : Int) : Option (Bool) := slices_ContainsFunc_int_int.f (impl_areBetween_1.p a1 a2) k l0
theorem impl_areBetween_1.mono : ∀ a0 a1 a2 k, LeO (impl_areBetween_1.f k a0 a1 a2) (impl_areBetween_1.f (k + 1) a0 a1 a2) := fun a0 a1 a2 k => slices_ContainsFunc_int_int.mono (impl_areBetween_1.p a1 a2) a0 k
theorem impl_areBetween_1.calls (k : Nat) (A0 : Option Addr) (c0 : Nat) (l0 : List Int) (gb1 : Nat) (a1 : Int) (gb2 : Nat) (a2 : Int) (r : Bool) (w : World) (hr0 : Kd.C (Kd.int .i64) w A0 l0.length l0) (hc0 : l0.length ≤ c0) (hbox1 : w.heap[gb1]? = some (.cells #[.int .i64 a1] 3 (0, 0))) (hbox2 : w.heap[gb2]? = some (.cells #[.int .i64 a2] 3 (0, 0))) (h : impl_areBetween_1.f k l0 a1 a2 = some r) :
    Calls Tryz.prog 110 #[.slice A0 l0.length c0, .func (.func 111) #[] #[.pointer (some ⟨gb1, 0, none⟩), .pointer (some ⟨gb2, 0, none⟩)]] w fun e w' => e = .returned ((.bool r)) ∧ Drawn0 w w' :=
  slices_ContainsFunc_int_int.calls k A0 c0 l0 111 #[.pointer (some ⟨gb1, 0, none⟩), .pointer (some ⟨gb2, 0, none⟩)] (impl_areBetween_1.p a1 a2) r w hr0 hc0 (enters_of Tryz.func111 (by kernel_rfl) rfl) (impl_areBetween_1.pred gb1 a1 gb2 a2 w hbox1 hbox2) h

/-! ### impl_areBetween: function 88 -/
def impl_areBetween.f (k : Nat) (l0 : List Int) (a1 : Int) (a2 : Int) : Option (Bool) := (impl_areBetween_1.f k l0 a1 a2).bind fun t488 => (some (!t488))
theorem impl_areBetween.mono : ∀ a0 a1 a2 k, LeO (impl_areBetween.f k a0 a1 a2) (impl_areBetween.f (k + 1) a0 a1 a2) := by
 intro a0 a1 a2 k
 unfold impl_areBetween.f
 repeat' first | (with_reducible first | exact impl_areBetween_1.mono _ _ _ _ | exact LeO.refl _ | exact LeO.none _ | refine LeO.ite ?_ ?_ | refine LeO.bind ?_ (fun _ => ?_)) | exact LeO.none _ | refine LeO.ite ?_ ?_ | refine LeO.bind ?_ (fun _ => ?_)
set_option maxHeartbeats 8000000 in
set_option maxRecDepth 100000 in
theorem impl_areBetween.calls (k : Nat) (A0 : Option Addr) (c0 : Nat) (l0 : List Int) (a1 : Int) (a2 : Int) (r : Bool) (w : World) (hr0 : Kd.C (Kd.int .i64) w A0 l0.length l0) (hc0 : l0.length ≤ c0) (h : impl_areBetween.f k l0 a1 a2 = some r) :
  Calls Tryz.prog 88 #[.slice A0 l0.length c0, .int .i64 a1, .int .i64 a2] w fun e w' => e = .returned (.bool r) ∧ Below w.heap.size w w' := by
 have HR0 := Aside0.mk hr0
 have HC0 := Aside0.mk hc0
 clear hr0 hc0
 have HB := Aside0.mk (Below.refl w.heap.size w)
 have H : ((impl_areBetween_1.f k l0 a1 a2).bind fun t488 => (some (!t488))) = some r := h
 clear h
 replace H := Option.bind_eq_some_iff.mp H
 obtain ⟨t488, A40, H⟩ := H
 (try dsimp -simprocs only at H)
 have A4 := Aside0.mk A40
 clear A40
 obtain rfl := Option.some.inj H
 have hmf : ∀ (fn_ : Fn) (first_ cap_ : Array Value) (w_ : World), (Instr.makeFunc fn_ first_ cap_).run Tryz.prog w_ = .ok (.func fn_ first_ cap_) w_ := fun _ _ _ _ => rfl
 go_enter Tryz.func88, Tryz.ntmps88
 go_wp2_with (first | ((with_reducible refine gate_dst (N := 4) rfl ?_); refine box_event ?hg (N := 4) ?hd (cs := #[.int .i64 a1]) (t := 3) ?hr ?_; (case hd => rfl); (case hg => rfl); (case hr => first | (go_simp; done) | (go_simp; rfl)); intro gb486 hg w5 hbox hb; have n0_ := Aside0.mk (below_step (nbW HB.out) hb); have n1_ := Aside0.mk (hbox); have n2_ := Aside0.mk ((by rw [hg]; exact (below_size (nbW HB.out)) : w.heap.size ≤ gb486)); have n3_ := Aside0.mk ((by rw [hg]; exact (below_size (nbW HB.out)) : w.heap.size ≤ gb486)); clear HB; have HB := n0_; have BK486 := n1_; have GW486 := n2_; have GE486 := n3_; clear n0_ n1_ n2_ n3_; clear hb hbox hg) | ((with_reducible refine gate_dst (N := 5) rfl ?_); refine box_event ?hg (N := 5) ?hd (cs := #[.int .i64 a2]) (t := 3) ?hr ?_; (case hd => rfl); (case hg => rfl); (case hr => first | (go_simp; done) | (go_simp; rfl)); intro gb487 hg w6 hbox hb; have n0_ := Aside0.mk (blk_below (kbW BK486.out) hb); have n1_ := Aside0.mk (below_step (by repeat (first | exact nbW HB.out | refine nbW (below_set ?_ GE486.out))) hb); have n2_ := Aside0.mk (hbox); have n3_ := Aside0.mk ((by rw [hg]; exact (below_size (by repeat (first | exact nbW HB.out | refine nbW (below_set ?_ GE486.out)))) : w.heap.size ≤ gb487)); have n4_ := Aside0.mk ((by rw [hg]; exact (below_size (by repeat (first | exact nbW HB.out | refine nbW (below_set ?_ GE486.out)))) : w.heap.size ≤ gb487)); have n5_ := Aside0.mk ((by rw [hg]; exact Nat.ne_of_lt (blk_lt (g := gb486) (o := .cells #[.int .i64 a1] 3 (0, 0)) (kbW BK486.out)) : gb486 ≠ gb487)); have n6_ := Aside0.mk ((by rw [hg]; exact Nat.ne_of_gt (blk_lt (g := gb486) (o := .cells #[.int .i64 a1] 3 (0, 0)) (kbW BK486.out)) : gb487 ≠ gb486)); clear BK486; clear HB; have BK486 := n0_; have HB := n1_; have BK487 := n2_; have GW487 := n3_; have GE487 := n4_; have NB486_487 := n5_; have NB487_486 := n6_; clear n0_ n1_ n2_ n3_ n4_ n5_ n6_; clear hb hbox hg) | ((with_reducible refine gate_callee (f := 110) rfl ?_); refine gcW 9 Tryz.func110 #[.slice A0 l0.length c0, .func (.func 111) #[] #[.pointer (some ⟨gb486, 0, none⟩), .pointer (some ⟨gb487, 0, none⟩)]] rfl ?_; (with_reducible refine (impl_areBetween_1.calls k _ _ l0 gb486 a1 gb487 a2 t488 _ ?side1 ?side2 ?side3 ?side4 A4.out).mono ?_); (case side1 => exact cbW (Kd.C_below HR0.out HB.out)); (case side2 => exact HC0.out); (case side3 => apply kbW; exact BK486.out); (case side4 => apply kbW; exact BK487.out); rintro e w' ⟨rfl, ⟨nd, rfl⟩⟩; refine ⟨_, rfl, ?_⟩))
 go_ret
 exact ⟨by first | rfl | (simp [errW_none, errW_some] <;> rfl) | (simp [*, errW_none, errW_some] <;> rfl), by repeat (first | exact nbW HB.out | refine nbW (below_set ?_ GE486.out) | refine nbW (below_set ?_ GE487.out))⟩

/-! ### impl_areCars: function 97 -/
def impl_areCars.f (k : Nat) (l0 : List Int) : Option (Bool) := if (l0.length : Int) ≤ 8 then ((impl_areBetween.f k l0 0 99).bind fun t489 => (some t489)) else (some false)
theorem impl_areCars.mono : ∀ a0 k, LeO (impl_areCars.f k a0) (impl_areCars.f (k + 1) a0) := by
 intro a0 k
 unfold impl_areCars.f
 repeat' first | (with_reducible first | exact impl_areBetween.mono _ _ _ _ | exact LeO.refl _ | exact LeO.none _ | refine LeO.ite ?_ ?_ | refine LeO.bind ?_ (fun _ => ?_)) | exact LeO.none _ | refine LeO.ite ?_ ?_ | refine LeO.bind ?_ (fun _ => ?_)
set_option maxHeartbeats 8000000 in
set_option maxRecDepth 100000 in
theorem impl_areCars.calls (k : Nat) (A0 : Option Addr) (c0 : Nat) (l0 : List Int) (r : Bool) (w : World) (hr0 : Kd.C (Kd.int .i64) w A0 l0.length l0) (hc0 : l0.length ≤ c0) (h : impl_areCars.f k l0 = some r) :
  Calls Tryz.prog 97 #[.slice A0 l0.length c0] w fun e w' => e = .returned (.bool r) ∧ Below w.heap.size w w' := by
 have HR0 := Aside0.mk hr0
 have HC0 := Aside0.mk hc0
 clear hr0 hc0
 have HB := Aside0.mk (Below.refl w.heap.size w)
 have H : (if (l0.length : Int) ≤ 8 then ((impl_areBetween.f k l0 0 99).bind fun t489 => (some t489)) else (some false)) = some r := h
 clear h
 by_cases c2 : (l0.length : Int) ≤ 8
 ·rw [if_pos c2] at H
  have c2b0 := decide_eq_true c2
  have c2b1 : decide (l0.length ≤ 8) = true := decide_eq_true (by omega)
  clear c2
  replace H := Option.bind_eq_some_iff.mp H
  obtain ⟨t489, A30, H⟩ := H
  (try dsimp -simprocs only at H)
  have A3 := Aside0.mk A30
  clear A30
  obtain rfl := Option.some.inj H
  go_enter Tryz.func97, Tryz.ntmps97
  go_wp2_with (first | (go_at_call 88; (with_reducible refine (impl_areBetween.calls k _ _ l0 0 99 t489 _ ?side1 ?side2 A3.out).mono ?_); (case side1 => exact cbW HR0.out); (case side2 => exact HC0.out); rintro e w4 ⟨rfl, hb⟩; have n0_ := Aside0.mk (below_step (nbW HB.out) hb); clear HB; have HB := n0_; clear n0_; (try clear hb); (try clear hb2); (try clear hk); (try clear hi)))
  go_ret
  exact ⟨by first | rfl | (simp [errW_none, errW_some] <;> rfl) | (simp [*, errW_none, errW_some] <;> rfl), nbW HB.out⟩
 ·rw [if_neg c2] at H
  have c2b0 := decide_eq_false c2
  have c2b1 : decide (l0.length ≤ 8) = false := decide_eq_false (by omega)
  clear c2
  obtain rfl := Option.some.inj H
  go_enter Tryz.func97, Tryz.ntmps97
  go_wp2
  go_ret
  exact ⟨by first | rfl | (simp [errW_none, errW_some] <;> rfl) | (simp [*, errW_none, errW_some] <;> rfl), nbW HB.out⟩

/-! ### impl_drive: function 98 -/
mutual
def impl_drive.l0 : Nat → Int → List Bool → List Int → List Int → Int → Int → Option (List Int × Bool)
 | 0, _, _, _, _, _, _ => none
 | k + 1, x1, x6, x7, x13, x14, x15 => if x15 < x14 then (if 0 ≤ x15 then (if x15 < (x13.length : Int) then (impl_drive.l1 k x1 x6 x7 (rd x13 x15) x13 x14 x15) else (none)) else (none)) else (some (x7, true))
def impl_drive.l1 : Nat → Int → List Bool → List Int → Int → List Int → Int → Int → Option (List Int × Bool)
 | 0, _, _, _, _, _, _, _ => none
 | k + 1, x1, x6, x7, x9, x13, x14, x15 => if x9 < x1 then (if 0 ≤ x9 then (if x9 < (x6.length : Int) then (if rdOf false x6 x9 = true then (impl_drive.l1 k x1 x6 x7 (wrap64 (x9 + 1)) x13 x14 x15) else (if x9 ≥ x1 then (some (([] : List Int), false)) else (if x7.length < 17592186044416 then (impl_drive.l0 k x1 (x6.set (x9 : Int).toNat true) (x7 ++ [x9]) x13 x14 (wrap64 (x15 + 1))) else (none)))) else (none)) else (none)) else (if x9 ≥ x1 then (some (([] : List Int), false)) else (if 0 ≤ x9 then (if x9 < (x6.length : Int) then (if x7.length < 17592186044416 then (impl_drive.l0 k x1 (x6.set (x9 : Int).toNat true) (x7 ++ [x9]) x13 x14 (wrap64 (x15 + 1))) else (none)) else (none)) else (none)))
end
def impl_drive.f (k : Nat) (l0 : List Int) (a1 : Int) : Option (List Int × Bool) := if 0 ≤ a1 then (if (a1 : Int).toNat ≤ 281474976710656 then (impl_drive.l0 k a1 (List.replicate (a1 : Int).toNat false) (([] : List Int)) l0 (l0.length : Int) 0) else (none)) else (none)
theorem impl_drive.mono_l : ∀ k, (∀ y0 y1 y2 y3 y4 y5, LeO (impl_drive.l0 k y0 y1 y2 y3 y4 y5) (impl_drive.l0 (k + 1) y0 y1 y2 y3 y4 y5)) ∧ (∀ y0 y1 y2 y3 y4 y5 y6, LeO (impl_drive.l1 k y0 y1 y2 y3 y4 y5 y6) (impl_drive.l1 (k + 1) y0 y1 y2 y3 y4 y5 y6))
 | 0 => ⟨fun _ _ _ _ _ _ r h => by simp [impl_drive.l0] at h, fun _ _ _ _ _ _ _ r h => by simp [impl_drive.l1] at h⟩
 | k + 1 => by
  obtain ⟨ih0, ih1⟩ := impl_drive.mono_l k
  refine ⟨?_, ?_⟩
  all_goals intros
  all_goals (first | unfold impl_drive.l0 | unfold impl_drive.l1)
  all_goals (repeat' first | (with_reducible first | exact ih0 _ _ _ _ _ _ | exact ih1 _ _ _ _ _ _ _ | exact LeO.refl _ | exact LeO.none _ | refine LeO.ite ?_ ?_ | refine LeO.bind ?_ (fun _ => ?_)) | exact LeO.none _ | refine LeO.ite ?_ ?_ | refine LeO.bind ?_ (fun _ => ?_))
theorem impl_drive.mono : ∀ a0 a1 k, LeO (impl_drive.f k a0 a1) (impl_drive.f (k + 1) a0 a1) := by
 intro a0 a1 k
 obtain ⟨ih0, ih1⟩ := impl_drive.mono_l k
 unfold impl_drive.f
 repeat' first | (with_reducible first | exact ih0 _ _ _ _ _ _ | exact ih1 _ _ _ _ _ _ _ | exact LeO.refl _ | exact LeO.none _ | refine LeO.ite ?_ ?_ | refine LeO.bind ?_ (fun _ => ?_)) | exact LeO.none _ | refine LeO.ite ?_ ?_ | refine LeO.bind ?_ (fun _ => ?_)
set_option maxHeartbeats 8000000 in
set_option maxRecDepth 100000 in
theorem impl_drive.calls (k : Nat) (A0 : Option Addr) (c0 : Nat) (l0 : List Int) (a1 : Int) (r1 : List Int) (r2 : Bool) (w : World) (hr0 : Kd.C (Kd.int .i64) w A0 l0.length l0) (hc0 : l0.length ≤ c0) (h : impl_drive.f k l0 a1 = some (r1, r2)) :
  Calls Tryz.prog 98 #[.slice A0 l0.length c0, .int .i64 a1] w fun e w' => ∃ v0_ : Value, e = .returned (.tuple #[v0_, .bool r2]) ∧ Kd.R (Kd.int .i64) 3 w' w.heap.size (fun _ => True) v0_ r1 ∧ Below w.heap.size w w' := by
 have HR0 := Aside0.mk hr0
 have HC0 := Aside0.mk hc0
 clear hr0 hc0
 have HB := Aside0.mk (Below.refl w.heap.size w)
 have H : (if 0 ≤ a1 then (if (a1 : Int).toNat ≤ 281474976710656 then (impl_drive.l0 k a1 (List.replicate (a1 : Int).toNat false) (([] : List Int)) l0 (l0.length : Int) 0) else (none)) else (none)) = some (r1, r2) := h
 clear h
 by_cases c3 : 0 ≤ a1
 ·rw [if_pos c3] at H
  have c3b0 := eq_true c3
  have c3b1 := decide_eq_true c3
  clear c3
  by_cases c4 : (a1 : Int).toNat ≤ 281474976710656
  ·rw [if_pos c4] at H
   have c4b0 := eq_true c4
   have c4b1 := decide_eq_true c4
   clear c4
   obtain ⟨y490, hy490⟩ : ∃ y_ : List Bool, y_ = (List.replicate (a1 : Int).toNat false) := ⟨_, rfl⟩
   replace H : (impl_drive.l0 k a1 y490 (([] : List Int)) l0 (l0.length : Int) 0) = some (r1, r2) := by first | (rw [hy490]; with_reducible exact H) | (have H2_ := (Option.bind_some _ _).symm.trans H; rw [hy490]; with_reducible exact H2_) | (have H2_ := (Option.bind_some _ _).symm.trans H; with_reducible exact H2_) | with_reducible exact H | (rw [hy490]; exact H) | exact H
   have Ny490 := Aside0.mk hy490
   clear hy490
   obtain ⟨y493, hy493⟩ : ∃ y_ : List Int, y_ = (([] : List Int)) := ⟨_, rfl⟩
   replace H : (impl_drive.l0 k a1 y490 y493 l0 (l0.length : Int) 0) = some (r1, r2) := by first | (rw [hy493]; with_reducible exact H) | (have H2_ := (Option.bind_some _ _).symm.trans H; rw [hy493]; with_reducible exact H2_) | (have H2_ := (Option.bind_some _ _).symm.trans H; with_reducible exact H2_) | with_reducible exact H | (rw [hy493]; exact H) | exact H
   have Ny493 := Aside0.mk hy493
   clear hy493
   have H' := Aside0.mk H
   clear H
   go_enter Tryz.func98, Tryz.ntmps98
   go_wp2_with (first | ((with_reducible refine gate_dst (N := 11) rfl ?_); refine Kd.R_make Kd.bool _ 4 rfl (N := 11) rfl 97 _ _ rfl a1 rfl rfl Tryz.underlying97 (.bool false) 1 info4 rfl (by decide) (by omega) false (ok := fun _ => True) (okp := fun _ => True) rfl (fun _ hk => hk) trivial (of_decide_eq_true (by first | (with_reducible assumption) | assumption)) (Nat.le_trans (Nat.mul_le_mul_right _ (of_decide_eq_true (by first | (with_reducible assumption) | assumption) : a1.toNat ≤ 281474976710656)) (by omega)) (Below.refl _ _) (Nat.le_refl _) ?_; intro v491 w5 ho6 hb hg_ hnew_; clear hg_ hnew_; (first | rw [← Ny490.out] at ho6 | (simp only [Int.reduceToNat] at ho6; rw [← Ny490.out] at ho6)); have n0_ := Aside0.mk (Kd.R_lower ho6 (below_size (nbW HB.out))); have n1_ := Aside0.mk (below_step (nbW HB.out) hb); clear HB; have HO492 := n0_; have HB := n1_; clear n0_ n1_; clear hb ho6) | ((with_reducible refine gate_dst (N := 12) rfl ?_); refine Kd.R_lit (Kd.int .i64) _ 3 ?hg (N := 12) ?hd (xs := ([] : List Int)) (inner := []) (ok := fun _ => True) (okp := fun _ => True) ?hr ?hp (fun _ hk => hk) trivial (Below.refl _ _) (Nat.le_refl _) (by simp) ?_; (case hd => rfl); (case hg => rfl); (case hr => first | (go_simp; done) | (go_simp; rfl)); (case hp => exact (Reps.none _ _)); intro v494 w7 ho8 hb hg_ hnew_; clear hg_ hnew_; (first | rw [← Ny493.out] at ho8 | (simp only [Int.reduceToNat] at ho8; rw [← Ny493.out] at ho8)); have n0_ := Aside0.mk (Kd.R_below (rbW HO492.out) hb); have n1_ := Aside0.mk (Kd.R_lower ho8 (below_size (nbW HB.out))); have n2_ := Aside0.mk (below_step (nbW HB.out) hb); clear HO492; clear HB; have HO492 := n0_; have HO495 := n1_; have HB := n2_; clear n0_ n1_ n2_; clear hb ho8))
   go_loopg [7, 15] k (fun kq v7 v15 w' => ∃ (x6_1 : List Bool) (x7_1 : List Int) (x15_1 : Int), v15 = .int .i64 x15_1 ∧ Aside0 (impl_drive.l0 kq a1 x6_1 x7_1 l0 (l0.length : Int) x15_1 = some (r1, r2)) ∧ Aside0 (kq ≤ k) ∧ Aside0 (Kd.R Kd.bool 4 w' w.heap.size (fun _ => True) v491 x6_1) ∧ Aside0 (Kd.R (Kd.int .i64) 3 w' w.heap.size (fun _ => True) v7 x7_1) ∧ Aside0 (Below w.heap.size w w'))
   case atStart => exact ⟨(y490), (y493), (0), (by first | rfl | (simp; done) | (simp [*]; done)), H', ⟨Nat.le_refl _⟩, ⟨by apply rbW; exact HO492.out⟩, ⟨by apply rbW; exact HO495.out⟩, ⟨nbW HB.out⟩⟩
   case round =>
    clear H'
    try clear p2
    try clear c3
    try clear c3b0
    try clear c3b1
    try clear c4
    try clear c4b0
    try clear c4b1
    obtain ⟨x6_1, x7_1, x15_1, rfl, HA, HK1, HO_6, HO_7, HB⟩ := hrel
    cases gk with
    | zero => exact absurd HA.out (by simp [impl_drive.l0])
    | succ k1 =>
     have H := HA.out
     clear HA
     simp only [impl_drive.l0] at H
     by_cases c9 : x15_1 < (l0.length : Int)
     ·rw [if_pos c9] at H
      have c9b0 := decide_eq_true c9
      clear c9
      by_cases c10 : 0 ≤ x15_1
      ·rw [if_pos c10] at H
       have c10b0 := decide_eq_true c10
       clear c10
       by_cases c11 : x15_1 < (l0.length : Int)
       ·rw [if_pos c11] at H
        have c11b0 := decide_eq_true c11
        clear c11
        have H' := Aside0.mk H
        clear H
        have p496 : 0 ≤ (x15_1 : Int) := of_decide_eq_true (by first | (with_reducible assumption) | assumption)
        have q496 : x15_1 < (l0.length : Int) := of_decide_eq_true (by first | (with_reducible assumption) | assumption)
        obtain ⟨ad496, e496, hx496_0⟩ := Kd.at_int HR0.out x15_1 p496 q496
        cases e496
        replace hx496_0 := (HB.out.cell (World.block_lt_of_cell? w _ hx496_0)).trans hx496_0
        replace p496 := eq_true p496
        replace q496 := eq_true q496
        go_wp2
        go_loopg [9] k1 (fun kq v9 w' => ∃ (x9_2 : Int), v9 = .int .i64 x9_2 ∧ Aside0 (impl_drive.l1 kq a1 x6_1 x7_1 x9_2 l0 (l0.length : Int) x15_1 = some (r1, r2)) ∧ Aside0 (kq ≤ k1) ∧ Aside0 (Kd.R Kd.bool 4 w' w.heap.size (fun _ => True) v491 x6_1) ∧ Aside0 (Kd.R (Kd.int .i64) 3 w' w.heap.size (fun _ => True) u7 x7_1) ∧ Aside0 (Below w.heap.size w w'))
        case atStart => exact ⟨(rd l0 x15_1), (by first | rfl | (simp; done) | (simp [*]; done)), H', ⟨Nat.le_refl _⟩, ⟨by apply rbW; exact HO_6.out⟩, ⟨by apply rbW; exact HO_7.out⟩, ⟨nbW HB.out⟩⟩
        case round =>
         clear H'
         try clear c1
         try clear p2
         try clear c3
         try clear c3b0
         try clear c3b1
         try clear c4
         try clear c4b0
         try clear c4b1
         try clear p4
         try clear q4
         try clear hx4
         try clear c9
         try clear c9b0
         try clear c10
         try clear c10b0
         try clear c11
         try clear c11b0
         try clear hx496_0
         try clear p2
         try clear p496
         try clear q496
         obtain ⟨x9_2, rfl, HA, HK2, HO_6, HO_7, HB⟩ := hrel
         cases gk with
         | zero => exact absurd HA.out (by simp [impl_drive.l1])
         | succ k2 =>
          have H := HA.out
          clear HA
          simp only [impl_drive.l1] at H
          by_cases c12 : x9_2 < a1
          ·rw [if_pos c12] at H
           have c12b0 := decide_eq_true c12
           clear c12
           by_cases c13 : 0 ≤ x9_2
           ·rw [if_pos c13] at H
            have c13b0 := decide_eq_true c13
            clear c13
            by_cases c14 : x9_2 < (x6_1.length : Int)
            ·rw [if_pos c14] at H
             have c14b0 := decide_eq_true c14
             clear c14
             obtain ⟨bq15, hbq15⟩ : ∃ b_ : Bool, b_ = (rdOf false x6_1 x9_2) := ⟨_, rfl⟩
             replace H : (if bq15 = true then (impl_drive.l1 k2 a1 x6_1 x7_1 (wrap64 (x9_2 + 1)) l0 (l0.length : Int) x15_1) else (if x9_2 ≥ a1 then (some (([] : List Int), false)) else (if x7_1.length < 17592186044416 then (impl_drive.l0 k2 a1 (x6_1.set (x9_2 : Int).toNat true) (x7_1 ++ [x9_2]) l0 (l0.length : Int) (wrap64 (x15_1 + 1))) else (none)))) = some (r1, r2) := by rw [← hbq15] at H; exact H
             have Nbq15 := Aside0.mk hbq15
             clear hbq15
             by_cases c16 : bq15 = true
             ·subst c16
              rw [if_pos rfl] at H
              have H' := Aside0.mk H
              clear H
              obtain ⟨Ao17, co17, eo17⟩ := Kd.R_slice HO_6.out
              subst eo17
              have p497 : 0 ≤ (x9_2 : Int) := of_decide_eq_true (by first | (with_reducible assumption) | assumption)
              have q497 : x9_2 < (x6_1.length : Int) := of_decide_eq_true (by first | (with_reducible assumption) | assumption)
              obtain ⟨ad497, e497, hx497_0⟩ := Kd.at_bool (Kd.R_reads' HO_6.out).2.2 x9_2 p497 q497
              (try rw [← Nbq15.out] at hx497_0)
              cases e497
              replace p497 := eq_true p497
              replace q497 := eq_true q497
              go_wp2
              go_roundg k2
              case measure => have := HK1.out; have := HK2.out; omega
              case rel => exact ⟨(wrap64 (x9_2 + 1)), (by first | rfl | (simp; done) | (simp [*]; done)), H', ⟨by have := HK1.out; have := HK2.out; omega⟩, ⟨by apply rbW; exact HO_6.out⟩, ⟨by apply rbW; exact HO_7.out⟩, ⟨nbW HB.out⟩⟩
             ·replace c16 := Bool.eq_false_iff.mpr c16
              subst c16
              rw [if_neg (show ¬ (false = true) by decide)] at H
              by_cases c18 : x9_2 ≥ a1
              ·rw [if_pos c18] at H
               have c18b0 := decide_eq_true c18
               clear c18
               simp only [Option.some.injEq, Prod.mk.injEq] at H
               obtain ⟨rfl, rfl⟩ := H
               obtain ⟨Ao19, co19, eo19⟩ := Kd.R_slice HO_6.out
               subst eo19
               have p497 : 0 ≤ (x9_2 : Int) := of_decide_eq_true (by first | (with_reducible assumption) | assumption)
               have q497 : x9_2 < (x6_1.length : Int) := of_decide_eq_true (by first | (with_reducible assumption) | assumption)
               obtain ⟨ad497, e497, hx497_0⟩ := Kd.at_bool (Kd.R_reads' HO_6.out).2.2 x9_2 p497 q497
               (try rw [← Nbq15.out] at hx497_0)
               cases e497
               replace p497 := eq_true p497
               replace q497 := eq_true q497
               go_wp2
               go_ret2
               exact ⟨_, by first | rfl | (simp [errW_none, errW_some] <;> rfl) | (simp [*, errW_none, errW_some] <;> rfl), by first | exact Kd.R_nil _ _ _ _ _ | exact Kd.N_nil _ _ _ _ _ | exact Kd.V_nil _ _ _ _ _ | exact Kd.Q_nil _ _ _ _ _ | exact Kd.S_nil _ _ _ _ _, nbW HB.out⟩
              ·rw [if_neg c18] at H
               have c18b0 := decide_eq_false c18
               clear c18
               obtain ⟨y498, hy498⟩ : ∃ y_ : List Bool, y_ = (x6_1.set (x9_2 : Int).toNat true) := ⟨_, rfl⟩
               replace H : (if x7_1.length < 17592186044416 then (impl_drive.l0 k2 a1 y498 (x7_1 ++ [x9_2]) l0 (l0.length : Int) (wrap64 (x15_1 + 1))) else (none)) = some (r1, r2) := by first | (rw [hy498]; with_reducible exact H) | (have H2_ := (Option.bind_some _ _).symm.trans H; rw [hy498]; with_reducible exact H2_) | (have H2_ := (Option.bind_some _ _).symm.trans H; with_reducible exact H2_) | with_reducible exact H | (rw [hy498]; exact H) | exact H
               have Ny498 := Aside0.mk hy498
               clear hy498
               by_cases c21 : x7_1.length < 17592186044416
               ·rw [if_pos c21] at H
                have LMc21 := Aside0.mk c21
                clear c21
                obtain ⟨y499, hy499⟩ : ∃ y_ : List Int, y_ = (x7_1 ++ [x9_2]) := ⟨_, rfl⟩
                replace H : (impl_drive.l0 k2 a1 y498 y499 l0 (l0.length : Int) (wrap64 (x15_1 + 1))) = some (r1, r2) := by first | (rw [hy499]; with_reducible exact H) | (have H2_ := (Option.bind_some _ _).symm.trans H; rw [hy499]; with_reducible exact H2_) | (have H2_ := (Option.bind_some _ _).symm.trans H; with_reducible exact H2_) | with_reducible exact H | (rw [hy499]; exact H) | exact H
                have Ny499 := Aside0.mk hy499
                clear hy499
                have H' := Aside0.mk H
                clear H
                obtain ⟨Ao22, co22, eo22⟩ := Kd.R_slice HO_6.out
                subst eo22
                have p497 : 0 ≤ (x9_2 : Int) := of_decide_eq_true (by first | (with_reducible assumption) | assumption)
                have q497 : x9_2 < (x6_1.length : Int) := of_decide_eq_true (by first | (with_reducible assumption) | assumption)
                obtain ⟨ad497, e497, hx497_0⟩ := Kd.at_bool (Kd.R_reads' HO_6.out).2.2 x9_2 p497 q497
                (try rw [← Nbq15.out] at hx497_0)
                cases e497
                replace p497 := eq_true p497
                replace q497 := eq_true q497
                have p20 : 0 ≤ (x9_2 : Int) := of_decide_eq_true (by first | (with_reducible assumption) | assumption)
                have q20 : (x9_2 : Int) < ((x6_1.length : Int) : Int) := of_decide_eq_true (by first | (with_reducible assumption) | assumption)
                obtain ⟨go20, co20, eo20, gb20, gl20, cl20, HG20⟩ := Kd.R_form HO_6.out (by omega)
                (first | cases eo20 | (injection eo20 with ea_ en_ ec_; (first | subst ea_ | (injection ea_ with ea_; subst ea_)); subst ec_; clear en_))
                have GB20 := Aside0.mk gb20
                have GG20 := Aside0.mk HG20
                clear gb20 gl20 HG20
                (first | simp only [add_plain] at hx497_0 | skip)
                obtain ⟨hx20_0, hf20_0⟩ := Kd.R_celln false HO_6.out (x9_2 : Int) p20 q20
                replace p20 := eq_true p20
                replace q20 := eq_true q20
                have HP23 := Kd.R_putg HO_6.out (x9_2 : Int) true
                go_wp2_with (first | ((with_reducible refine gate_store (t := 4) (p := 35) rfl ?_); refine store_event (t := 4) (p := 35) (v := ?vo_w24) (w1 := (wr.setCell ⟨go20, (x9_2 : Int).toNat, none⟩ (.bool true))) ?hg ?ho ?hn ?hr ?_; (case ho => rfl); (case hg => rfl); (case hn => rfl); (case hr => first | (go_simp; done) | (go_simp; rfl)); intro w24 hw; have hg : wr.grownBy w24 (some go20) := (by rw [hw]; exact HP23.2); have hp_ : Kd.R Kd.bool 4 w24 w.heap.size (fun _ => True) (.slice (some ⟨go20, 0, none⟩) x6_1.length co22) y498 := (by rw [hw, Ny498.out]; exact HP23.1); clear HP23; have n0_ := Aside0.mk (hp_); have n1_ := Aside0.mk (Kd.R_over' (v := (.slice (some ⟨go20, 0, none⟩) x6_1.length co22)) (rbW HO_7.out) (Kd.R_typed HO_6.out) (by decide) hg); have n2_ := Aside0.mk ((by rw [hw]; exact below_set (HB.out) GB20.out : Below w.heap.size w w24)); clear HO_6; clear HO_7; clear HB; have HO_6 := n0_; have HO_7 := n1_; have HB := n2_; clear n0_ n1_ n2_; clear hg hw hp_) | ((with_reducible refine gate_builtin (b := .append) (xs := #[.tmp 36, .tmp 38]) rfl ?_); at_builtin; refine Kd.R_append (Kd.int .i64) (w0 := w) w.heap.size rfl (.tmp 36) (.tmp 38) 22 3 (.int .i64 0) 8 rfl Tryz.underlying22 info3 rfl (by decide) (by omega) u7 x7_1 x9_2 [.int .i64 x9_2] (fun _ => True) (fun _ => False) rfl rfl ?aP (fun _ hk => hk.elim) ?aF ?aO ?aB ?aS ?aL ?_; (case aP => exact rfl); (case aB => exact (nbW HB.out)); (case aF => exact (fun _ _ => trivial)); (case aO => exact (rbW HO_7.out)); (case aS => exact (below_size (nbW HB.out))); (case aL => have := LMc21.out; omega); intro v500 w25 ho hb hg hat; rw [← Ny499.out] at ho; have n0_ := Aside0.mk (Kd.R_over' (rbW HO_6.out) (Kd.R_typed (rbW HO_7.out)) (by decide) hg); have n1_ := Aside0.mk (hb); have n2_ := Aside0.mk (ho); clear HO_6; clear HB; clear HO_7; have HO_6 := n0_; have HB := n1_; have HO501 := n2_; clear n0_ n1_ n2_; clear ho hb hg hat))
                go_roundg k2
                case measure => have := HK1.out; have := HK2.out; omega
                case rel => exact ⟨(y498), (y499), (wrap64 (x15_1 + 1)), (by first | rfl | (simp; done) | (simp [*]; done)), H', ⟨by have := HK1.out; have := HK2.out; omega⟩, ⟨by apply rbW; exact HO_6.out⟩, ⟨by apply rbW; exact HO501.out⟩, ⟨nbW HB.out⟩⟩
               ·rw [if_neg c21] at H
                exact absurd H (by simp)
            ·rw [if_neg c14] at H
             exact absurd H (by simp)
           ·rw [if_neg c13] at H
            exact absurd H (by simp)
          ·rw [if_neg c12] at H
           have c12b0 := decide_eq_false c12
           clear c12
           by_cases c26 : x9_2 ≥ a1
           ·rw [if_pos c26] at H
            have c26b0 := decide_eq_true c26
            clear c26
            simp only [Option.some.injEq, Prod.mk.injEq] at H
            obtain ⟨rfl, rfl⟩ := H
            go_wp2
            go_ret2
            exact ⟨_, by first | rfl | (simp [errW_none, errW_some] <;> rfl) | (simp [*, errW_none, errW_some] <;> rfl), by first | exact Kd.R_nil _ _ _ _ _ | exact Kd.N_nil _ _ _ _ _ | exact Kd.V_nil _ _ _ _ _ | exact Kd.Q_nil _ _ _ _ _ | exact Kd.S_nil _ _ _ _ _, nbW HB.out⟩
           ·rw [if_neg c26] at H
            have c26b0 := decide_eq_false c26
            clear c26
            by_cases c27 : 0 ≤ x9_2
            ·rw [if_pos c27] at H
             have c27b0 := decide_eq_true c27
             clear c27
             by_cases c28 : x9_2 < (x6_1.length : Int)
             ·rw [if_pos c28] at H
              have c28b0 := decide_eq_true c28
              clear c28
              obtain ⟨y502, hy502⟩ : ∃ y_ : List Bool, y_ = (x6_1.set (x9_2 : Int).toNat true) := ⟨_, rfl⟩
              replace H : (if x7_1.length < 17592186044416 then (impl_drive.l0 k2 a1 y502 (x7_1 ++ [x9_2]) l0 (l0.length : Int) (wrap64 (x15_1 + 1))) else (none)) = some (r1, r2) := by first | (rw [hy502]; with_reducible exact H) | (have H2_ := (Option.bind_some _ _).symm.trans H; rw [hy502]; with_reducible exact H2_) | (have H2_ := (Option.bind_some _ _).symm.trans H; with_reducible exact H2_) | with_reducible exact H | (rw [hy502]; exact H) | exact H
              have Ny502 := Aside0.mk hy502
              clear hy502
              by_cases c30 : x7_1.length < 17592186044416
              ·rw [if_pos c30] at H
               have LMc30 := Aside0.mk c30
               clear c30
               obtain ⟨y503, hy503⟩ : ∃ y_ : List Int, y_ = (x7_1 ++ [x9_2]) := ⟨_, rfl⟩
               replace H : (impl_drive.l0 k2 a1 y502 y503 l0 (l0.length : Int) (wrap64 (x15_1 + 1))) = some (r1, r2) := by first | (rw [hy503]; with_reducible exact H) | (have H2_ := (Option.bind_some _ _).symm.trans H; rw [hy503]; with_reducible exact H2_) | (have H2_ := (Option.bind_some _ _).symm.trans H; with_reducible exact H2_) | with_reducible exact H | (rw [hy503]; exact H) | exact H
               have Ny503 := Aside0.mk hy503
               clear hy503
               have H' := Aside0.mk H
               clear H
               have p29 : 0 ≤ (x9_2 : Int) := of_decide_eq_true (by first | (with_reducible assumption) | assumption)
               have q29 : (x9_2 : Int) < ((x6_1.length : Int) : Int) := of_decide_eq_true (by first | (with_reducible assumption) | assumption)
               obtain ⟨go29, co29, eo29, gb29, gl29, cl29, HG29⟩ := Kd.R_form HO_6.out (by omega)
               (first | cases eo29 | (injection eo29 with ea_ en_ ec_; (first | subst ea_ | (injection ea_ with ea_; subst ea_)); subst ec_; clear en_))
               have GB29 := Aside0.mk gb29
               have GG29 := Aside0.mk HG29
               clear gb29 gl29 HG29
               obtain ⟨hx29_0, hf29_0⟩ := Kd.R_celln false HO_6.out (x9_2 : Int) p29 q29
               replace p29 := eq_true p29
               replace q29 := eq_true q29
               have HP31 := Kd.R_putg HO_6.out (x9_2 : Int) true
               go_wp2_with (first | ((with_reducible refine gate_store (t := 4) (p := 35) rfl ?_); refine store_event (t := 4) (p := 35) (v := ?vo_w32) (w1 := (wr.setCell ⟨go29, (x9_2 : Int).toNat, none⟩ (.bool true))) ?hg ?ho ?hn ?hr ?_; (case ho => rfl); (case hg => rfl); (case hn => rfl); (case hr => first | (go_simp; done) | (go_simp; rfl)); intro w32 hw; have hg : wr.grownBy w32 (some go29) := (by rw [hw]; exact HP31.2); have hp_ : Kd.R Kd.bool 4 w32 w.heap.size (fun _ => True) (.slice (some ⟨go29, 0, none⟩) x6_1.length co29) y502 := (by rw [hw, Ny502.out]; exact HP31.1); clear HP31; have n0_ := Aside0.mk (hp_); have n1_ := Aside0.mk (Kd.R_over' (v := (.slice (some ⟨go29, 0, none⟩) x6_1.length co29)) (rbW HO_7.out) (Kd.R_typed HO_6.out) (by decide) hg); have n2_ := Aside0.mk ((by rw [hw]; exact below_set (HB.out) GB29.out : Below w.heap.size w w32)); clear HO_6; clear HO_7; clear HB; have HO_6 := n0_; have HO_7 := n1_; have HB := n2_; clear n0_ n1_ n2_; clear hg hw hp_) | ((with_reducible refine gate_builtin (b := .append) (xs := #[.tmp 36, .tmp 38]) rfl ?_); at_builtin; refine Kd.R_append (Kd.int .i64) (w0 := w) w.heap.size rfl (.tmp 36) (.tmp 38) 22 3 (.int .i64 0) 8 rfl Tryz.underlying22 info3 rfl (by decide) (by omega) u7 x7_1 x9_2 [.int .i64 x9_2] (fun _ => True) (fun _ => False) rfl rfl ?aP (fun _ hk => hk.elim) ?aF ?aO ?aB ?aS ?aL ?_; (case aP => exact rfl); (case aB => exact (nbW HB.out)); (case aF => exact (fun _ _ => trivial)); (case aO => exact (rbW HO_7.out)); (case aS => exact (below_size (nbW HB.out))); (case aL => have := LMc30.out; omega); intro v504 w33 ho hb hg hat; rw [← Ny503.out] at ho; have n0_ := Aside0.mk (Kd.R_over' (rbW HO_6.out) (Kd.R_typed (rbW HO_7.out)) (by decide) hg); have n1_ := Aside0.mk (hb); have n2_ := Aside0.mk (ho); clear HO_6; clear HB; clear HO_7; have HO_6 := n0_; have HB := n1_; have HO505 := n2_; clear n0_ n1_ n2_; clear ho hb hg hat))
               go_roundg k2
               case measure => have := HK1.out; have := HK2.out; omega
               case rel => exact ⟨(y502), (y503), (wrap64 (x15_1 + 1)), (by first | rfl | (simp; done) | (simp [*]; done)), H', ⟨by have := HK1.out; have := HK2.out; omega⟩, ⟨by apply rbW; exact HO_6.out⟩, ⟨by apply rbW; exact HO505.out⟩, ⟨nbW HB.out⟩⟩
              ·rw [if_neg c30] at H
               exact absurd H (by simp)
             ·rw [if_neg c28] at H
              exact absurd H (by simp)
            ·rw [if_neg c27] at H
             exact absurd H (by simp)
       ·rw [if_neg c11] at H
        exact absurd H (by simp)
      ·rw [if_neg c10] at H
       exact absurd H (by simp)
     ·rw [if_neg c9] at H
      have c9b0 := decide_eq_false c9
      clear c9
      simp only [Option.some.injEq, Prod.mk.injEq] at H
      obtain ⟨rfl, rfl⟩ := H
      go_wp2
      go_ret2
      exact ⟨_, by first | rfl | (simp [errW_none, errW_some] <;> rfl) | (simp [*, errW_none, errW_some] <;> rfl), by apply rbW; exact HO_7.out, nbW HB.out⟩
  ·rw [if_neg c4] at H
   exact absurd H (by simp)
 ·rw [if_neg c3] at H
  exact absurd H (by simp)

/-! ### impl_isParking: function 73 -/
def impl_isParking.f (k : Nat) (l0 : List Int) : Option (Bool) := (impl_areCars.f k l0).bind fun t506 => (if t506 = true then ((impl_drive.f k l0 (l0.length : Int)).bind fun bt507 => (some bt507.2)) else (some false))
theorem impl_isParking.mono : ∀ a0 k, LeO (impl_isParking.f k a0) (impl_isParking.f (k + 1) a0) := by
 intro a0 k
 unfold impl_isParking.f
 repeat' first | (with_reducible first | exact impl_areCars.mono _ _ | exact impl_drive.mono _ _ _ | exact LeO.refl _ | exact LeO.none _ | refine LeO.ite ?_ ?_ | refine LeO.bind ?_ (fun _ => ?_)) | exact LeO.none _ | refine LeO.ite ?_ ?_ | refine LeO.bind ?_ (fun _ => ?_)
set_option maxHeartbeats 8000000 in
set_option maxRecDepth 100000 in
theorem impl_isParking.calls (k : Nat) (A0 : Option Addr) (c0 : Nat) (l0 : List Int) (r : Bool) (w : World) (hr0 : Kd.C (Kd.int .i64) w A0 l0.length l0) (hc0 : l0.length ≤ c0) (h : impl_isParking.f k l0 = some r) :
  Calls Tryz.prog 73 #[.slice A0 l0.length c0] w fun e w' => e = .returned (.bool r) ∧ Below w.heap.size w w' := by
 have HR0 := Aside0.mk hr0
 have HC0 := Aside0.mk hc0
 clear hr0 hc0
 have HB := Aside0.mk (Below.refl w.heap.size w)
 have H : ((impl_areCars.f k l0).bind fun t506 => (if t506 = true then ((impl_drive.f k l0 (l0.length : Int)).bind fun bt507 => (some bt507.2)) else (some false))) = some r := h
 clear h
 replace H := Option.bind_eq_some_iff.mp H
 obtain ⟨t506, A20, H⟩ := H
 (try dsimp -simprocs only at H)
 have A2 := Aside0.mk A20
 clear A20
 by_cases c3 : t506 = true
 ·subst c3
  rw [if_pos rfl] at H
  replace H := Option.bind_eq_some_iff.mp H
  obtain ⟨⟨t507, t508⟩, A40, H⟩ := H
  (try dsimp -simprocs only at H)
  have A4 := Aside0.mk A40
  clear A40
  obtain rfl := Option.some.inj H
  go_enter Tryz.func73, Tryz.ntmps73
  go_wp2_with (first | ((with_reducible refine gate_callee (f := 97) rfl ?_); refine gcW 6 Tryz.func97 #[.slice A0 l0.length c0] rfl ?_; (with_reducible refine (impl_areCars.calls k _ _ l0 true _ ?side1 ?side2 A2.out).mono ?_); (case side1 => exact cbW HR0.out); (case side2 => exact HC0.out); rintro e w5 ⟨rfl, hb⟩; refine ⟨_, rfl, ?_⟩; have n0_ := Aside0.mk (below_step (nbW HB.out) hb); clear HB; have HB := n0_; clear n0_; (try clear hb); (try clear hb2); (try clear hk); (try clear hi)) | ((with_reducible refine gate_callee (f := 98) rfl ?_); refine gcW 12 Tryz.func98 #[.slice A0 l0.length c0, .int .i64 (l0.length : Int)] rfl ?_; (with_reducible refine (impl_drive.calls k _ _ l0 (l0.length : Int) t507 t508 _ ?side1 ?side2 A4.out).mono ?_); (case side1 => exact cbW (Kd.C_below HR0.out HB.out)); (case side2 => exact HC0.out); rintro e w6 ⟨v509, rfl, ho0, hb⟩; refine ⟨_, rfl, ?_⟩; have n0_ := Aside0.mk (Kd.R_lower ho0 (below_size (nbW HB.out))); have n1_ := Aside0.mk (below_step (nbW HB.out) hb); clear HB; have HO510 := n0_; have HB := n1_; clear n0_ n1_; (try clear hb); (try clear hb2); (try clear hk); (try clear hi); (try clear ho0)))
  go_ret
  exact ⟨by first | rfl | (simp [errW_none, errW_some] <;> rfl) | (simp [*, errW_none, errW_some] <;> rfl), nbW HB.out⟩
 ·replace c3 := Bool.eq_false_iff.mpr c3
  subst c3
  rw [if_neg (show ¬ (false = true) by decide)] at H
  obtain rfl := Option.some.inj H
  go_enter Tryz.func73, Tryz.ntmps73
  go_wp2_with (first | ((with_reducible refine gate_callee (f := 97) rfl ?_); refine gcW 6 Tryz.func97 #[.slice A0 l0.length c0] rfl ?_; (with_reducible refine (impl_areCars.calls k _ _ l0 false _ ?side1 ?side2 A2.out).mono ?_); (case side1 => exact cbW HR0.out); (case side2 => exact HC0.out); rintro e w7 ⟨rfl, hb⟩; refine ⟨_, rfl, ?_⟩; have n0_ := Aside0.mk (below_step (nbW HB.out) hb); clear HB; have HB := n0_; clear n0_; (try clear hb); (try clear hb2); (try clear hk); (try clear hi)))
  go_ret
  exact ⟨by first | rfl | (simp [errW_none, errW_some] <;> rfl) | (simp [*, errW_none, errW_some] <;> rfl), nbW HB.out⟩

/-! ### slices_Compact_int_int: function 99 (slices.Compact, by the library's contract) -/
section
open Go.Shelf
def laysComp_ren : Go.Shelf.Ren := ⟨fun | 20 => 99 | n => n, fun | 22 => 22 | 3 => 3 | 4 => 4 | 0 => 0 | n => n, fun | n => n⟩
theorem laysComp : Go.Proofs.Lays2.n20 Tryz.prog laysComp_ren := {
  mixed := by kernel_rfl
  f20 := Tryz.func99.trans (congrArg some (by kernel_rfl))
  t0 := Tryz.underlying0
  a0 := Tryz.isAgg0
  z0 := Tryz.sizeOf0
  v0 := Tryz.zeroValue0
  t3 := Tryz.underlying3
  a3 := Tryz.isAgg3
  z3 := Tryz.sizeOf3
  v3 := Tryz.zeroValue3
  t4 := Tryz.underlying4
  a4 := Tryz.isAgg4
  z4 := Tryz.sizeOf4
  v4 := Tryz.zeroValue4
  t22 := Tryz.underlying22
  a22 := Tryz.isAgg22
  z22 := Tryz.sizeOf22
  v22 := Tryz.zeroValue22
  i3 := by kernel_rfl }
def slices_Compact_int_int.f (k : Nat) (l0 : List Int) : Option (List Int) := some (Lib.compact l0)
theorem slices_Compact_int_int.mono : ∀ a0 k, LeO (slices_Compact_int_int.f k a0) (slices_Compact_int_int.f (k + 1) a0) := fun _ _ => LeO.refl _
set_option maxHeartbeats 1000000 in
theorem slices_Compact_int_int.calls (k : Nat) (P0_ : Nat → Prop) (v : Value) (l0 : List Int) (r : List Int) (w0 w : World) (hB : Below w0.heap.size w0 w) (ho0 : Kd.R (Kd.int .i64) 3 w w0.heap.size P0_ v l0) (h : slices_Compact_int_int.f k l0 = some r) :
    Calls Tryz.prog 99 #[v] w fun e w' => ∃ v0_, e = .returned (v0_) ∧ Kd.R (Kd.int .i64) 3 w' w0.heap.size P0_ v0_ r ∧ Below w0.heap.size w0 w' := by
  obtain rfl := Option.some.inj h
  have hown := Kd.own_of_R ho0
  rcases hown.2 with ⟨rfl, hn⟩ | ⟨g, cap, cur, rfl, hg, hh, hnc, hcm, hsz, htk⟩
  · obtain rfl : l0 = [] := List.length_eq_zero_iff.1 hn
    refine (Any.slices_Compact_int_empty laysComp none 0 w).mono ?_
    rintro e w' ⟨rfl, rfl⟩
    exact ⟨_, rfl, Kd.R_nil _ _ _ _ _, hB⟩
  · have hlt2 : g < w.heap.size := (Array.getElem?_eq_some_iff.1 hh).1
    have hH : Go.Sort.Holds (Value.int .i64) w g 0 l0.toArray := by
      intro j hj
      have hj' : j < l0.length := by simpa using hj
      have hc := Kd.R_cell (d := (0 : Int)) ho0 (j : Int) (by omega) (by omega)
      rw [Int.toNat_natCast] at hc
      rw [Nat.zero_add]
      refine ⟨?_, hc.2⟩
      rw [hc.1]
      unfold rdOf
      rw [Int.toNat_natCast, List.getD_eq_getElem?_getD, List.getElem?_eq_getElem hj', getElem!_pos _ j hj]
      rfl
    have hle := Lib.compact_length_le l0
    have hms : maxLen ≤ 9223372036854775807 := by decide
    refine (Any.slices_Compact_int laysComp g 0 cap l0 w hH (by omega) hnc).mono ?_
    rintro e w' ⟨rfl, n, rfl⟩
    rw [Go.Lib.putRow_eq_setCells (Value.int .i64) w g 0 l0.toArray (Lib.compact l0 ++ List.replicate (l0.length - (Lib.compact l0).length) 0) n hH (by simp; omega)]
    generalize Lib.compact l0 = ys at hle ⊢
    have hlen : (ys ++ List.replicate (l0.length - ys.length) (0 : Int)).length = l0.length := by simp; omega
    have htk2 : (ys ++ List.replicate (l0.length - ys.length) (0 : Int)).take ys.length = ys := by simp
    generalize ys ++ List.replicate (l0.length - ys.length) (0 : Int) = zs at hlen htk2 ⊢
    have hh2 : (w.drewN n).heap[g]? = some (.cells cur 3 (0, 0)) := hh
    obtain ⟨cur', k1, k2, k3⟩ := setCells_row (zs.map (Value.int .i64)) 0 (w.drewN n) cur hh2 (by rw [List.length_map, hsz]; omega)
    obtain ⟨s1, s2, s3, s4⟩ := setCells_same g (zs.map (Value.int .i64)) 0 (w.drewN n)
    have s4' : ((w.drewN n).setCells g 0 (zs.map (Value.int .i64))).heap.size = w.heap.size := s4
    have far : ∀ k, k ≠ g → k < w.heap.size → ((w.drewN n).setCells g 0 (zs.map (Value.int .i64))).heap[k]? = w.heap[k]? := fun k hk hkl => setCells_far (w := w.drewN n) (zs.map (Value.int .i64)) 0 k hk
    refine ⟨_, rfl, ?_, ?_⟩
    · refine Kd.R_of_own ⟨by simp [encs], .inr ⟨g, cap, cur', rfl, hg, k1, by omega, hcm, by rw [k2, hsz], ?_⟩⟩ fun k hk => ho0.1 k hk
      rw [Nat.mul_one, k3, List.take_zero, List.nil_append, List.take_append_of_le_length (by rw [List.length_map]; omega), ← List.map_take, htk2]
      simp [encs]
    · exact ⟨s1.trans hB.os, s2.trans hB.tape, s3.trans hB.output, by rw [s4']; exact hB.size, fun k hk => (far k (by omega) (Nat.lt_of_lt_of_le hk hB.size)).trans (hB.block k hk)⟩
end

/-! ### impl_countIf: function 101 -/
def impl_countIf.l0 (p1 : Int → Bool) : Nat → Int → List Int → Int → Int → Option (Int)
  | 0, _, _, _, _ => none
  | k + 1, x5, x8, x9, x10 => if x10 < x9 then (if 0 ≤ x10 then (if x10 < (x8.length : Int) then (((some (p1 (rd x8 x10)) : Option Bool)).bind fun t512 => (if t512 = true then (impl_countIf.l0 p1 k (wrap64 (x5 + 1)) x8 x9 (wrap64 (x10 + 1))) else (impl_countIf.l0 p1 k x5 x8 x9 (wrap64 (x10 + 1))))) else (none)) else (none)) else (some x5)
def impl_countIf.f (p1 : Int → Bool) (k : Nat) (l0 : List Int) : Option (Int) := impl_countIf.l0 p1 k 0 l0 (l0.length : Int) 0
theorem impl_countIf.mono_l (p1 : Int → Bool) : ∀ k, (∀ y0 y1 y2 y3, LeO (impl_countIf.l0 p1 k y0 y1 y2 y3) (impl_countIf.l0 p1 (k + 1) y0 y1 y2 y3))
  | 0 => fun _ _ _ _ r h => by simp [impl_countIf.l0] at h
  | k + 1 => by
    have ih0 := impl_countIf.mono_l p1 k
    · intro y0 y1 y2 y3
      unfold impl_countIf.l0
      repeat' first | (with_reducible first | exact ih0 _ _ _ _ | exact LeO.refl _ | exact LeO.none _ | refine LeO.ite ?_ ?_ | refine LeO.bind ?_ (fun _ => ?_)) | exact ih0 _ _ _ _ | exact LeO.none _ | refine LeO.ite ?_ ?_ | refine LeO.bind ?_ (fun _ => ?_)
theorem impl_countIf.mono (p1 : Int → Bool) : ∀ a0 k, LeO (impl_countIf.f p1 k a0) (impl_countIf.f p1 (k + 1) a0) := by
  intro a0 k
  have ih0 := impl_countIf.mono_l p1 k
  unfold impl_countIf.f
  repeat' first | (with_reducible first | exact ih0 _ _ _ _ | exact LeO.refl _ | exact LeO.none _ | refine LeO.ite ?_ ?_ | refine LeO.bind ?_ (fun _ => ?_)) | exact ih0 _ _ _ _ | exact LeO.none _ | refine LeO.ite ?_ ?_ | refine LeO.bind ?_ (fun _ => ?_)
set_option maxHeartbeats 8000000 in
set_option maxRecDepth 100000 in
theorem impl_countIf.calls (k : Nat) (A0 : Option Addr) (c0 : Nat) (l0 : List Int) (g1 : Nat) (lb1 : Array Value) (p1 : Int → Bool) (r : Int) (w : World) (hr0 : Kd.C (Kd.int .i64) w A0 l0.length l0) (hc0 : l0.length ≤ c0) (eg : ∀ args w, (callFunc g1 args).run Tryz.prog w = .ok (.enter g1 args) w) (hp1 : PredI Tryz.prog g1 lb1 p1 w) (h : impl_countIf.f p1 k l0 = some r) :
    Calls Tryz.prog 101 #[.slice A0 l0.length c0, .func (.func g1) #[] lb1] w fun e w' => e = .returned (.int .i64 r) ∧ Drawn0 w w' := by
  have HP1 := Aside0.mk hp1
  clear hp1
  have HR0 := Aside0.mk hr0
  have HC0 := Aside0.mk hc0
  clear hr0 hc0
  have H : (impl_countIf.l0 p1 k 0 l0 (l0.length : Int) 0) = some r := h
  clear h
  have H' := Aside0.mk H
  clear H
  go_enter Tryz.func101, Tryz.ntmps101
  go_wp2
  go_loopg [5, 10] k (fun kq v5 v10 w' => ∃ (x5_1 : Int) (x10_1 : Int), v5 = .int .i64 x5_1 ∧ v10 = .int .i64 x10_1 ∧ Aside0 (impl_countIf.l0 p1 kq x5_1 l0 (l0.length : Int) x10_1 = some r) ∧ Aside0 (kq ≤ k) ∧ Drawn0 w w')
  case atStart => exact ⟨(0), (0), (by first | rfl | (simp; done) | (simp [*]; done)), (by first | rfl | (simp; done) | (simp [*]; done)), H', ⟨Nat.le_refl _⟩, by repeat (first | exact Drawn0.refl _ | apply Drawn0.step)⟩
  case round =>
    clear H'
    try clear c1
    try clear p2
    obtain ⟨x5_1, x10_1, rfl, rfl, HA, HK1, ⟨m1, rfl⟩⟩ := hrel
    cases gk with
    | zero => exact absurd HA.out (by simp [impl_countIf.l0])
    | succ k1 =>
      have H := HA.out
      clear HA
      simp only [impl_countIf.l0] at H
      by_cases c3 : x10_1 < (l0.length : Int)
      · rw [if_pos c3] at H
        have c3b0 := decide_eq_true c3
        clear c3
        by_cases c4 : 0 ≤ x10_1
        · rw [if_pos c4] at H
          have c4b0 := decide_eq_true c4
          clear c4
          by_cases c5 : x10_1 < (l0.length : Int)
          · rw [if_pos c5] at H
            have c5b0 := decide_eq_true c5
            clear c5
            replace H := Option.bind_eq_some_iff.mp H
            obtain ⟨t512, A60, H⟩ := H
            (try dsimp -simprocs only at H)
            have A6 := Aside0.mk A60
            clear A60
            by_cases c7 : t512 = true
            · subst c7
              rw [if_pos rfl] at H
              have H' := Aside0.mk H
              clear H
              have p511 : 0 ≤ (x10_1 : Int) := of_decide_eq_true (by first | (with_reducible assumption) | assumption)
              have q511 : x10_1 < (l0.length : Int) := of_decide_eq_true (by first | (with_reducible assumption) | assumption)
              obtain ⟨ad511, e511, hx511_0⟩ := Kd.at_int HR0.out x10_1 p511 q511
              cases e511
              replace p511 := eq_true p511
              replace q511 := eq_true q511
              go_wp2_with (first | ((go_at_fn g1; refine (pred_is HP1.out _ (rd l0 x10_1) true (pw_below_drewN (Below.refl _ _) _) A6.out).mono ?_; rintro e w' ⟨rfl, ⟨nd, rfl⟩⟩)))
              go_roundg k1
              case measure => have := HK1.out; omega
              case rel => exact ⟨(wrap64 (x5_1 + 1)), (wrap64 (x10_1 + 1)), (by first | rfl | (simp; done) | (simp [*]; done)), (by first | rfl | (simp; done) | (simp [*]; done)), H', ⟨by have := HK1.out; omega⟩, by repeat (first | exact Drawn0.refl _ | apply Drawn0.step)⟩
            · replace c7 := Bool.eq_false_iff.mpr c7
              subst c7
              rw [if_neg (show ¬ (false = true) by decide)] at H
              have H' := Aside0.mk H
              clear H
              have p511 : 0 ≤ (x10_1 : Int) := of_decide_eq_true (by first | (with_reducible assumption) | assumption)
              have q511 : x10_1 < (l0.length : Int) := of_decide_eq_true (by first | (with_reducible assumption) | assumption)
              obtain ⟨ad511, e511, hx511_0⟩ := Kd.at_int HR0.out x10_1 p511 q511
              cases e511
              replace p511 := eq_true p511
              replace q511 := eq_true q511
              go_wp2_with (first | ((go_at_fn g1; refine (pred_is HP1.out _ (rd l0 x10_1) false (pw_below_drewN (Below.refl _ _) _) A6.out).mono ?_; rintro e w' ⟨rfl, ⟨nd, rfl⟩⟩)))
              go_roundg k1
              case measure => have := HK1.out; omega
              case rel => exact ⟨(x5_1), (wrap64 (x10_1 + 1)), (by first | rfl | (simp; done) | (simp [*]; done)), (by first | rfl | (simp; done) | (simp [*]; done)), H', ⟨by have := HK1.out; omega⟩, by repeat (first | exact Drawn0.refl _ | apply Drawn0.step)⟩
          · rw [if_neg c5] at H
            exact absurd H (by simp)
        · rw [if_neg c4] at H
          exact absurd H (by simp)
      · rw [if_neg c3] at H
        have c3b0 := decide_eq_false c3
        clear c3
        obtain rfl := Option.some.inj H
        go_wp2
        go_ret
        exact ⟨by first | rfl | (simp; done) | (simp [*]; done), by repeat (first | exact Drawn0.refl _ | apply Drawn0.step)⟩

/-! ### impl_choose: function 103 -/
def impl_choose.l0 : Nat → Int → Int → Int → Int → Option (Int)
 | 0, _, _, _, _ => none
 | k + 1, x0, x5, x7, x8 => if x8 < x7 then (if (wrap64 (x8 + 1)) = 0 then (none) else (impl_choose.l0 k x0 (wrap64 (Int.tdiv (wrap64 (x5 * (wrap64 (x0 - x8)))) (wrap64 (x8 + 1)))) x7 (wrap64 (x8 + 1)))) else (some x5)
def impl_choose.f (k : Nat) (a0 : Int) (a1 : Int) : Option (Int) := impl_choose.l0 k a0 1 a1 0
theorem impl_choose.mono_l : ∀ k, (∀ y0 y1 y2 y3, LeO (impl_choose.l0 k y0 y1 y2 y3) (impl_choose.l0 (k + 1) y0 y1 y2 y3))
 | 0 => fun _ _ _ _ r h => by simp [impl_choose.l0] at h
 | k + 1 => by
  have ih0 := impl_choose.mono_l k
  ·intro y0 y1 y2 y3
   unfold impl_choose.l0
   repeat' first | (with_reducible first | exact ih0 _ _ _ _ | exact LeO.refl _ | exact LeO.none _ | refine LeO.ite ?_ ?_ | refine LeO.bind ?_ (fun _ => ?_)) | exact LeO.none _ | refine LeO.ite ?_ ?_ | refine LeO.bind ?_ (fun _ => ?_)
theorem impl_choose.mono : ∀ a0 a1 k, LeO (impl_choose.f k a0 a1) (impl_choose.f (k + 1) a0 a1) := by
 intro a0 a1 k
 have ih0 := impl_choose.mono_l k
 unfold impl_choose.f
 repeat' first | (with_reducible first | exact ih0 _ _ _ _ | exact LeO.refl _ | exact LeO.none _ | refine LeO.ite ?_ ?_ | refine LeO.bind ?_ (fun _ => ?_)) | exact LeO.none _ | refine LeO.ite ?_ ?_ | refine LeO.bind ?_ (fun _ => ?_)
set_option maxHeartbeats 8000000 in
set_option maxRecDepth 100000 in
theorem impl_choose.calls (k : Nat) (a0 : Int) (a1 : Int) (r : Int) (w : World) (h : impl_choose.f k a0 a1 = some r) :
  Calls Tryz.prog 103 #[.int .i64 a0, .int .i64 a1] w fun e w' => e = .returned (.int .i64 r) ∧ Drawn0 w w' := by
 have H : (impl_choose.l0 k a0 1 a1 0) = some r := h
 clear h
 have H' := Aside0.mk H
 clear H
 go_enter Tryz.func103, Tryz.ntmps103
 go_wp2
 go_loopg [5, 8] k (fun kq v5 v8 w' => ∃ (x5_1 : Int) (x8_1 : Int), v5 = .int .i64 x5_1 ∧ v8 = .int .i64 x8_1 ∧ Aside0 (impl_choose.l0 kq a0 x5_1 a1 x8_1 = some r) ∧ Aside0 (kq ≤ k) ∧ Drawn0 w w')
 case atStart => exact ⟨(1), (0), (by first | rfl | (simp; done) | (simp [*]; done)), (by first | rfl | (simp; done) | (simp [*]; done)), H', ⟨Nat.le_refl _⟩, by repeat (first | exact Drawn0.refl _ | apply Drawn0.step)⟩
 case round =>
  clear H'
  try clear c1
  try clear p2
  obtain ⟨x5_1, x8_1, rfl, rfl, HA, HK1, ⟨m1, rfl⟩⟩ := hrel
  cases gk with
  | zero => exact absurd HA.out (by simp [impl_choose.l0])
  | succ k1 =>
   have H := HA.out
   clear HA
   simp only [impl_choose.l0] at H
   by_cases c3 : x8_1 < a1
   ·rw [if_pos c3] at H
    have c3b0 := decide_eq_true c3
    clear c3
    by_cases c4 : (wrap64 (x8_1 + 1)) = 0
    ·rw [if_pos c4] at H
     exact absurd H (by simp)
    ·rw [if_neg c4] at H
     have c4b0 : ((wrap64 (x8_1 + 1)) == 0) = false := beq_eq_false_iff_ne.mpr c4
     have c4b1 : ((wrap64 (x8_1 + 1)) != 0) = true := bne_iff_ne.mpr c4
     have H' := Aside0.mk H
     clear H
     go_wp2
     go_roundg k1
     case measure => have := HK1.out; omega
     case rel => exact ⟨(wrap64 (Int.tdiv (wrap64 (x5_1 * (wrap64 (a0 - x8_1)))) (wrap64 (x8_1 + 1)))), (wrap64 (x8_1 + 1)), (by first | rfl | (simp; done) | (simp [*]; done)), (by first | rfl | (simp; done) | (simp [*]; done)), H', ⟨by have := HK1.out; omega⟩, by repeat (first | exact Drawn0.refl _ | apply Drawn0.step)⟩
   ·rw [if_neg c3] at H
    have c3b0 := decide_eq_false c3
    clear c3
    obtain rfl := Option.some.inj H
    go_wp2
    go_ret
    exact ⟨by first | rfl | (simp; done) | (simp [*]; done), by repeat (first | exact Drawn0.refl _ | apply Drawn0.step)⟩

end Go.Proofs.YtlknoidcopkmfaaGreatDoor.PFnWalkTexts
