-- Written by a program of this session for this claim (its own turn of the print).
import Derived.Test.YtkbdjbmalpkkfaaPFnPairsOfWalksx0
import Derived.Test.YtkbdjbmalpkkfaaPFnPairsOfWalksx5
import Derived.Test.YtkbdjbmalpkkfaaPFnPairsOfWalksx8
namespace Go.Proofs.Ytkbdjbmalpkkfaa.PFnPairsOfWalks
open Go.RowKit Go.Proofs.YtkbdjbmalpkkfaaW.PrintWords Go.Proofs.YtkbdjbmalpkkfaaW.PrintLast Go.Proofs.YtkbdjbmalpkkfaaW.PrintMore
attribute [local go_sem] max2_int min2_int max_two min_two max_three min_three max_four min_four   -- for this text's walks alone
set_option linter.unusedVariables false
set_option linter.unusedSimpArgs false

/-! ### impl_indices: function 61 -/
def impl_indices.l0 (p1 : Int → Bool) : Nat → List Int → List Int → Int → Int → Option (List Int)
  | 0, _, _, _, _ => none
  | k + 1, x5, x9, x10, x11 => if x11 < x10 then (if 0 ≤ x11 then (if x11 < (x9.length : Int) then (((some (p1 (rd x9 x11)) : Option Bool)).bind fun t388 => (if t388 = true then (if x5.length < 17592186044416 then (impl_indices.l0 p1 k (x5 ++ [x11]) x9 x10 (wrap64 (x11 + 1))) else (none)) else (impl_indices.l0 p1 k x5 x9 x10 (wrap64 (x11 + 1))))) else (none)) else (none)) else (some x5)
def impl_indices.f (p1 : Int → Bool) (k : Nat) (l0 : List Int) : Option (List Int) := impl_indices.l0 p1 k (([] : List Int)) l0 (l0.length : Int) 0
theorem impl_indices.mono_l (p1 : Int → Bool) : ∀ k, (∀ y0 y1 y2 y3, LeO (impl_indices.l0 p1 k y0 y1 y2 y3) (impl_indices.l0 p1 (k + 1) y0 y1 y2 y3))
  | 0 => fun _ _ _ _ r h => by simp [impl_indices.l0] at h
  | k + 1 => by
    have ih0 := impl_indices.mono_l p1 k
    · intro y0 y1 y2 y3
      unfold impl_indices.l0
      repeat' first
      | (with_reducible exact ih0 _ _ _ _)
      | (with_reducible exact LeO.refl _)
      | (with_reducible exact LeO.none _)
      | (with_reducible refine LeO.ite ?_ ?_)
      | (with_reducible refine LeO.bind ?_ (fun _ => ?_))
      | exact ih0 _ _ _ _
      | exact LeO.none _
      | refine LeO.ite ?_ ?_
      | refine LeO.bind ?_ (fun _ => ?_)
theorem impl_indices.mono (p1 : Int → Bool) : ∀ a0 k, LeO (impl_indices.f p1 k a0) (impl_indices.f p1 (k + 1) a0) := by
  intro a0 k
  have ih0 := impl_indices.mono_l p1 k
  unfold impl_indices.f
  repeat' first
      | (with_reducible exact ih0 _ _ _ _)
      | (with_reducible exact LeO.refl _)
      | (with_reducible exact LeO.none _)
      | (with_reducible refine LeO.ite ?_ ?_)
      | (with_reducible refine LeO.bind ?_ (fun _ => ?_))
      | exact ih0 _ _ _ _
      | exact LeO.none _
      | refine LeO.ite ?_ ?_
      | refine LeO.bind ?_ (fun _ => ?_)
set_option maxHeartbeats 8000000 in
set_option maxRecDepth 100000 in
theorem impl_indices.calls (k : Nat) (A0 : Option Addr) (c0 : Nat) (l0 : List Int) (g1 : Nat) (lb1 : Array Value) (p1 : Int → Bool) (r : List Int) (w : World) (hr0 : Kd.C (Kd.int .i64) w A0 l0.length l0) (hc0 : l0.length ≤ c0) (eg : ∀ args w, (callFunc g1 args).run Try.prog w = .ok (.enter g1 args) w) (hp1 : PredI Try.prog g1 lb1 p1 w) (h : impl_indices.f p1 k l0 = some r) :
    Calls Try.prog 61 #[.slice A0 l0.length c0, .func (.func g1) #[] lb1] w fun e w' => ∃ v0_ : Value, e = .returned (v0_) ∧ Kd.R (Kd.int .i64) 3 w' w.heap.size (fun _ => True) v0_ r ∧ Below w.heap.size w w' := by
  have HP1 := Aside0.mk hp1
  clear hp1
  have HR0 := Aside0.mk hr0
  have HC0 := Aside0.mk hc0
  clear hr0 hc0
  have HB := Aside0.mk (Below.refl w.heap.size w)
  have H : (impl_indices.l0 p1 k (([] : List Int)) l0 (l0.length : Int) 0) = some r := h
  clear h
  obtain ⟨y384, hy384⟩ : ∃ y_ : List Int, y_ = (([] : List Int)) := ⟨_, rfl⟩
  replace H : (impl_indices.l0 p1 k y384 l0 (l0.length : Int) 0) = some r := by first | (rw [hy384]; with_reducible exact H) | (have H2_ := (Option.bind_some _ _).symm.trans H; rw [hy384]; with_reducible exact H2_) | (have H2_ := (Option.bind_some _ _).symm.trans H; with_reducible exact H2_) | with_reducible exact H | (rw [hy384]; exact H) | exact H
  have Ny384 := Aside0.mk hy384
  clear hy384
  have H' := Aside0.mk H
  clear H
  go_enter Try.func61, Try.ntmps61
  go_wp2_with (first | ((with_reducible refine gate_dst (N := 8) rfl ?_); refine Kd.R_lit (Kd.int .i64) _ 3 ?hg (N := 8) ?hd (xs := ([] : List Int)) (inner := []) (ok := fun _ => True) (okp := fun _ => True) ?hr ?hp (fun _ hk => hk) trivial (Below.refl _ _) (Nat.le_refl _) (by simp) ?_; (case hd => rfl); (case hg => rfl); (case hr => first | (go_simp; done) | (go_simp; rfl)); (case hp => exact (Reps.none _ _)); intro v385 w3 ho4 hb hg_ hnew_; clear hg_ hnew_; (first | rw [← Ny384.out] at ho4 | (simp only [Int.reduceToNat] at ho4; rw [← Ny384.out] at ho4)); have n0_ := Aside0.mk (Kd.R_lower ho4 (below_size (by repeat (first | (with_reducible first | exact HB.out | apply below_alloc | apply pw_below_drewN | apply below_drew1) | exact HB.out)))); have n1_ := Aside0.mk (below_step (by repeat (first | (with_reducible first | exact HB.out | apply below_alloc | apply pw_below_drewN | apply below_drew1) | exact HB.out)) hb); clear HB; have HO386 := n0_; have HB := n1_; clear n0_ n1_; clear hb ho4))
  go_loopg [5, 11] k (fun kq v5 v11 w' => ∃ (x5_1 : List Int) (x11_1 : Int), v11 = .int .i64 x11_1 ∧ Aside0 (impl_indices.l0 p1 kq x5_1 l0 (l0.length : Int) x11_1 = some r) ∧ Aside0 (kq ≤ k) ∧ Aside0 (Kd.R (Kd.int .i64) 3 w' w.heap.size (fun _ => True) v5 x5_1) ∧ Aside0 (Below w.heap.size w w'))
  case atStart => exact ⟨(y384), (0), (by first | rfl | (simp; done) | (simp [*]; done)), H', ⟨Nat.le_refl _⟩, ⟨by (with_reducible repeat (first | apply Kd.R_alloc | apply Kd.R_drewN | apply Kd.R_drew)); exact HO386.out⟩, ⟨by repeat (first | (with_reducible first | exact HB.out | apply below_alloc | apply pw_below_drewN | apply below_drew1) | exact HB.out)⟩⟩
  case round =>
    clear H'
    try clear p2
    obtain ⟨x5_1, x11_1, rfl, HA, HK1, HO_5, HB⟩ := hrel
    cases gk with
    | zero => exact absurd HA.out (by simp [impl_indices.l0])
    | succ k1 =>
      have H := HA.out
      clear HA
      simp only [impl_indices.l0] at H
      by_cases c5 : x11_1 < (l0.length : Int)
      · rw [if_pos c5] at H
        have c5b0 : decide (x11_1 < (l0.length : Int)) = true := decide_eq_true c5
        clear c5
        by_cases c6 : 0 ≤ x11_1
        · rw [if_pos c6] at H
          have c6b0 : decide (0 ≤ x11_1) = true := decide_eq_true c6
          clear c6
          by_cases c7 : x11_1 < (l0.length : Int)
          · rw [if_pos c7] at H
            have c7b0 : decide (x11_1 < (l0.length : Int)) = true := decide_eq_true c7
            clear c7
            replace H := Option.bind_eq_some_iff.mp H
            obtain ⟨t388, A80, H⟩ := H
            replace H : (if t388 = true then (if x5_1.length < 17592186044416 then (impl_indices.l0 p1 k1 (x5_1 ++ [x11_1]) l0 (l0.length : Int) (wrap64 (x11_1 + 1))) else (none)) else (impl_indices.l0 p1 k1 x5_1 l0 (l0.length : Int) (wrap64 (x11_1 + 1)))) = some r := H
            have A8 := Aside0.mk A80
            clear A80
            by_cases c9 : t388 = true
            · subst c9
              have H1 : (if x5_1.length < 17592186044416 then (impl_indices.l0 p1 k1 (x5_1 ++ [x11_1]) l0 (l0.length : Int) (wrap64 (x11_1 + 1))) else (none)) = some r := by rw [if_pos rfl] at H; exact H
              clear H
              have H := H1
              clear H1
              by_cases c10 : x5_1.length < 17592186044416
              · rw [if_pos c10] at H
                have LMc10 := Aside0.mk c10
                clear c10
                obtain ⟨y389, hy389⟩ : ∃ y_ : List Int, y_ = (x5_1 ++ [x11_1]) := ⟨_, rfl⟩
                replace H : (impl_indices.l0 p1 k1 y389 l0 (l0.length : Int) (wrap64 (x11_1 + 1))) = some r := by first | (rw [hy389]; with_reducible exact H) | (have H2_ := (Option.bind_some _ _).symm.trans H; rw [hy389]; with_reducible exact H2_) | (have H2_ := (Option.bind_some _ _).symm.trans H; with_reducible exact H2_) | with_reducible exact H | (rw [hy389]; exact H) | exact H
                have Ny389 := Aside0.mk hy389
                clear hy389
                have H' := Aside0.mk H
                clear H
                have p387 : 0 ≤ (x11_1 : Int) := of_decide_eq_true (by first | (with_reducible assumption) | assumption)
                have q387 : x11_1 < (l0.length : Int) := of_decide_eq_true (by first | (with_reducible assumption) | assumption)
                obtain ⟨ad387, e387, hx387_0⟩ := Kd.at_int HR0.out x11_1 p387 q387
                cases e387
                replace hx387_0 := (HB.out.cell (World.block_lt_of_cell? w _ hx387_0)).trans hx387_0
                replace p387 := eq_true p387
                replace q387 := eq_true q387
                go_wp2_with (first | ((go_at_fn g1; refine (pred_is HP1.out _ (rd l0 x11_1) true (by repeat (first | (with_reducible first | exact HB.out | apply below_alloc | apply pw_below_drewN | apply below_drew1) | exact HB.out)) A8.out).mono ?_; rintro e w' ⟨rfl, ⟨nd, rfl⟩⟩)) | ((with_reducible refine gate_builtin (b := .append) (xs := #[.tmp 19, .tmp 21]) rfl ?_); at_builtin; refine Kd.R_append (Kd.int .i64) (w0 := w) w.heap.size rfl (.tmp 19) (.tmp 21) 24 3 (.int .i64 0) 8 rfl Try.underlying24 info3 rfl (by decide) (by omega) u5 x5_1 x11_1 [.int .i64 x11_1] (fun _ => True) (fun _ => False) rfl rfl ?aP (fun _ hk => hk.elim) ?aF ?aO ?aB ?aS ?aL ?_; (case aP => exact rfl); (case aB => exact (by repeat (first | (with_reducible first | exact HB.out | apply below_alloc | apply pw_below_drewN | apply below_drew1) | exact HB.out))); (case aF => exact (fun _ _ => trivial)); (case aO => exact (by (with_reducible repeat (first | apply Kd.R_alloc | apply Kd.R_drewN | apply Kd.R_drew)); exact HO_5.out)); (case aS => exact (below_size (by repeat (first | (with_reducible first | exact HB.out | apply below_alloc | apply pw_below_drewN | apply below_drew1) | exact HB.out)))); (case aL => have := LMc10.out; omega); intro v390 w11 ho hb hg hat; rw [← Ny389.out] at ho; have n0_ := Aside0.mk (hb); have n1_ := Aside0.mk (ho); clear HB; clear HO_5; have HB := n0_; have HO391 := n1_; clear n0_ n1_; clear ho hb hg hat))
                go_roundg k1
                case measure => have := HK1.out; omega
                case rel => exact ⟨(y389), (wrap64 (x11_1 + 1)), (by first | rfl | (simp; done) | (simp [*]; done)), H', ⟨by have := HK1.out; omega⟩, ⟨by (with_reducible repeat (first | apply Kd.R_alloc | apply Kd.R_drewN | apply Kd.R_drew)); exact HO391.out⟩, ⟨by repeat (first | (with_reducible first | exact HB.out | apply below_alloc | apply pw_below_drewN | apply below_drew1) | exact HB.out)⟩⟩
              · rw [if_neg c10] at H
                exact absurd H (by simp)
            · replace c9 := Bool.eq_false_iff.mpr c9
              subst c9
              have H1 : (impl_indices.l0 p1 k1 x5_1 l0 (l0.length : Int) (wrap64 (x11_1 + 1))) = some r := by rw [if_neg (show ¬ (false = true) by decide)] at H; exact H
              clear H
              have H := H1
              clear H1
              have H' := Aside0.mk H
              clear H
              have p387 : 0 ≤ (x11_1 : Int) := of_decide_eq_true (by first | (with_reducible assumption) | assumption)
              have q387 : x11_1 < (l0.length : Int) := of_decide_eq_true (by first | (with_reducible assumption) | assumption)
              obtain ⟨ad387, e387, hx387_0⟩ := Kd.at_int HR0.out x11_1 p387 q387
              cases e387
              replace hx387_0 := (HB.out.cell (World.block_lt_of_cell? w _ hx387_0)).trans hx387_0
              replace p387 := eq_true p387
              replace q387 := eq_true q387
              go_wp2_with (first | ((go_at_fn g1; refine (pred_is HP1.out _ (rd l0 x11_1) false (by repeat (first | (with_reducible first | exact HB.out | apply below_alloc | apply pw_below_drewN | apply below_drew1) | exact HB.out)) A8.out).mono ?_; rintro e w' ⟨rfl, ⟨nd, rfl⟩⟩)))
              go_roundg k1
              case measure => have := HK1.out; omega
              case rel => exact ⟨(x5_1), (wrap64 (x11_1 + 1)), (by first | rfl | (simp; done) | (simp [*]; done)), H', ⟨by have := HK1.out; omega⟩, ⟨by (with_reducible repeat (first | apply Kd.R_alloc | apply Kd.R_drewN | apply Kd.R_drew)); exact HO_5.out⟩, ⟨by repeat (first | (with_reducible first | exact HB.out | apply below_alloc | apply pw_below_drewN | apply below_drew1) | exact HB.out)⟩⟩
          · rw [if_neg c7] at H
            exact absurd H (by simp)
        · rw [if_neg c6] at H
          exact absurd H (by simp)
      · rw [if_neg c5] at H
        have c5b0 : decide (x11_1 < (l0.length : Int)) = false := decide_eq_false c5
        clear c5
        obtain rfl := Option.some.inj H
        go_wp2
        go_ret
        exact ⟨_, by first | rfl | (simp [errW_none, errW_some] <;> rfl) | (simp [*, errW_none, errW_some] <;> rfl), by (with_reducible repeat (first | apply Kd.R_alloc | apply Kd.R_drewN | apply Kd.R_drew)); exact HO_5.out, by repeat (first | (with_reducible first | exact HB.out | apply below_alloc | apply pw_below_drewN | apply below_drew1) | exact HB.out)⟩

/-! ### impl_ReadingOf_1: function 62 handed to function 61 -/
def impl_ReadingOf_1.p (a1 : Int) (n : Int) : Bool := decide (n = a1)
set_option maxHeartbeats 8000000 in
set_option maxRecDepth 100000 in
theorem impl_ReadingOf_1.pred (gb1 : Nat) (a1 : Int) (w : World) (hbox1 : w.heap[gb1]? = some (.cells #[.int .i64 a1] 3 (0, 0))) : PredI Try.prog 62 #[.pointer (some ⟨gb1, 0, none⟩)] (impl_ReadingOf_1.p a1) w := by
  intro W x hb
  have hc1 : W.cell? ⟨gb1, 0, none⟩ = some (.int .i64 a1) := (blk_cell (blk_below hbox1 hb) 0).trans rfl
  clear hbox1
  clear hb
  show Calls Try.prog 62 #[.int .i64 x, .pointer (some ⟨gb1, 0, none⟩)] W (fun e w' => e = .returned (.bool (decide (x = a1))) ∧ Drawn0 W w')
  go_enter Try.func62, Try.ntmps62
  go_wp2
  go_ret
  exact ⟨by first | rfl | (simp; done) | (congr 2; rw [Bool.eq_iff_iff]; simp; done), Drawn0.refl _⟩
def impl_ReadingOf_1.f (k : Nat) (l0 : List Int) (a1 : Int) : Option (List Int) := impl_indices.f (impl_ReadingOf_1.p a1) k l0
theorem impl_ReadingOf_1.mono : ∀ a0 a1 k, LeO (impl_ReadingOf_1.f k a0 a1) (impl_ReadingOf_1.f (k + 1) a0 a1) := fun a0 a1 k => impl_indices.mono (impl_ReadingOf_1.p a1) a0 k
theorem impl_ReadingOf_1.calls (k : Nat) (A0 : Option Addr) (c0 : Nat) (l0 : List Int) (gb1 : Nat) (a1 : Int) (r : List Int) (w : World) (hr0 : Kd.C (Kd.int .i64) w A0 l0.length l0) (hc0 : l0.length ≤ c0) (hbox1 : w.heap[gb1]? = some (.cells #[.int .i64 a1] 3 (0, 0))) (h : impl_ReadingOf_1.f k l0 a1 = some r) :
    Calls Try.prog 61 #[.slice A0 l0.length c0, .func (.func 62) #[] #[.pointer (some ⟨gb1, 0, none⟩)]] w fun e w' => ∃ v0_ : Value, e = .returned (v0_) ∧ Kd.R (Kd.int .i64) 3 w' w.heap.size (fun _ => True) v0_ r ∧ Below w.heap.size w w' :=
  impl_indices.calls k A0 c0 l0 62 #[.pointer (some ⟨gb1, 0, none⟩)] (impl_ReadingOf_1.p a1) r w hr0 hc0 (enters_of Try.func62 (by kernel_rfl) rfl) (impl_ReadingOf_1.pred gb1 a1 w hbox1) h

/-! ### slices.Backward over a slice: function 60 and its closure 101 (the walks of an iterator over a slice follow the worked text of the guide) -/
section
attribute [local go_sem] Oper.semAt_some
open Go.Shelf
/-- The cells of C hold on what they hold. -/
def KpCInt (C : Addr → Prop) (W W' : World) : Prop := ∀ a v, C a → W.cell? a = some v → W'.cell? a = some v
theorem KpCInt.refl (C : Addr → Prop) (W : World) : KpCInt C W W := fun _ _ _ h => h
theorem KpCInt.trans {C : Addr → Prop} {A B D : World} (h : KpCInt C A B) (k : KpCInt C B D) : KpCInt C A D := fun a v ha hv => k a v ha (h a v ha hv)
theorem KpCInt.put {C : Addr → Prop} {w : World} (W : World) (l : Nat) (o o' : Obj) (_ : w.heap.size ≤ l) (h : W.heap[l]? = some o) (hc : o.isCells = false) (_ : o.isWalk = false) : KpCInt C W (W.putObj l o') := fun a v _ hv => by
  have hne : a.block ≠ l := fun e => by
    unfold World.cell? at hv
    rw [e, h] at hv
    cases o <;> simp [Obj.isCells] at hv hc
  unfold World.cell? at hv ⊢
  rw [show (W.putObj l o').heap[a.block]? = W.heap[a.block]? from by unfold World.putObj; simp [Array.getElem?_setIfInBounds, Ne.symm hne]]
  exact hv
/-- What has come when k rounds are over, from the last one down. -/
def backIInt {β : Type} (zs : List β) (k : Nat) : List (Nat × β) := ((List.range zs.length).zip zs).reverse.take k
theorem backIInt_succ {β : Type} (zs : List β) (k q : Nat) (hq : q + k + 1 = zs.length) : backIInt zs (k + 1) = backIInt zs k ++ [(q, zs[q]'(by omega))] := by
  unfold backIInt
  rw [List.take_succ_eq_append_getElem (by simp; omega)]
  congr 2
  simp [List.getElem_reverse]
  constructor
  · omega
  · congr 1
    omega
theorem backIInt_length {β : Type} (zs : List β) (k : Nat) (hk : k ≤ zs.length) : (backIInt zs k).length = k := by simp [backIInt]; omega
theorem backIInt_map2 {β : Type} (zs : List β) : (backIInt zs zs.length).map (·.2) = zs.reverse := by
  unfold backIInt
  rw [List.take_of_length_le (by simp), List.map_reverse]
  congr 1
  exact List.map_snd_zip (by simp)
set_option maxRecDepth 100000 in
set_option maxHeartbeats 2000000 in
theorem backInt1_in {β : Type} (enc : β → Value) (F : Fence) (n : Nat) (h7 : F.fn 101) (hro : F.round = none) (hn : 1 ≤ n) (l Bs : Nat) (A : Option Addr) (cap : Nat) (zs : List β) (hreach : zs.length * 8 ≤ 140737488351232) (C : Addr → Prop) (hCs : C ⟨Bs, 0, none⟩) (J Jx : List (Nat × β) → World → Prop)
    (hY : ∀ pre x W, J pre W → pre.length < zs.length → YieldAt F (n - 1) Try.prog l #[.int .i64 (x.1 : Int), enc x.2] W fun e W' =>
      (e = .returned (.bool true) ∧ J (pre ++ [x]) W' ∧ KpCInt C W W') ∨ (e = .returned (.bool false) ∧ Jx (pre ++ [x]) W'))
    (W : World) (hBs : W.cell? ⟨Bs, 0, none⟩ = some (.slice A zs.length cap)) (hc : ∀ j (hj : j < zs.length), ∃ ad, A = some ad ∧ C (ad.add j) ∧ W.cell? (ad.add j) = some (enc zs[j])) (h0 : J [] W) :
    CallsIn F n Try.prog 101 #[.func (.yield l) #[] #[], .pointer (some ⟨Bs, 0, none⟩)] W fun e W' => (∃ v, e = .returned v) ∧
      ((∃ ys, ys = backIInt zs zs.length ∧ J ys W') ∨ (∃ pre, (∃ k, k ≤ zs.length ∧ pre = backIInt zs k) ∧ Jx pre W')) := by
  refine callsIn_of_wp Try.func101 rfl h7 ?_ hro
  simp only [Try.ntmps101, List.size_toArray, List.length_cons, List.length_nil, Nat.reduceAdd, Nat.reduceSub, Array.replicate_succ, Array.replicate_zero, List.push_toArray, List.append_toArray, List.nil_append, List.cons_append]
  gi_wp2
  gi_loopw [3] (fun i wr => ∃ k : Nat, k ≤ zs.length ∧ i = .int .i64 ((zs.length : Int) - 1 - k) ∧ J (backIInt zs k) wr ∧ KpCInt C W wr)
    (fun i _ => ((intOf i) + 1).toNat)
  case atStart => exact ⟨0, Nat.zero_le _, by simp, by simpa [backIInt] using h0, KpCInt.refl _ _⟩
  case round =>
    obtain ⟨k, hk, hi, hJs, hnx⟩ := hrel
    by_cases hlt : k < zs.length
    · obtain ⟨q, hq⟩ : ∃ q : Nat, q + k + 1 = zs.length := ⟨zs.length - 1 - k, by omega⟩
      have hiq : (zs.length : Int) - 1 - k = (q : Int) := by omega
      rw [hiq] at hi
      subst hi
      have hb2 : q < zs.length := by omega
      obtain ⟨ad, rfl, hCa, hca⟩ := hc q hb2
      obtain ⟨v9, hv9⟩ : ∃ v9, v9 = zs[q] := ⟨_, rfl⟩
      rw [← hv9] at hca
      obtain ⟨fn, tmps, assign, body, hy, hR⟩ := hY _ (q, v9) wr hJs (by rw [backIInt_length zs k hk]; exact hlt)
      dsimp only at hy
      have hcx' := hnx _ _ hCa hca
      have hbx' := hnx _ _ hCs hBs
      have hb1 : (q : Int) ≤ 9223372036854775807 := by omega
      have hs2 := (backIInt_succ zs k q hq).symm
      rw [← hv9] at hs2
      have HS := Aside0.mk hs2
      have HIQ := Aside0.mk hiq
      clear hs2 hq hiq hv9
      gi_wp2
      refine hR.mono ?_
      rintro e W3 (⟨rfl, hJ3, hk3⟩ | ⟨rfl, hJx3⟩)
      · gi_wp2
        go_roundw
        case rel =>
          have h1 := HS.out
          have h2 := HIQ.out
          exact ⟨k + 1, by omega, by congr 1; omega, by rw [← h1]; exact hJ3, hnx.trans hk3⟩
        case measure => first | (simp [intOf]; done) | (simp [intOf]; omega)
      · gi_wp2
        refine bodyPost_ret (results_none rfl _ _ _) rfl ?_
        exact ⟨⟨_, rfl⟩, .inr ⟨_, ⟨k + 1, by omega, HS.out⟩, hJx3⟩⟩
    · obtain rfl : k = zs.length := by omega
      have hi2 : (zs.length : Int) - 1 - (zs.length : Int) = -1 := by omega
      rw [hi2] at hi
      subst hi
      gi_wp2
      go_end0
      exact ⟨⟨_, rfl⟩, .inl ⟨_, rfl, hJs⟩⟩
set_option maxRecDepth 100000 in
set_option maxHeartbeats 1000000 in
theorem backInt_in (F : Fence) (n : Nat) (h5 : F.fn 60) (hro : F.round = none) (a : Option Addr) (len cap : Nat) (w : World) :
    CallsIn F n Try.prog 60 #[.slice a len cap] w fun e w' => e = .returned (.func (.func 101) #[] #[.pointer (some ⟨w.heap.size, 0, none⟩)]) ∧ w' = w.alloc (.cells #[.slice a len cap] 24) := by
  refine callsIn_of_wp Try.func60 rfl h5 ?_ hro
  simp only [Try.ntmps60, List.size_toArray, List.length_cons, List.length_nil, Nat.reduceAdd, Nat.reduceSub, Array.replicate_succ, Array.replicate_zero, List.push_toArray, List.append_toArray, List.nil_append, List.cons_append]
  gi_wp2
  go_ret
  exact ⟨rfl, rfl⟩
theorem backInt_stops {β : Type} (enc : β → Value) (F : Fence) (n : Nat) (h7 : F.fn 101) (hro : F.round = none) (hn : 1 ≤ n) (Bs : Nat) (A : Option Addr) (cap : Nat) (zs : List β) (hreach : zs.length * 8 ≤ 140737488351232) (C : Addr → Prop) (hCs : C ⟨Bs, 0, none⟩) (w : World) (hBs : Bs < w.heap.size)
    (hcs : w.cell? ⟨Bs, 0, none⟩ = some (.slice A zs.length cap)) (hc : ∀ j (hj : j < zs.length), ∃ ad, A = some ad ∧ C (ad.add j) ∧ w.cell? (ad.add j) = some (enc zs[j])) :
    SeqStopsK F n Try.prog 101 #[.pointer (some ⟨Bs, 0, none⟩)] (fun x : Nat × β => #[Value.int .i64 (x.1 : Int), enc x.2]) (KpCInt C) (fun ys => ys = backIInt zs zs.length) (fun pre => ∃ k, k ≤ zs.length ∧ pre = backIInt zs k) zs.length w := fun l J Jx W hW _ _ hY h0 =>
  backInt1_in enc F n h7 hro hn l Bs A cap zs hreach C hCs J Jx hY W ((hW.cell (p := ⟨Bs, 0, none⟩) hBs).trans hcs) (fun j hj => by
    obtain ⟨ad, e, h1, h2⟩ := hc j hj
    exact ⟨ad, e, h1, (hW.cell (World.block_lt_of_cell? _ _ h2)).trans h2⟩) h0
end
/-! ### impl_ReadingOf: function 12 (a loop over slices.Backward: proved by hand) -/
section
attribute [local go_sem] Oper.semAt_some
open Go.Shelf
/-- append, as one step of a region that draws its order within a loop's round. -/
theorem stepIn_append {F : Fence} {n : Nat} {P : Program} {ops : Array Oper} {o : Oper} {a : Act} {K : Act → World → Prop} {Q : Exit → Act → World → Prop} {E : Prop} {W : World} (base : Nat) (hdef : ∀ c, o.op ≠ .defer c) (hgd : o.guard = none) (s x : Operand) (t e : TypeId) (z : Value) (bytes : Nat)
    (ho : o.op = .call { callee := .builtin .append, args := #[s, x], argTypes := #[t, t] })
    (ht : P.underlying t = some (.slice e)) (hinfo : (P.info? e).map (fun i => (i.zero, i.size, i.bytes)) = some (some z, 1, bytes)) (hz : z.cells.size = 1) (hb0 : 0 < bytes)
    (v : Value) (xs : List Value) (y : Value) (hs : a.eval s = v) (hx : a.eval x = .slice (some ⟨W.heap.size, 0, none⟩) 1 1) (h1 : y.oneCell' = true)
    (HO : W.ownsRow base e 1 v xs.length xs) (hbase : base ≤ W.heap.size) (hl : (xs.length + 1) * bytes ≤ 140737488355328)
    (h : ∀ v1 w1, w1.ownsRow base e 1 v1 (xs.length + 1) (xs ++ [y]) → (W.alloc (.cells #[y] e)).grownBy w1 v.ownBlock → (v1.ownBlock = v.ownBlock ∨ v1.ownBlock = some (W.heap.size + 1)) → K (a.put o.dst v1) w1) :
    if Region.wanted o (yielded ops a.tmps) = true then Oper.wpIn F n P o a (W.alloc (.cells #[y] e)) K Q else E := by
  obtain ⟨i0, hi, hzz⟩ := Option.map_eq_some_iff.1 hinfo
  simp only [Prod.mk.injEq] at hzz
  obtain ⟨hz0, hz1, hz2⟩ := hzz
  have hlen : xs.length + 1 ≤ 140737488355328 := Nat.le_trans (Nat.le_mul_of_pos_right _ hb0) hl
  have hw : Region.wanted o (yielded ops a.tmps) = true := by simp [Region.wanted, hgd]
  rw [if_pos hw]
  obtain ⟨v1, w1, hr, hown, hg, _, hat⟩ := run_append_own_at (P := P) (W.alloc (.cells #[y] e)) base t o.type e i0 z 1 bytes ht hi hz0 hz1 hz2 hz (by decide) v xs.length xs (HO.alloc _) ⟨W.heap.size, 0, none⟩ 1 1 [y] rfl
    (World.news_of_block (cs := #[y]) (t := e) (fr := (0, 0)) (heap_alloc_new W _)) (by simpa using h1) (by simp only [maxLen]; omega) hl (by simp; omega)
  refine ⟨fun f hf => ?_, ?_⟩
  · unfold Oper.about at hf
    simp [ho, resolve, Target.leads, Sem.run_bind, Sem.run_pure, Result.andThen_ok] at hf
  · rw [Oper.semAt_eq _ _ _ hdef]
    unfold execOp
    simp only [ho, resolve, invoke, builtin, Sem.run_bind, Sem.run_pure, Result.andThen_ok, List.map_toArray, List.map_cons, List.map_nil, hs, hx, hr]
    exact h v1 w1 hown hg (by rwa [World.size_alloc] at hat)
/-- The marks of the loops that are over: each is taken over and shut where the function leaves. -/
theorem leavesM_marks {F : Fence} {n : Nat} {P : Program} {fn : Func} {tmps : Array Value} {R : Ending → World → Prop} {u : FrameMode} (hu : u ≠ .run) (base : Nat) (G : World → Prop)
    (hG : ∀ (W : World) (D : Nat), base ≤ D → W.heap[D]? = some (.deferred (some [])) → G W → G (W.putObj D (.deferred none))) (hend : ∀ W, G W → LeavesIn F n P fn tmps R [] u W) :
    ∀ (ds : List Nat) (W : World), ds.Nodup → (∀ D ∈ ds, base ≤ D ∧ W.heap[D]? = some (.deferred (some []))) → G W → LeavesInM F n P fn tmps R (ds.map fun D => { target := .collected D, args := #[] }) u W
  | [], W, _, _, h => hend W h
  | D :: ds, W, hn, hm, h => by
    obtain ⟨h1, h2⟩ := hm D (List.mem_cons_self ..)
    obtain ⟨n1, n2⟩ := List.nodup_cons.mp hn
    refine ⟨hu, .inl ⟨D, _, rfl, run_takeDeferred h2, leavesM_marks hu base G hG hend ds _ n2 (fun E hE => ?_) (hG W D h1 h2 h)⟩⟩
    obtain ⟨h3, h4⟩ := hm E (List.mem_cons_of_mem _ hE)
    exact ⟨h3, (World.putObj_heap_other (by rintro rfl; exact n1 hE)).trans h4⟩
theorem own_word {W W' : World} {row : Option Nat} {ds : List Nat} {B : Nat} (hg : W.grownBy W' row) (hr : ∀ r, row = some r → B ≤ r) (hB : ∀ D ∈ ds, D < B) (h : ∀ D ∈ ds, W.heap[D]? = some (.deferred (some []))) : ∀ D ∈ ds, W'.heap[D]? = some (.deferred (some [])) := fun D hD =>
  (hg.block D (Array.getElem?_eq_some_iff.1 (h D hD)).1 (fun e => by have := hr D e.symm; have := hB D hD; omega)).trans (h D hD)
/-- A region that draws its order and ends, whatever the order, with the operations p and q: what follows is walked once. -/
theorem region_leaf {F : Fence} {n : Nat} {P : Program} {ops : Array Oper} {Q : Exit → Act → World → Prop} {id : Nat} {a : Act} {w : World} (hm : P.follows .mixedOrders = true) (p q : Nat) (aL : Act) (wL : World)
    (leaf : ∀ listed : Array Bool, Region.ready .any ops listed = [p] → Region.ready .any ops (listed.setIfInBounds p true) = [q] → Region.ready .any ops ((listed.setIfInBounds p true).setIfInBounds q true) = [] → wpAnyIn F n P .any ops Q 2 listed aL wL)
    (walk : (∀ listed : Array Bool, Region.ready .any ops listed = [p] → Region.ready .any ops (listed.setIfInBounds p true) = [q] → Region.ready .any ops ((listed.setIfInBounds p true).setIfInBounds q true) = [] → wpAnyIn F n P .any ops Q 2 listed aL wL) → wpAnyIn F n P .any ops Q ops.size (Array.replicate ops.size false) a { w with drawn := w.drawn + 1 }) : (Code.region id ops true).wpIn F n P Q a w :=
  wpIn_region_any hm (walk leaf)
theorem own_bel {W W' : World} {B e size n : Nat} {v : Value} {xs : List Value} (h : W.ownsRow B e size v n xs) (hb : Below W.heap.size W W') : W'.ownsRow B e size v n xs :=
  h.kept (row := none) ⟨hb.os, hb.tape, hb.output, hb.size, fun k hk _ => hb.block k hk⟩ (Classical.em _)
theorem lift_sub {α : Type} {p : α → Prop} : ∀ l : List α, (∀ x ∈ l, p x) → ∃ zs : List {x : α // p x}, zs.map (·.1) = l
  | [], _ => ⟨[], rfl⟩
  | x :: l, h => by
    obtain ⟨zs, hz⟩ := lift_sub l (fun y hy => h y (List.mem_cons_of_mem _ hy))
    exact ⟨⟨x, h x (List.mem_cons_self ..)⟩ :: zs, by rw [List.map_cons, hz]⟩
theorem grown_bel {W W' : World} (hb : Below W.heap.size W W') : W.grownBy W' none := ⟨hb.os, hb.tape, hb.output, hb.size, fun k hk _ => hb.block k hk⟩
theorem impl_ReadingOf.cell_same {W W' : World} {a : Addr} (h : W'.heap[a.block]? = W.heap[a.block]?) : W'.cell? a = W.cell? a := by
  unfold World.cell?
  rw [h]
def impl_ReadingOf.step (k : Nat) (l0 l1 : List Int) (h : Int) (out : List Int) : Option (List Int) := (impl_ReadingOf_1.f k l0 h).bind fun ids => if ids.length ≤ 100 ∧ out.length ≤ 1000 ∧ ∀ i ∈ ids, 0 ≤ i ∧ i < (l1.length : Int) then some (out ++ ids.reverse.map (fun i => rd l1 i)) else none
/-- So many heights are still to come, the greatest first. -/
def impl_ReadingOf.down (k : Nat) (l0 l1 : List Int) : Nat → List Int → Option (List Int)
  | 0, out => some out
  | d + 1, out => (impl_ReadingOf.step k l0 l1 (d : Int) out).bind (impl_ReadingOf.down k l0 l1 d)
def impl_ReadingOf.f (k : Nat) (l0 l1 : List Int) : Option (List Int × Bool) := (impl_isWalk.f k l0 l1).bind fun t => if t = true then (if l0.length ≤ 1000 then (impl_ReadingOf.down k l0 l1 (l0.length + 1) []).bind fun r => some (r, true) else none) else some ([], false)
theorem impl_ReadingOf.mono_d (k : Nat) (l0 l1 : List Int) : ∀ (d : Nat) (out : List Int), LeO (impl_ReadingOf.down k l0 l1 d out) (impl_ReadingOf.down (k + 1) l0 l1 d out)
  | 0, _ => LeO.refl _
  | d + 1, out => LeO.bind (LeO.bind (impl_ReadingOf_1.mono l0 _ k) (fun _ => LeO.refl _)) (fun x => impl_ReadingOf.mono_d k l0 l1 d x)
theorem impl_ReadingOf.mono : ∀ a0 a1 k, LeO (impl_ReadingOf.f k a0 a1) (impl_ReadingOf.f (k + 1) a0 a1) := fun a0 a1 k => LeO.bind (impl_isWalk.mono a0 a1 k) (fun t => by
  by_cases c : t = true
  · rw [if_pos c, if_pos c]
    by_cases d : a0.length ≤ 1000
    · rw [if_pos d, if_pos d]
      exact LeO.bind (impl_ReadingOf.mono_d k a0 a1 _ _) (fun _ => LeO.refl _)
    · rw [if_neg d, if_neg d]
      exact LeO.refl _
  · rw [if_neg c, if_neg c]
    exact LeO.refl _)
/-- The row of what is read so far, and the variables. -/
structure impl_ReadingOf.RS (w1 W : World) (bo bh : Nat) (v : Value) (out : List Int) (h : Int) : Prop where
  own : W.ownsRow w1.heap.size 3 1 v out.length (out.map (Value.int .i64))
  obox : Boxed W bo 24 v
  hbox : Boxed W bh 3 (.int .i64 h)
  bel : Below w1.heap.size w1 W
  geo : w1.heap.size ≤ bo
  geh : w1.heap.size ≤ bh
  ne : ∀ k, v.ownBlock = some k → k ≠ bh
def impl_ReadingOf.mz (v : Value) (W : World) : Nat := match v with | .pointer (some a) => (intOf ((W.cell? a).getD undef) + 1).toNat | _ => 0
def impl_ReadingOf.outs (l1 out : List Int) (pre : List (Nat × {z : Int // 0 ≤ z ∧ z < (l1.length : Int)})) : List Int := out ++ pre.map (fun x => rd l1 x.2.1)
theorem impl_ReadingOf.outs_snoc (l1 out : List Int) (pre : List (Nat × {z : Int // 0 ≤ z ∧ z < (l1.length : Int)})) (x : Nat × {z : Int // 0 ≤ z ∧ z < (l1.length : Int)}) : impl_ReadingOf.outs l1 out (pre ++ [x]) = impl_ReadingOf.outs l1 out pre ++ [rd l1 x.2.1] := by simp [impl_ReadingOf.outs]
theorem impl_ReadingOf.outs_all (l1 out ids : List Int) (zs : List {z : Int // 0 ≤ z ∧ z < (l1.length : Int)}) (h : zs.map (·.1) = ids) : impl_ReadingOf.outs l1 out (backIInt zs zs.length) = out ++ ids.reverse.map (fun i => rd l1 i) := by
  unfold impl_ReadingOf.outs
  congr 1
  rw [show (backIInt zs zs.length).map (fun x => rd l1 x.2.1) = ((backIInt zs zs.length).map (·.2)).map (fun z => rd l1 z.1) by rw [List.map_map]; rfl, backIInt_map2, ← h, ← List.map_reverse, List.map_map]
  rfl
set_option maxHeartbeats 16000000 in
set_option maxRecDepth 100000 in
theorem impl_ReadingOf.calls (k : Nat) (A0_0 : Option Addr) (c0_0 : Nat) (l0_0 : List Int) (A0_1 : Option Addr) (c0_1 : Nat) (l0_1 : List Int) (r1 : List Int) (r2 : Bool) (w : World) (hr0_0 : Kd.C (Kd.int .i64) w A0_0 l0_0.length l0_0) (hc0_0 : l0_0.length ≤ c0_0) (hr0_1 : Kd.C (Kd.int .i64) w A0_1 l0_1.length l0_1) (hc0_1 : l0_1.length ≤ c0_1) (h : impl_ReadingOf.f k l0_0 l0_1 = some (r1, r2)) :
    Calls Try.prog 12 #[.agg #[.slice A0_0 l0_0.length c0_0, .slice A0_1 l0_1.length c0_1]] w fun e w' => ∃ v0_ : Value, e = .returned (.tuple #[v0_, .bool r2]) ∧ Kd.R (Kd.int .i64) 3 w' w.heap.size (fun _ => True) v0_ r1 ∧ Below w.heap.size w w' := by
  have hu28 := Try.underlying26
  obtain ⟨t, ht, h2⟩ := Option.bind_eq_some_iff.mp h
  obtain ⟨w1, hw1⟩ : ∃ w1, w.alloc (.cells #[.slice A0_0 l0_0.length c0_0, .slice A0_1 l0_1.length c0_1] 26) = w1 := ⟨_, rfl⟩
  have B1 : Below w.heap.size w w1 := by rw [← hw1]; exact (Below.refl _ w).alloc (Nat.le_refl _) _
  have hs1 : w1.heap.size = w.heap.size + 1 := by rw [← hw1]; simp
  have hx : w1.heap[w.heap.size]? = some (.cells #[.slice A0_0 l0_0.length c0_0, .slice A0_1 l0_1.length c0_1] 26 (0, 0)) := by rw [← hw1]; exact heap_alloc_new w _
  have cA := impl_isWalk.calls k A0_0 c0_0 l0_0 A0_1 c0_1 l0_1 t w1 (Kd.C_below hr0_0 B1) hc0_0 (Kd.C_below hr0_1 B1) hc0_1 ht
  clear h ht
  cases t with
  | false =>
    rw [if_neg (by simp)] at h2
    obtain ⟨rfl, rfl⟩ := Prod.mk.inj (Option.some.inj h2)
    rw [← hw1] at cA
    have HC := Aside0.mk cA
    clear cA h2 hr0_0 hr0_1 hc0_0 hc0_1 hx hs1 B1 hw1
    go_enter Try.func12, Try.ntmps12
    go_wp2_with (first | (go_at_call 56; refine HC.out.mono ?_; rintro e w' ⟨rfl, hb⟩))
    go_ret2
    exact ⟨_, rfl, Kd.R_nil _ _ _ _ _, ((Below.refl _ w).alloc (Nat.le_refl _) _).trans (hb.mono (by simp))⟩
  | true =>
    rw [if_pos rfl] at h2
    split at h2
    next hl =>
      obtain ⟨r, hd, h3⟩ := Option.bind_eq_some_iff.mp h2
      obtain ⟨rfl, rfl⟩ := Prod.mk.inj (Option.some.inj h3)
      clear h2 h3
      refine (callsIn_wide (n := 8)).1 ?_
      refine callsIn_of_wp_marks Try.func12 rfl trivial ?_ rfl
      simp only [Try.ntmps12, List.size_toArray, List.length_cons, List.length_nil, Nat.reduceAdd, Nat.reduceSub, Array.replicate_succ, Array.replicate_zero, List.push_toArray, List.append_toArray, List.nil_append, List.cons_append]
      have hf1 : Fence.wide.fn 56 := trivial
      rw [← hw1] at cA
      have HW1 := Aside0.mk hw1
      have HD := Aside0.mk hd
      clear hw1 hd
      gi_wp2_with (gi_at_call 56; refine (callsIn_wide.2 cA).mono ?_; rintro e w2 ⟨rfl, hb2⟩; rw [HW1.out] at hb2; have hx2 := (hb2.block w.heap.size (by omega)).trans hx; have hsz2 := hb2.size; have hx3 := (Below.heap_alloc (w2.alloc (.cells #[] 3)) (.cells #[.slice (some ⟨w2.heap.size, 0, none⟩) 0 0] 24) w.heap.size (by simp; omega)).trans ((Below.heap_alloc w2 (.cells #[] 3) w.heap.size (by omega)).trans hx2); have hxa : ((w2.alloc (.cells #[] 3)).alloc (.cells #[.slice (some ⟨w2.heap.size, 0, none⟩) 0 0] 24)).cell? ⟨w.heap.size, 0, none⟩ = some (.slice A0_0 l0_0.length c0_0) := (blk_cell hx3 0).trans rfl; clear hx3)
      have T0 : impl_ReadingOf.RS w1 (((w2.alloc (.cells #[] 3)).alloc (.cells #[.slice (some ⟨w2.heap.size, 0, none⟩) 0 0] 24)).alloc (.cells #[.int .i64 l0_0.length] 3)) (w2.heap.size + 1) (w2.heap.size + 2) (.slice (some ⟨w2.heap.size, 0, none⟩) 0 0) [] ((l0_0.length : Int)) := by
        refine ⟨?_, ?_, ?_, ?_, by omega, by omega, ?_⟩
        · exact (((own_lit_of (enc := Value.int .i64) w2 w1.heap.size 3 [] hsz2 (by simp)).alloc _).alloc _)
        · have := (Boxed.new (w2.alloc (.cells #[] 3)) 24 (.slice (some ⟨w2.heap.size, 0, none⟩) 0 0)).alloc (.cells #[.int .i64 l0_0.length] 3)
          simpa using this
        · have := Boxed.new ((w2.alloc (.cells #[] 3)).alloc (.cells #[.slice (some ⟨w2.heap.size, 0, none⟩) 0 0] 24)) 3 (.int .i64 l0_0.length)
          simpa using this
        · exact ((hb2.alloc hsz2 _).alloc (by simp; omega) _).alloc (by simp; omega) _
        · intro k9 hk9
          have : w2.heap.size = k9 := by simpa [Value.ownBlock] using hk9
          omega
      have hmf : ∀ (fn_ : Fn) (first_ cap_ : Array Value) (w_ : World), (Instr.makeFunc fn_ first_ cap_).run Try.prog w_ = .ok (.func fn_ first_ cap_) w_ := fun _ _ _ _ => rfl
      have HB2 := Aside0.mk hb2
      clear cA hf1 hxa hb2 hx2
      obtain ⟨mk, hmkd⟩ : ∃ mk : Nat → Deferred, mk = fun D => { target := .collected D, args := #[] } := ⟨_, rfl⟩
      refine wpIn_loop_ghost_k (fun n a W => ∃ (ds : List Nat) (bh : Nat) (out : List Int) (v u7 u15 u16 u17 u18 u19 u20 u21 u22 u23 u26 u27 u28 u29 u30 u31 u32 u33 u34 : Value),
        a = { tmps := #[.agg #[.slice A0_0 l0_0.length c0_0, .slice A0_1 l0_1.length c0_1], .pointer (some ⟨w.heap.size, 0, none⟩), .slice none 0 0, .bool false, .pointer (some ⟨w2.heap.size + 1, 0, none⟩), .pointer (some ⟨bh, 0, none⟩), undef, u7, .agg #[.slice A0_0 l0_0.length c0_0, .slice A0_1 l0_1.length c0_1], .bool true, .bool false, .slice (some ⟨w2.heap.size, 0, none⟩) 0 0, .pointer (some ⟨w.heap.size, 0, none⟩), .slice A0_0 l0_0.length c0_0, .int .i64 l0_0.length, u15, u16, u17, u18, u19, u20, u21, u22, u23, undef, undef, u26, u27, u28, u29, u30, u31, u32, u33, u34, undef], defers := ds.map mk } ∧
        Aside0 (impl_ReadingOf.down k l0_0 l0_1 n out = some r) ∧ Aside0 (n ≤ l0_0.length + 1) ∧ impl_ReadingOf.RS w1 W (w2.heap.size + 1) bh v out ((n : Int) - 1) ∧ Aside0 (ds.Nodup ∧ ∀ D ∈ ds, w1.heap.size ≤ D ∧ W.heap[D]? = some (.deferred (some [])))) (l0_0.length + 1) ?atStart ?round
      case atStart => exact ⟨[], w2.heap.size + 2, [], .slice (some ⟨w2.heap.size, 0, none⟩) 0 0, _, _, _, _, _, _, _, _, _, _, _, _, _, _, _, _, _, _, _, rfl, HD, ⟨Nat.le_refl _⟩, (by rw [show ((l0_0.length + 1 : Nat) : Int) - 1 = (l0_0.length : Int) by omega]; exact T0), ⟨List.nodup_nil, fun D hD => by cases hD⟩⟩
      case round =>
        clear T0
        rintro d a wr ⟨ds, bh, out, v, u7, u15, u16, u17, u18, u19, u20, u21, u22, u23, u26, u27, u28, u29, u30, u31, u32, u33, u34, rfl, HDN, HDL, HT, HMK⟩ J K hJ hK
        have hxw := (HT.bel.block w.heap.size (by omega)).trans hx
        have hxa : wr.cell? ⟨w.heap.size, 0, none⟩ = some (.slice A0_0 l0_0.length c0_0) := (blk_cell hxw 0).trans rfl
        have hbc := HT.hbox.cell
        have hbf := HT.hbox.frozen
        have hoc := HT.obox.cell
        have hdl := HDL.out
        cases d with
        | zero =>
          have hz : ((0 : Nat) : Int) - 1 = -1 := by omega
          rw [hz] at hbc
          have hr : out = r := Option.some.inj HDN.out
          clear hJ hK
          gi_wp2
          subst hmkd
          refine leavesM_marks (by simp) w1.heap.size (fun W => W.ownsRow w1.heap.size 3 1 v out.length (out.map (Value.int .i64)) ∧ Below w.heap.size w W) (fun W D hb hD hG => ⟨ownsRow_putObj hG.1 _ hD rfl, hG.2.trans (belowK_b (w := w) (Nat.le_refl _) W D _ _ (by omega) hD rfl rfl)⟩) ?_ ds wr HMK.out.1 HMK.out.2 ⟨HT.own, B1.trans (HT.bel.mono B1.size)⟩
          rintro W ⟨hrow, hB⟩
          subst hr
          exact ⟨_, (by simp [results, Try.results12, go_sem] : _ = _), v, rfl, Kd.R_of_own (own_weaken hrow (by omega)) (fun _ _ => trivial), hB⟩
        | succ d =>
          have hz : ((d + 1 : Nat) : Int) - 1 = (d : Int) := by omega
          rw [hz] at hbc HT
          obtain ⟨o2, hs1, hs2⟩ := Option.bind_eq_some_iff.mp HDN.out
          obtain ⟨ids, hids, hif⟩ := Option.bind_eq_some_iff.mp hs1
          clear hs1
          split at hif
          next hcond =>
            obtain ⟨hi1, hi2, hi3⟩ := hcond
            obtain rfl := Option.some.inj hif
            have cI := impl_ReadingOf_1.calls k A0_0 c0_0 l0_0 bh (d : Int) ids wr (Kd.C_below hr0_0 (B1.trans (HT.bel.mono B1.size))) hc0_0 HT.hbox hids
            have HS2 := Aside0.mk hs2
            obtain ⟨zs, hzs⟩ := lift_sub ids hi3
            have hzl : zs.length = ids.length := by rw [← hzs, List.length_map]
            have HZS := Aside0.mk hzs
            clear hs2 hids hif hi3 hzs
            have hf1 : Fence.wide.fn 61 := trivial
            have hf2 : Fence.wide.fn 60 := trivial
            gi_wp2_with (first | (gi_at_call 61; refine (callsIn_wide.2 cI).mono ?_; rintro e w5 ⟨v5, rfl, ho5, hb5⟩; have hown5 := Kd.own_of_R ho5; obtain ⟨Ai, ci, hv5⟩ := own_slice hown5; subst hv5; have HO5 := Aside0.mk hown5; have HB5 := Aside0.mk hb5; clear ho5 hb5 hown5 cI) | (gi_at_call 60; refine (backInt_in Fence.wide _ trivial rfl _ _ _ _).mono ?_; rintro e w' ⟨rfl, hw⟩; rw [hw]))
            have hO5 := HO5.out
            have hB5 := HB5.out
            have hsz5 := hB5.size
            clear HO5 HB5
            rw [← hzl] at hO5 ⊢
            obtain ⟨W4, hW4⟩ : ∃ W4, w5.alloc (.cells #[.slice Ai zs.length ci] 24) = W4 := ⟨_, rfl⟩
            rw [hW4]
            have hs4 : W4.heap.size = w5.heap.size + 1 := by rw [← hW4]; simp
            have B54 : Below wr.heap.size wr W4 := by rw [← hW4]; exact hB5.alloc hsz5 _
            have bs4 : Boxed W4 w5.heap.size 24 (.slice Ai zs.length ci) := by rw [← hW4]; exact Boxed.new w5 _ _
            have hvb := own_base HT.own
            have hvl := own_lt HT.own
            have R4 := own_bel HT.own B54
            have b1 : Boxed W4 (w2.heap.size + 1) 24 v := HT.obox.kept (grown_bel B54) (by simp)
            have b2 : Boxed W4 bh 3 (.int .i64 (d : Int)) := HT.hbox.kept (grown_bel B54) (by simp)
            have BW : Below w1.heap.size w1 W4 := HT.bel.trans (B54.mono HT.bel.size)
            have hbo := HT.obox.lt
            have hbh := HT.hbox.lt
            have M4 : ∀ D ∈ ds, W4.heap[D]? = some (.deferred (some [])) := fun D hD => by
              obtain ⟨h1, h2⟩ := HMK.out.2 D hD
              exact (B54.block D (Array.getElem?_eq_some_iff.1 h2).1).trans h2
            have MB : ∀ D ∈ ds, D < W4.heap.size := fun D hD => (Array.getElem?_eq_some_iff.1 (M4 D hD)).1
            have hne4 : ∀ g, (Value.slice Ai zs.length ci).ownBlock = some g → wr.heap.size ≤ g ∧ g < w5.heap.size := fun g hg => ⟨own_base hO5 g hg, own_lt hO5 g hg⟩
            have hrowU : ∀ j (hj : j < zs.length), ∃ ad, Ai = some ad ∧ (Value.slice Ai zs.length ci).ownBlock = some ad.block ∧ W4.cell? (ad.add j) = some (.int .i64 zs[j].1) := fun j hj => by
              obtain ⟨g, cap, hg, _, _⟩ := hO5.form (by omega)
              injection hg with hg1 _ hg3
              have hob : (Value.slice Ai zs.length ci).ownBlock = some g := by rw [hg1]; simp [Value.ownBlock]
              refine ⟨_, hg1, hob, ?_⟩
              have hcl := hO5.cells (g := g) hob j (.int .i64 zs[j].1) (by rw [← HZS.out]; simp [encs, hj])
              rw [← hcl]
              refine impl_ReadingOf.cell_same ?_
              rw [add_plain, ← hW4]
              exact Below.heap_alloc _ _ g (hne4 g hob).2
            have h1 : 1 ≤ 8 := by omega
            obtain ⟨i3, gi3, gz0, gz1, gz2⟩ := info_parts info3
            have hii : (Try.prog.info? 3).map (fun i => (i.zero, i.size, i.bytes)) = some (some (.int .i64 0), 1, 8) := info3
            have HW4 := Aside0.mk hW4
            have hgeo := HT.geo
            have hgeh := HT.geh
            have hne0 := HT.ne
            clear hW4 hbc hbf hoc hxw hxa hB5
            refine wpIn_rangeFunc_ownG rfl h1 (gf := 101) (lb := #[.pointer (some ⟨w5.heap.size, 0, none⟩)]) rfl trivial (enters_of Try.func101 (by kernel_rfl) rfl)
              (backInt_stops (fun z : {z : Int // 0 ≤ z ∧ z < (l0_1.length : Int)} => Value.int .i64 z.1) Fence.wide _ trivial rfl (by omega) w5.heap.size Ai ci zs (by omega) (fun a => a = ⟨w5.heap.size, 0, none⟩ ∨ (Value.slice Ai zs.length ci).ownBlock = some a.block) (.inl rfl) W4 (by omega) bs4.cell (fun j hj => by
                obtain ⟨ad, e1, e2, e3⟩ := hrowU j hj
                exact ⟨ad, e1, .inr (by rw [add_block]; exact e2), e3⟩)) KpCInt.trans (fun W l o o' => KpCInt.put W l o o') (Below.refl _ _) (fun _ => rfl)
              (fun pre W => (∃ v, Boxed W (w2.heap.size + 1) 24 v ∧ W.ownsRow w1.heap.size 3 1 v (impl_ReadingOf.outs l0_1 out pre).length ((impl_ReadingOf.outs l0_1 out pre).map (Value.int .i64)) ∧ ∀ g, v.ownBlock = some g → g ≠ bh ∧ (Value.slice Ai zs.length ci).ownBlock ≠ some g) ∧ Boxed W bh 3 (.int .i64 (d : Int)) ∧ Boxed W w5.heap.size 24 (.slice Ai zs.length ci) ∧ Below w1.heap.size w1 W ∧ ∀ D ∈ ds, W.heap[D]? = some (.deferred (some [])))
              (fun _ _ _ => False)
              (OwnFrom.and (Own.from (holdsRow_own w1.heap.size (w2.heap.size + 1) 24 3 1 (fun pre : List (Nat × {z : Int // 0 ≤ z ∧ z < (l0_1.length : Int)}) => (impl_ReadingOf.outs l0_1 out pre).length) (fun pre : List (Nat × {z : Int // 0 ≤ z ∧ z < (l0_1.length : Int)}) => (impl_ReadingOf.outs l0_1 out pre).map (Value.int .i64)) (fun _ v => ∀ g, v.ownBlock = some g → g ≠ bh ∧ (Value.slice Ai zs.length ci).ownBlock ≠ some g)) _) (OwnFrom.and (Own.from (boxed_own bh 3 (fun _ => .int .i64 (d : Int))) _) (OwnFrom.and (Own.from (boxed_own w5.heap.size 24 (fun _ => .slice Ai zs.length ci)) _) (OwnFrom.and (ownFrom_below (Nat.le_refl _) (by omega)) (fun _ _ _ _ hs hg hr => own_word hg (fun r e => (hr r e).1) MB hs)))))
              (fun _ _ _ _ _ hs _ _ => hs)
              ⟨⟨v, b1, by simpa [impl_ReadingOf.outs] using R4, fun g hg => ⟨hne0 g hg, fun e => by have := (hne4 g e).1; have := hvl g hg; omega⟩⟩, b2, bs4, BW, M4⟩
              (fun x => { tmps := #[.agg #[.slice A0_0 l0_0.length c0_0, .slice A0_1 l0_1.length c0_1], .pointer (some ⟨w.heap.size, 0, none⟩), .slice none 0 0, .bool false, .pointer (some ⟨w2.heap.size + 1, 0, none⟩), .pointer (some ⟨bh, 0, none⟩), undef, .int .i64 x.2.1, .agg #[.slice A0_0 l0_0.length c0_0, .slice A0_1 l0_1.length c0_1], .bool true, .bool false, .slice (some ⟨w2.heap.size, 0, none⟩) 0 0, .pointer (some ⟨w.heap.size, 0, none⟩), .slice A0_0 l0_0.length c0_0, .int .i64 l0_0.length, .int .i64 (d : Int), .bool true, u17, u18, .pointer (some ⟨w.heap.size, 0, none⟩), .slice A0_0 l0_0.length c0_0, .func (.func 62) #[] #[.pointer (some ⟨bh, 0, none⟩)], .slice Ai ids.length ci, .func (.func 101) #[] #[.pointer (some ⟨w5.heap.size, 0, none⟩)], .int .i64 (x.1 : Int), .int .i64 x.2.1, u26, u27, u28, u29, u30, u31, u32, u33, u34, undef], defers := [] }) ?assign ?body ?done ?stop
            case assign =>
              intro l x W K hK
              gi_wp2
              exact hK
            case body =>
              clear hJ hK
              rintro l pre ⟨xi, z, hz0, hz1⟩ W ⟨⟨v, hv, hrow, hvne⟩, hb1, hb3, hB, hM⟩ hlt9
              have hxw := (hB.block w.heap.size (by omega)).trans hx
              have hx1 : W.cell? ⟨w.heap.size, 1, none⟩ = some (.slice A0_1 l0_1.length c0_1) := (blk_cell hxw 1).trans rfl
              obtain ⟨ad, hA, hcell⟩ := Kd.at_int (Kd.C_below hr0_1 (B1.trans (hB.mono B1.size))) z hz0 hz1
              have hyl : (impl_ReadingOf.outs l0_1 out pre).length = out.length + pre.length := by simp [impl_ReadingOf.outs]
              have hsn := impl_ReadingOf.outs_snoc l0_1 out pre (xi, ⟨z, hz0, hz1⟩)
              obtain ⟨y, hy⟩ : ∃ y, y = rd l0_1 z := ⟨_, rfl⟩
              obtain ⟨ol, hol⟩ : ∃ ol, ol = impl_ReadingOf.outs l0_1 out pre := ⟨_, rfl⟩
              rw [← hy] at hcell
              dsimp only at hsn
              rw [← hy, ← hol] at hsn
              rw [← hol] at hrow hyl
              have hol5 : ol.length ≤ 2000 := by omega
              have HSN := Aside0.mk hsn
              clear hy hol hsn
              obtain ⟨Wd, hWd⟩ : ∃ Wd, ({ W with drawn := W.drawn + 1 } : World) = Wd := ⟨_, rfl⟩
              have kd : KeepsOthers W Wd := by rw [← hWd]; exact KeepsOthers.drew W
              have kc : KpCInt (fun a => a = ⟨w5.heap.size, 0, none⟩ ∨ (Value.slice Ai zs.length ci).ownBlock = some a.block) W Wd := by rw [← hWd]; exact fun _ _ _ h => h
              have ev : Boxed Wd (w2.heap.size + 1) 24 v := by rw [← hWd]; exact hv
              have erow : Wd.ownsRow w1.heap.size 3 1 v ol.length (ol.map (Value.int .i64)) := by rw [← hWd]; exact hrow
              have e1 : Boxed Wd bh 3 (.int .i64 (d : Int)) := by rw [← hWd]; exact hb1
              have e3 : Boxed Wd w5.heap.size 24 (.slice Ai zs.length ci) := by rw [← hWd]; exact hb3
              have eB : Below w1.heap.size w1 Wd := by rw [← hWd]; exact ⟨hB.os, hB.tape, hB.output, hB.size, hB.block⟩
              have eM : ∀ D ∈ ds, Wd.heap[D]? = some (.deferred (some [])) := by rw [← hWd]; exact hM
              have ex1 : Wd.cell? ⟨w.heap.size, 1, none⟩ = some (.slice A0_1 l0_1.length c0_1) := by rw [← hWd]; exact hx1
              have ecell : Wd.cell? (ad.add z.toNat) = some (.int .i64 y) := by rw [← hWd]; exact hcell
              have evc := ev.cell
              have evf := ev.frozen
              have evl := ev.lt
              obtain ⟨Av, cv, rfl⟩ := own_slice erow
              have fin : ∀ v1 wx, wx.ownsRow w1.heap.size 3 1 v1 (ol.length + 1) (ol.map (Value.int .i64) ++ [.int .i64 y]) → (Wd.alloc (.cells #[.int .i64 y] 3)).grownBy wx (Value.slice Av ol.length cv).ownBlock → (v1.ownBlock = (Value.slice Av ol.length cv).ownBlock ∨ v1.ownBlock = some (Wd.heap.size + 1)) →
                  KeepsFrom W4.heap.size W (wx.setCell ⟨w2.heap.size + 1, 0, none⟩ v1) ∧ KpCInt (fun a => a = ⟨w5.heap.size, 0, none⟩ ∨ (Value.slice Ai zs.length ci).ownBlock = some a.block) W (wx.setCell ⟨w2.heap.size + 1, 0, none⟩ v1) ∧
                  (∃ v, Boxed (wx.setCell ⟨w2.heap.size + 1, 0, none⟩ v1) (w2.heap.size + 1) 24 v ∧ (wx.setCell ⟨w2.heap.size + 1, 0, none⟩ v1).ownsRow w1.heap.size 3 1 v (impl_ReadingOf.outs l0_1 out (pre ++ [(xi, ⟨z, hz0, hz1⟩)])).length ((impl_ReadingOf.outs l0_1 out (pre ++ [(xi, ⟨z, hz0, hz1⟩)])).map (Value.int .i64)) ∧ ∀ g, v.ownBlock = some g → g ≠ bh ∧ (Value.slice Ai zs.length ci).ownBlock ≠ some g) ∧ Boxed (wx.setCell ⟨w2.heap.size + 1, 0, none⟩ v1) bh 3 (.int .i64 (d : Int)) ∧ Boxed (wx.setCell ⟨w2.heap.size + 1, 0, none⟩ v1) w5.heap.size 24 (.slice Ai zs.length ci) ∧ Below w1.heap.size w1 (wx.setCell ⟨w2.heap.size + 1, 0, none⟩ v1) ∧ ∀ D ∈ ds, (wx.setCell ⟨w2.heap.size + 1, 0, none⟩ v1).heap[D]? = some (.deferred (some [])) := by
                intro v1 wx hown hg hat
                have hwsz := e3.lt
                have hbsz := e1.lt
                have hsz9 := eB.size
                obtain ⟨q1, q2, q3, q4, q5⟩ := ev.appended (by decide) erow hsz9 hgeo hown hg
                have p1 : ∀ a : Addr, a.block < Wd.heap.size → some a.block ≠ (Value.slice Av ol.length cv).ownBlock → a.block ≠ w2.heap.size + 1 → (wx.setCell ⟨w2.heap.size + 1, 0, none⟩ v1).heap[a.block]? = Wd.heap[a.block]? := fun a h1 h2 h3 =>
                  (Below.heap_setCell _ _ _ _ h3).trans ((hg.block a.block (by simp; omega) h2).trans (Below.heap_alloc _ _ _ h1))
                refine ⟨(kd.trans q4).from _, ?_, ⟨v1, q2, ?_, ?_⟩, ?_, ?_, eB.trans q5, fun D hD => q4.same _ _ (eM D hD) rfl⟩
                · intro a u ha hu
                  have hu' := kc a u ha hu
                  refine (impl_ReadingOf.cell_same (p1 a (World.block_lt_of_cell? _ _ hu') ?_ ?_)).trans hu'
                  · rcases ha with rfl | ha
                    · exact e3.not_row (by decide) erow
                    · exact fun e => (hvne a.block e.symm).2 ha
                  · rcases ha with rfl | ha
                    · show w5.heap.size ≠ w2.heap.size + 1
                      omega
                    · have := hne4 a.block ha
                      omega
                · rw [HSN.out, List.length_append, List.map_append]
                  exact q3
                · intro g hg1
                  rcases hat with h9 | h9
                  · exact hvne g (by rw [← h9]; exact hg1)
                  · rw [hg1] at h9
                    obtain rfl := Option.some.inj h9
                    exact ⟨by omega, fun e => by have := (hne4 _ e).2; omega⟩
                · refine ((e1.alloc _).kept hg (fun e => (hvne bh e.symm).1 rfl)).kept (grownBy_setCell' wx (w2.heap.size + 1) v1) (fun e => ?_)
                  have := Option.some.inj e
                  subst this
                  have := (show Wd.heap[w2.heap.size + 1]? = _ from e1).symm.trans (show Wd.heap[w2.heap.size + 1]? = _ from ev)
                  simp at this
                · exact ((e3.alloc _).kept hg (e3.not_row (by decide) erow)).kept (grownBy_setCell' wx (w2.heap.size + 1) v1) (by simp; omega)
              have FIN := Aside0.mk fin
              have hszd := eB.size
              subst hA
              refine wpIn_block ?_
              refine region_leaf (by kernel_rfl) 7 8 { tmps := #[.agg #[.slice A0_0 l0_0.length c0_0, .slice (some ad) l0_1.length c0_1], .pointer (some ⟨w.heap.size, 0, none⟩), .slice none 0 0, .bool false, .pointer (some ⟨w2.heap.size + 1, 0, none⟩), .pointer (some ⟨bh, 0, none⟩), undef, .int .i64 z, .agg #[.slice A0_0 l0_0.length c0_0, .slice (some ad) l0_1.length c0_1], .bool true, .bool false, .slice (some ⟨w2.heap.size, 0, none⟩) 0 0, .pointer (some ⟨w.heap.size, 0, none⟩), .slice A0_0 l0_0.length c0_0, .int .i64 l0_0.length, .int .i64 (d : Int), .bool true, u17, u18, .pointer (some ⟨w.heap.size, 0, none⟩), .slice A0_0 l0_0.length c0_0, .func (.func 62) #[] #[.pointer (some ⟨bh, 0, none⟩)], .slice Ai ids.length ci, .func (.func 101) #[] #[.pointer (some ⟨w5.heap.size, 0, none⟩)], .int .i64 (xi : Int), .int .i64 z, .slice Av ol.length cv, .pointer (some ⟨w.heap.size, 1, none⟩), .slice (some ad) l0_1.length c0_1, .int .i64 z, .pointer (some (ad.add z.toNat)), .int .i64 y, .slice (some ⟨Wd.heap.size, 0, none⟩) 1 1, u33, u34, undef], defers := [] } (Wd.alloc (.cells #[.int .i64 y] 3)) ?_ ?_
              · clear hWd fin kd kc e1 e3 eB eM hB hM hv hrow hb1 hb3 hxw hx1 hcell hvne hyl HSN
                intro listed h7 h8 h9
                refine wpAnyIn_ready (rs := [7]) h7 (by simp) (AllReadyIn.cons rfl (fun K hK => ?_) AllReadyIn.nil)
                refine stepIn_append w1.heap.size (by intro c hc; cases hc) rfl _ _ _ _ _ _ rfl Try.underlying24 hii rfl (by decide) (.slice Av ol.length cv) (ol.map (Value.int .i64)) _ rfl rfl rfl (by simpa using erow) hszd (by simp; omega) ?_
                intro v1 wx hown hg hat
                rw [List.length_map] at hown
                have FX := Aside0.mk (FIN.out v1 wx hown hg hat)
                have gv := (ev.alloc _).kept hg (ev.not_row (by decide) erow)
                obtain ⟨g', cap', rfl⟩ := ownsRow_succ hown
                have gvc := gv.cell
                have gvf := gv.frozen
                clear hg hat hown gv
                refine hK _ _ ?_
                clear hK K
                refine wpAnyIn_ready (rs := [8]) h8 (by simp) (AllReadyIn.cons rfl (fun K hK => ?_) AllReadyIn.nil)
                go_simp
                refine hK _ _ ?_
                clear hK K
                refine wpAnyIn_done h9 ?_ _
                exact FX.out
              intro LEAF
              rw [hWd]
              clear hWd fin kd kc e1 e3 eB eM hB hM hv hrow hb1 hb3 hxw hx1 hcell hvne hyl HSN FIN
              have HLEAF := Aside0.mk LEAF
              clear LEAF
              repeat' (first
                  | (exact HLEAF.out _ (by decide +kernel) (by decide +kernel) (by decide +kernel))
                  | (refine wpAnyIn_ready (rs := [6]) (by decide +kernel) (by simp) (AllReadyIn.cons rfl (fun K hK => ?_) AllReadyIn.nil))
                  | (refine wpAnyIn_ready (rs := [2]) (by decide +kernel) (by simp) (AllReadyIn.cons rfl (fun K hK => ?_) AllReadyIn.nil))
                  | (refine wpAnyIn_ready (rs := [5]) (by decide +kernel) (by simp) (AllReadyIn.cons rfl (fun K hK => ?_) AllReadyIn.nil))
                  | (refine wpAnyIn_ready (rs := [4]) (by decide +kernel) (by simp) (AllReadyIn.cons rfl (fun K hK => ?_) AllReadyIn.nil))
                  | (refine wpAnyIn_ready (rs := [1]) (by decide +kernel) (by simp) (AllReadyIn.cons rfl (fun K hK => ?_) AllReadyIn.nil))
                  | (refine wpAnyIn_ready (rs := [0]) (by decide +kernel) (by simp) (AllReadyIn.cons rfl (fun K hK => ?_) AllReadyIn.nil))
                  | (refine wpAnyIn_ready (rs := [3]) (by decide +kernel) (by simp) (AllReadyIn.cons rfl (fun K hK => ?_) AllReadyIn.nil))
                  | (refine wpAnyIn_ready (rs := [1, 3]) (by decide +kernel) (by simp) (AllReadyIn.cons rfl (fun K hK => ?_) (AllReadyIn.cons rfl (fun K hK => ?_) AllReadyIn.nil)))
                  | (refine wpAnyIn_ready (rs := [0, 1]) (by decide +kernel) (by simp) (AllReadyIn.cons rfl (fun K hK => ?_) (AllReadyIn.cons rfl (fun K hK => ?_) AllReadyIn.nil)))
                  | (refine wpAnyIn_ready (rs := [0, 4]) (by decide +kernel) (by simp) (AllReadyIn.cons rfl (fun K hK => ?_) (AllReadyIn.cons rfl (fun K hK => ?_) AllReadyIn.nil)))
                  | (refine wpAnyIn_ready (rs := [0, 3]) (by decide +kernel) (by simp) (AllReadyIn.cons rfl (fun K hK => ?_) (AllReadyIn.cons rfl (fun K hK => ?_) AllReadyIn.nil)))
                  | (refine wpAnyIn_ready (rs := [0, 6]) (by decide +kernel) (by simp) (AllReadyIn.cons rfl (fun K hK => ?_) (AllReadyIn.cons rfl (fun K hK => ?_) AllReadyIn.nil)))
                  | (refine wpAnyIn_ready (rs := [2, 3]) (by decide +kernel) (by simp) (AllReadyIn.cons rfl (fun K hK => ?_) (AllReadyIn.cons rfl (fun K hK => ?_) AllReadyIn.nil)))
                  | (refine wpAnyIn_ready (rs := [0, 2]) (by decide +kernel) (by simp) (AllReadyIn.cons rfl (fun K hK => ?_) (AllReadyIn.cons rfl (fun K hK => ?_) AllReadyIn.nil)))
                  | (refine wpAnyIn_ready (rs := [0, 5]) (by decide +kernel) (by simp) (AllReadyIn.cons rfl (fun K hK => ?_) (AllReadyIn.cons rfl (fun K hK => ?_) AllReadyIn.nil)))
                  | (refine wpAnyIn_ready (rs := [0, 1, 3]) (by decide +kernel) (by simp) (AllReadyIn.cons rfl (fun K hK => ?_) (AllReadyIn.cons rfl (fun K hK => ?_) (AllReadyIn.cons rfl (fun K hK => ?_) AllReadyIn.nil))))
                  | (refine wpAnyIn_ready (rs := [0, 2, 3]) (by decide +kernel) (by simp) (AllReadyIn.cons rfl (fun K hK => ?_) (AllReadyIn.cons rfl (fun K hK => ?_) (AllReadyIn.cons rfl (fun K hK => ?_) AllReadyIn.nil))))
                  | (go_simp; refine hK _ _ ?_; clear hK K))
            case done =>
              rintro D ys W hD hys ⟨⟨v, hv, hrow, hvne⟩, hb1, hb3, hB, hM⟩ hK9
              have h1c := hb1.cell
              have h1l := hb1.lt
              rw [hys, impl_ReadingOf.outs_all _ _ _ _ HZS.out] at hrow
              obtain ⟨ol, hol⟩ : ∃ ol, ol = out ++ ids.reverse.map (fun i => rd l0_1 i) := ⟨_, rfl⟩
              rw [← hol] at hrow
              have HOL := Aside0.mk hol
              have HD9 := Aside0.mk hK9
              have HMK2 := Aside0.mk hM
              have HROW := Aside0.mk hrow
              have HVNE := Aside0.mk hvne
              clear hol hK9 hM hrow hys hvne
              gi_wp2
              subst hmkd
              refine Handed.intro d (by omega) (hJ _ _ _ ⟨D :: ds, W.heap.size, ol, v, _, _, _, _, _, _, _, _, _, _, _, _, _, _, _, _, _, _, _, rfl, ⟨by rw [HOL.out]; exact HS2.out⟩, ⟨by omega⟩, ?_, ?_⟩)
              · exact ⟨HROW.out.alloc _, hv.alloc _, Boxed.new W 3 _, hB.alloc hB.size _, hgeo, hB.size, fun g hg => by have := own_lt HROW.out g hg; omega⟩
              · refine ⟨List.nodup_cons.mpr ⟨fun h9 => by have := MB D h9; omega, HMK.out.1⟩, fun E hE => ?_⟩
                rcases List.mem_cons.mp hE with rfl | hE
                · exact ⟨by have := BW.size; omega, (Below.heap_alloc _ _ _ (Array.getElem?_eq_some_iff.1 HD9.out).1).trans HD9.out⟩
                · have h9 := HMK2.out E hE
                  exact ⟨(HMK.out.2 E hE).1, (Below.heap_alloc _ _ _ (Array.getElem?_eq_some_iff.1 h9).1).trans h9⟩
            case stop =>
              rintro D c pre W _ _ h _
              exact h.elim
          next => cases hif
    next => cases h2
end

end Go.Proofs.Ytkbdjbmalpkkfaa.PFnPairsOfWalks
