-- Written by a program of this session for this claim (its own turn of the print).
import Derived.Test.YtmollfkakalagaaPFnExactTurnHeightsx0
import Derived.Test.YtmollfkakalagaaPFnExactTurnHeightsx2
namespace Go.Proofs.Ytmollfkakalagaa.PFnExactTurnHeights
open Go.RowKit Go.Proofs.YtmollfkakalagaaW.PrintWords Go.Proofs.YtmollfkakalagaaW.PrintLast Go.Proofs.YtmollfkakalagaaW.PrintMore
attribute [local go_sem] max2_int min2_int max_two min_two max_three min_three max_four min_four   -- for this text's walks alone
set_option linter.unusedVariables false
set_option linter.unusedSimpArgs false

/-! ### slices.Backward over a slice: function 75 and its closure 113 (the walks of an iterator over a slice follow the worked text of the guide) -/
section
attribute [local go_sem] Oper.semAt_some
open Go.Shelf
/-- The cells of C hold on what they hold. -/
def KpCBool (C : Addr → Prop) (W W' : World) : Prop := ∀ a v, C a → W.cell? a = some v → W'.cell? a = some v
theorem KpCBool.refl (C : Addr → Prop) (W : World) : KpCBool C W W := fun _ _ _ h => h
theorem KpCBool.trans {C : Addr → Prop} {A B D : World} (h : KpCBool C A B) (k : KpCBool C B D) : KpCBool C A D := fun a v ha hv => k a v ha (h a v ha hv)
theorem KpCBool.put {C : Addr → Prop} {w : World} (W : World) (l : Nat) (o o' : Obj) (_ : w.heap.size ≤ l) (h : W.heap[l]? = some o) (hc : o.isCells = false) (_ : o.isWalk = false) : KpCBool C W (W.putObj l o') := fun a v _ hv => by
  have hne : a.block ≠ l := fun e => by
    unfold World.cell? at hv
    rw [e, h] at hv
    cases o <;> simp [Obj.isCells] at hv hc
  unfold World.cell? at hv ⊢
  rw [show (W.putObj l o').heap[a.block]? = W.heap[a.block]? from by unfold World.putObj; simp [Array.getElem?_setIfInBounds, Ne.symm hne]]
  exact hv
/-- What has come when k rounds are over, from the last one down. -/
def backIBool (zs : List Bool) (k : Nat) : List (Nat × Bool) := (List.range k).map fun j => (zs.length - 1 - j, zs[zs.length - 1 - j]?.getD false)
theorem backIBool_succ (zs : List Bool) (k : Nat) : backIBool zs (k + 1) = backIBool zs k ++ [(zs.length - 1 - k, zs[zs.length - 1 - k]?.getD false)] := by simp [backIBool, List.range_succ]
theorem backIBool_length (zs : List Bool) (k : Nat) : (backIBool zs k).length = k := by simp [backIBool]
theorem backIBool_map (zs : List Bool) {k : Nat} (hk : k ≤ zs.length) : (backIBool zs k).map (·.2) = zs.reverse.take k := by
  apply List.ext_getElem
  · simp [backIBool, hk]
  · intro i h1 h2
    have : i < k := by simpa [backIBool] using h1
    simp [backIBool, show zs.length - 1 - i < zs.length by omega]
theorem backBoolI_map2 (zs : List Bool) : (backIBool zs zs.length).map (·.2) = zs.reverse := by rw [backIBool_map zs (Nat.le_refl _), List.take_of_length_le (by simp)]
set_option maxRecDepth 100000 in
set_option maxHeartbeats 2000000 in
theorem backBool1_in (F : Fence) (n : Nat) (h7 : F.fn 113) (hro : F.round = none) (hn : 1 ≤ n) (l Bs : Nat) (A : Option Addr) (cap : Nat) (zs : List Bool) (hreach : zs.length * 8 ≤ 140737488351232) (C : Addr → Prop) (hCs : C ⟨Bs, 0, none⟩) (J Jx : List (Nat × Bool) → World → Prop)
    (hY : ∀ pre x W, J pre W → pre.length < zs.length → YieldAt F (n - 1) Try.prog l #[.int .i64 (x.1 : Int), Value.bool x.2] W fun e W' =>
      (e = .returned (.bool true) ∧ J (pre ++ [x]) W' ∧ KpCBool C W W') ∨ (e = .returned (.bool false) ∧ Jx (pre ++ [x]) W'))
    (W : World) (hBs : W.cell? ⟨Bs, 0, none⟩ = some (.slice A zs.length cap)) (hc : ∀ j, j < zs.length → ∃ ad, A = some ad ∧ C (ad.add j) ∧ W.cell? (ad.add j) = some (Value.bool (zs[j]?.getD false))) (h0 : J [] W) :
    CallsIn F n Try.prog 113 #[.func (.yield l) #[] #[], .pointer (some ⟨Bs, 0, none⟩)] W fun e W' => (∃ v, e = .returned v) ∧
      ((∃ ys, ys = backIBool zs zs.length ∧ J ys W') ∨ (∃ pre, (∃ k, k ≤ zs.length ∧ pre = backIBool zs k) ∧ Jx pre W')) := by
  refine callsIn_of_wp Try.func113 rfl h7 ?_ hro
  simp only [Try.ntmps113, List.size_toArray, List.length_cons, List.length_nil, Nat.reduceAdd, Nat.reduceSub, Array.replicate_succ, Array.replicate_zero, List.push_toArray, List.append_toArray, List.nil_append, List.cons_append]
  gi_wp2
  gi_loopw [3] (fun i wr => ∃ k : Nat, k ≤ zs.length ∧ i = .int .i64 ((zs.length : Int) - 1 - k) ∧ J (backIBool zs k) wr ∧ KpCBool C W wr)
    (fun i _ => ((intOf i) + 1).toNat)
  case atStart => exact ⟨0, Nat.zero_le _, by simp, h0, KpCBool.refl _ _⟩
  case round =>
    obtain ⟨k, hk, hi, hJs, hnx⟩ := hrel
    by_cases hlt : k < zs.length
    · obtain ⟨q, hq⟩ : ∃ q : Nat, q = zs.length - 1 - k := ⟨_, rfl⟩
      have hiq : (zs.length : Int) - 1 - k = (q : Int) := by omega
      rw [hiq] at hi
      subst hi
      obtain ⟨ad, rfl, hCa, hca⟩ := hc q (by omega)
      obtain ⟨v9, hv9⟩ : ∃ v9, v9 = zs[q]?.getD false := ⟨_, rfl⟩
      rw [← hv9] at hca
      obtain ⟨fn, tmps, assign, body, hy, hR⟩ := hY _ (q, v9) wr hJs (by rw [backIBool_length]; exact hlt)
      dsimp only at hy
      have hcx' := hnx _ _ hCa hca
      have hbx' := hnx _ _ hCs hBs
      have hb1 : (q : Int) ≤ 9223372036854775807 := by omega
      have hb2 : q < zs.length := by omega
      have hs2 := (backIBool_succ zs k).symm
      rw [← hq, ← hv9] at hs2
      have HS := Aside0.mk hs2
      have HQ := Aside0.mk hq
      have HIQ := Aside0.mk hiq
      clear hs2 hq hiq hv9
      gi_wp2
      refine hR.mono ?_
      rintro e W3 (⟨rfl, hJ3, hk3⟩ | ⟨rfl, hJx3⟩)
      · gi_wp2
        go_roundw
        case rel =>
          have h1 := HS.out
          have h2 := HIQ.out
          exact ⟨k + 1, by omega, by congr 1; omega, by rw [← h1]; exact hJ3, hnx.trans hk3⟩
        case measure => first | (simp [intOf]; done) | (simp [intOf]; omega)
      · gi_wp2
        refine bodyPost_ret (results_none rfl _ _ _) rfl ?_
        exact ⟨⟨_, rfl⟩, .inr ⟨_, ⟨k + 1, by omega, HS.out⟩, hJx3⟩⟩
    · obtain rfl : k = zs.length := by omega
      have hi2 : (zs.length : Int) - 1 - (zs.length : Int) = -1 := by omega
      rw [hi2] at hi
      subst hi
      gi_wp2
      go_end0
      exact ⟨⟨_, rfl⟩, .inl ⟨_, rfl, hJs⟩⟩
set_option maxRecDepth 100000 in
set_option maxHeartbeats 1000000 in
theorem backBool_in (F : Fence) (n : Nat) (h5 : F.fn 75) (hro : F.round = none) (a : Option Addr) (len cap : Nat) (w : World) :
    CallsIn F n Try.prog 75 #[.slice a len cap] w fun e w' => e = .returned (.func (.func 113) #[] #[.pointer (some ⟨w.heap.size, 0, none⟩)]) ∧ w' = w.alloc (.cells #[.slice a len cap] 58) := by
  refine callsIn_of_wp Try.func75 rfl h5 ?_ hro
  simp only [Try.ntmps75, List.size_toArray, List.length_cons, List.length_nil, Nat.reduceAdd, Nat.reduceSub, Array.replicate_succ, Array.replicate_zero, List.push_toArray, List.append_toArray, List.nil_append, List.cons_append]
  gi_wp2
  go_ret
  exact ⟨rfl, rfl⟩
theorem backBool_stops (F : Fence) (n : Nat) (h7 : F.fn 113) (hro : F.round = none) (hn : 1 ≤ n) (Bs : Nat) (A : Option Addr) (cap : Nat) (zs : List Bool) (hreach : zs.length * 8 ≤ 140737488351232) (C : Addr → Prop) (hCs : C ⟨Bs, 0, none⟩) (w : World) (hBs : Bs < w.heap.size)
    (hcs : w.cell? ⟨Bs, 0, none⟩ = some (.slice A zs.length cap)) (hc : ∀ j, j < zs.length → ∃ ad, A = some ad ∧ C (ad.add j) ∧ w.cell? (ad.add j) = some (Value.bool (zs[j]?.getD false))) :
    SeqStopsK F n Try.prog 113 #[.pointer (some ⟨Bs, 0, none⟩)] (fun x : Nat × Bool => #[Value.int .i64 (x.1 : Int), Value.bool x.2]) (KpCBool C) (fun ys => ys = backIBool zs zs.length) (fun pre => ∃ k, k ≤ zs.length ∧ pre = backIBool zs k) zs.length w := fun l J Jx W hW _ _ hY h0 =>
  backBool1_in F n h7 hro hn l Bs A cap zs hreach C hCs J Jx hY W ((hW.cell (p := ⟨Bs, 0, none⟩) hBs).trans hcs) (fun j hj => by
    obtain ⟨ad, e, h1, h2⟩ := hc j hj
    exact ⟨ad, e, h1, (hW.cell (World.block_lt_of_cell? _ _ h2)).trans h2⟩) h0
end
/-! ### impl_TurnHeights: function 26 (a loop over slices.Backward: proved by hand) -/
section
attribute [local go_sem] Oper.semAt_some
open Go.Shelf
/-- The steps of heights, true for those up; how many go to the right so far. -/
def impl_TurnHeights.ups : List Int → Int → List Bool → Int → List Bool × Int
  | [], _, u, r => (u, r)
  | h :: t, i, u, r => impl_TurnHeights.ups t (i + 1) (u ++ List.replicate (i - h - r).toNat false ++ [true]) (r + ((i - h - r).toNat : Int))
def impl_TurnHeights.path (l : List Int) : List Bool := (impl_TurnHeights.ups l 0 [] 0).1 ++ List.replicate ((l.length : Int) - (impl_TurnHeights.ups l 0 [] 0).2).toNat false
def impl_TurnHeights.stp (s : List Int × Int) (b : Bool) : List Int × Int := if b = true then (s.1, s.2 + 1) else (s.1 ++ [(s.1.length : Int) - s.2], s.2)
def impl_TurnHeights.res (l : List Int) : List Int := ((impl_TurnHeights.path l).reverse.foldl impl_TurnHeights.stp ([], 0)).1
def impl_TurnHeights.f (k : Nat) (l0 : List Int) : Option (List Int × Bool) := (impl_areHeights.f k l0).bind fun t => if t = true then (if l0.length ≤ 8 ∧ ∀ h ∈ l0, 0 ≤ h ∧ h ≤ 8 then some (impl_TurnHeights.res l0, true) else none) else some ([], false)
theorem impl_TurnHeights.mono : ∀ a0 k, LeO (impl_TurnHeights.f k a0) (impl_TurnHeights.f (k + 1) a0) := fun a0 k => LeO.bind (impl_areHeights.mono a0 k) (fun _ => LeO.refl _)
def impl_TurnHeights.st (pre : List (Nat × Bool)) : List Int × Int := (pre.map (·.2)).foldl impl_TurnHeights.stp ([], 0)
theorem impl_TurnHeights.st_snoc (pre : List (Nat × Bool)) (x : Nat × Bool) : impl_TurnHeights.st (pre ++ [x]) = impl_TurnHeights.stp (impl_TurnHeights.st pre) x.2 := by simp [impl_TurnHeights.st, List.foldl_append]
theorem impl_TurnHeights.st_bound (us : List Bool) : ∀ s : List Int × Int, 0 ≤ s.2 → (us.foldl impl_TurnHeights.stp s).1.length ≤ s.1.length + us.length ∧ 0 ≤ (us.foldl impl_TurnHeights.stp s).2 ∧ (us.foldl impl_TurnHeights.stp s).2 ≤ s.2 + us.length := by
  induction us with
  | nil => exact fun s h => ⟨Nat.le_refl _, h, by show s.2 ≤ s.2 + ((0 : Nat) : Int); omega⟩
  | cons b t ih =>
    intro s h
    rw [List.foldl_cons]
    by_cases c : b = true
    · have e : impl_TurnHeights.stp s b = (s.1, s.2 + 1) := by unfold impl_TurnHeights.stp; rw [if_pos c]
      rw [e]
      obtain ⟨h1, h2, h3⟩ := ih (s.1, s.2 + 1) (by show 0 ≤ s.2 + 1; omega)
      refine ⟨Nat.le_trans h1 ?_, h2, Int.le_trans h3 ?_⟩
      · show s.1.length + t.length ≤ s.1.length + (t.length + 1); omega
      · show s.2 + 1 + (t.length : Int) ≤ s.2 + ((t.length + 1 : Nat) : Int); omega
    · have e : impl_TurnHeights.stp s b = (s.1 ++ [(s.1.length : Int) - s.2], s.2) := by unfold impl_TurnHeights.stp; rw [if_neg c]
      rw [e]
      obtain ⟨h1, h2, h3⟩ := ih (s.1 ++ [(s.1.length : Int) - s.2], s.2) h
      refine ⟨Nat.le_trans h1 ?_, h2, Int.le_trans h3 ?_⟩
      · show (s.1 ++ [(s.1.length : Int) - s.2]).length + t.length ≤ s.1.length + (t.length + 1)
        rw [List.length_append, List.length_singleton]; omega
      · show s.2 + (t.length : Int) ≤ s.2 + ((t.length + 1 : Nat) : Int); omega
theorem impl_TurnHeights.cell_same {W W' : World} {a : Addr} (h : W'.heap[a.block]? = W.heap[a.block]?) : W'.cell? a = W.cell? a := by
  unfold World.cell?
  rw [h]
/-- The steps so far, and the variable that the loops share. -/
structure impl_TurnHeights.TS (w W : World) (br : Nat) (v : Value) (u : List Bool) (r : Int) : Prop where
  own : W.ownsRow w.heap.size 4 1 v u.length (encs Value.bool u)
  box : Boxed W br 3 (.int .i64 r)
  bel : Below w.heap.size w W
  ge : w.heap.size ≤ br
theorem impl_TurnHeights.TS.app {w W w1 : World} {br : Nat} {v v1 : Value} {u : List Bool} {r : Int} {b : Bool} (h : impl_TurnHeights.TS w W br v u r) (hown : w1.ownsRow w.heap.size 4 1 v1 (u.length + 1) (encs Value.bool u ++ [.bool b])) (hg : (W.alloc (.cells #[.bool b] 4)).grownBy w1 v.ownBlock) : impl_TurnHeights.TS w w1 br v1 (u ++ [b]) r := by
  refine ⟨by rw [List.length_append, List.length_singleton]; simpa [encs] using hown, (h.box.alloc _).kept hg (h.box.not_row (by decide) h.own), (h.bel.alloc h.bel.size _).grown hg (by have := h.bel.size; simp; omega) (own_base h.own), h.ge⟩
theorem impl_TurnHeights.TS.set {w W : World} {br : Nat} {v : Value} {u : List Bool} {r : Int} (h : impl_TurnHeights.TS w W br v u r) (r' : Int) : impl_TurnHeights.TS w (W.setCell ⟨br, 0, none⟩ (.int .i64 r')) br v u r' :=
  ⟨h.own.kept (grownBy_setCell' W br _) (.inr (h.box.not_row (by decide) h.own).symm), h.box.set _, h.bel.setCell (p := ⟨br, 0, none⟩) h.ge _, h.ge⟩
theorem impl_TurnHeights.ups_step (l : List Int) (i : Nat) (hi : i < l.length) (u : List Bool) (r : Int) : impl_TurnHeights.ups (l.drop i) i u r = impl_TurnHeights.ups (l.drop (i + 1)) ((i + 1 : Nat) : Int) (u ++ List.replicate ((i : Int) - rd l i - r).toNat false ++ [true]) (r + (((i : Int) - rd l i - r).toNat : Int)) := by
  have e : l.drop i = rd l i :: l.drop (i + 1) := by
    rw [List.drop_eq_getElem_cons hi]
    congr 1
    unfold rd
    rw [Int.toNat_natCast, List.getD_eq_getElem?_getD, List.getElem?_eq_getElem hi]
    rfl
  rw [e, impl_TurnHeights.ups]
  rfl
set_option maxHeartbeats 8000000 in
set_option maxRecDepth 100000 in
theorem impl_TurnHeights.calls (k : Nat) (A0 : Option Addr) (c0 : Nat) (l0 : List Int) (r1 : List Int) (r2 : Bool) (w : World) (hr0 : Kd.C (Kd.int .i64) w A0 l0.length l0) (hc0 : l0.length ≤ c0) (h : impl_TurnHeights.f k l0 = some (r1, r2)) :
    Calls Try.prog 26 #[.slice A0 l0.length c0] w fun e w' => ∃ v0_ : Value, e = .returned (.tuple #[v0_, .bool r2]) ∧ Kd.R (Kd.int .i64) 3 w' w.heap.size (fun _ => True) v0_ r1 ∧ Below w.heap.size w w' := by
  obtain ⟨t, ht, h2⟩ := Option.bind_eq_some_iff.mp h
  have cA := impl_areHeights.calls k A0 c0 l0 t w hr0 hc0 ht
  clear h ht
  cases t with
  | false =>
    rw [if_neg (by simp)] at h2
    obtain ⟨rfl, rfl⟩ := Prod.mk.inj (Option.some.inj h2)
    clear h2 hr0 hc0
    have HC := Aside0.mk cA
    clear cA
    go_enter Try.func26, Try.ntmps26
    go_wp2_with (first | (go_at_call 74; refine HC.out.mono ?_; rintro e w' ⟨rfl, ⟨nd, rfl⟩⟩))
    go_ret2
    exact ⟨_, rfl, Kd.R_nil _ _ _ _ _, (Drawn0.step (Drawn0.refl _) _).below⟩
  | true =>
    rw [if_pos rfl] at h2
    split at h2
    next hb =>
      obtain ⟨rfl, rfl⟩ := Prod.mk.inj (Option.some.inj h2)
      clear h2
      obtain ⟨hl8, hh8⟩ := hb
      refine (callsIn_wide (n := 8)).1 ?_
      refine callsIn_of_wp_marks Try.func26 rfl trivial ?_ rfl
      simp only [Try.ntmps26, List.size_toArray, List.length_cons, List.length_nil, Nat.reduceAdd, Nat.reduceSub, Array.replicate_succ, Array.replicate_zero, List.push_toArray, List.append_toArray, List.nil_append, List.cons_append]
      have hf1 : Fence.wide.fn 74 := trivial
      gi_wp2_with (first | (gi_at_call 74; refine (callsIn_wide.2 cA).mono ?_; rintro e w' ⟨rfl, ⟨nd, rfl⟩⟩))
      have T0 : impl_TurnHeights.TS w (((w.drewN nd).alloc (Obj.cells #[] 4)).alloc (Obj.cells #[Value.int IntKind.i64 0] 3)) (w.heap.size + 1) (.slice (some ⟨w.heap.size, 0, none⟩) 0 0) [] 0 := by
        refine ⟨?_, ?_, ?_, by omega⟩
        · exact (own_lit_of (enc := Value.bool) (w.drewN nd) w.heap.size 4 [] (by simp) (by simp)).alloc _
        · have := Boxed.new ((w.drewN nd).alloc (Obj.cells #[] 4)) 3 (.int .i64 0)
          simpa using this
        · exact ((pw_below_drewN (Below.refl _ w) nd).alloc (by simp) _).alloc (by simp) _
      obtain ⟨i0, hi, hz0, hz1, hz2⟩ := info_parts info4
      clear cA hf1
      gi_loopw [4, 17] (fun v4 v17 wr => ∃ (i : Nat) (u : List Bool) (r : Nat), v17 = .int .i64 (i : Int) ∧ i ≤ l0.length ∧ Aside0 (impl_TurnHeights.ups (l0.drop i) i u r = impl_TurnHeights.ups l0 0 [] 0 ∧ r ≤ i ∧ u.length = i + r) ∧ impl_TurnHeights.TS w wr (w.heap.size + 1) v4 u (r : Int)) (fun _ v17 _ => l0.length - (intOf v17).toNat)
      case atStart => exact ⟨0, [], 0, rfl, Nat.zero_le _, ⟨rfl, Nat.le_refl _, rfl⟩, T0⟩
      case round =>
        clear T0
        obtain ⟨i, u, r, rfl, hil, HU, HT⟩ := hrel
        by_cases hlt : i < l0.length
        · obtain ⟨ad, rfl, hcell⟩ := Kd.at_int (Kd.C_below hr0 HT.bel) (i : Int) (by omega) (by omega)
          rw [Int.toNat_natCast] at hcell
          obtain ⟨hh0, hh1⟩ := hh8 (rd l0 (i : Int)) (by unfold rd; rw [Int.toNat_natCast, List.getD_eq_getElem?_getD, List.getElem?_eq_getElem hlt]; exact List.getElem_mem _)
          obtain ⟨x, hx⟩ : ∃ x, x = rd l0 (i : Int) := ⟨_, rfl⟩
          rw [← hx] at hcell hh0 hh1
          have HX := Aside0.mk hx
          clear hx
          obtain ⟨u0, u1, u2⟩ := HU.out
          obtain ⟨m, hm⟩ : ∃ m, m = ((i : Int) - x - r).toNat := ⟨_, rfl⟩
          have HM := Aside0.mk hm
          clear hm
          gi_wp2
          gi_loopw [4] (fun v4 wr => ∃ (q : Nat), Aside0 (q ≤ m) ∧ impl_TurnHeights.TS w wr (w.heap.size + 1) v4 (u ++ List.replicate q false) ((r : Int) + (q : Int))) (fun v4 wr => ((i : Int) - x - intOf ((wr.cell? ⟨w.heap.size + 1, 0, none⟩).getD undef)).toNat)
          case atStart => exact ⟨0, ⟨Nat.zero_le _⟩, by simpa using HT⟩
          case round =>
            clear HT
            obtain ⟨q, HQ, HT⟩ := hrel
            have hbc := HT.box.cell
            have hbf := HT.box.frozen
            have hq9 := HQ.out
            have hm9 := HM.out
            have hlen : (u ++ List.replicate q false).length ≤ 40 := by simp; omega
            by_cases hq : q < m
            · have hlt2 : (r : Int) + (q : Int) < (i : Int) - x := by omega
              have hq20 : (q : Int) ≤ 20 := by omega
              clear hm9
              gi_wp2_with (gi_at_builtin; refine wpListIn_append_own _ rfl _ _ 58 rfl w.heap.size 4 i0 (.bool false) 1 1 Try.underlying58 hi hz0 hz1 hz2 rfl (by decide) _ _ _ rfl (HT.own.alloc _) ⟨wr.heap.size, 0, none⟩ 1 1 [.bool false] rfl rfl (cell_one_new _ _ _) (by simp [Value.oneCell']) (by simp only [maxLen]; omega) (by omega) (by have := HT.bel.size; simp; omega) ?_; intro v' w1 hown' hgrow _; have HT1 := impl_TurnHeights.TS.app HT hown' hgrow; clear hown' hgrow hbc hbf; have hbc := HT1.box.cell; have hbf := HT1.box.frozen)
              refine ⟨⟨q + 1, ⟨by omega⟩, ?_⟩, ?_⟩
              · have e1 : u ++ List.replicate (q + 1) false = u ++ List.replicate q false ++ [false] := by rw [List.replicate_succ', ← List.append_assoc]
                have e2 : (r : Int) + ((q + 1 : Nat) : Int) = (r : Int) + (q : Int) + 1 := by omega
                rw [e1, e2]
                exact HT1.set _
              · rw [(HT1.set ((r : Int) + (q : Int) + 1)).box.cell, HT.box.cell]
                simp only [intOf, Option.getD_some]
                omega
            · obtain rfl : q = m := by omega
              have hlt2 : (i : Int) - x ≤ (r : Int) + (q : Int) := by omega
              have hq20 : (q : Int) ≤ 20 := by omega
              have hqm : (r : Int) + (q : Int) ≤ i := by omega
              clear hm9 u0
              gi_wp2_with (gi_at_builtin; refine wpListIn_append_own _ rfl _ _ 58 rfl w.heap.size 4 i0 (.bool false) 1 1 Try.underlying58 hi hz0 hz1 hz2 rfl (by decide) _ _ _ rfl (HT.own.alloc _) ⟨wr.heap.size, 0, none⟩ 1 1 [.bool true] rfl rfl (cell_one_new _ _ _) (by simp [Value.oneCell']) (by simp only [maxLen]; omega) (by omega) (by have := HT.bel.size; simp; omega) ?_; intro v' w1 hown' hgrow _; have HT1 := impl_TurnHeights.TS.app HT hown' hgrow; clear hown' hgrow hbc hbf; have hbc := HT1.box.cell; have hbf := HT1.box.frozen)
              have hst := impl_TurnHeights.ups_step l0 i hlt u (r : Int)
              rw [← HX.out, ← HM.out] at hst
              refine ⟨⟨i + 1, u ++ List.replicate q false ++ [true], r + q, by congr 1, by omega, ⟨?_, by omega, by simp; omega⟩, ?_⟩, by simp [intOf]; omega⟩
              · rw [show ((r + q : Nat) : Int) = (r : Int) + (q : Int) by omega, ← hst]
                exact HU.out.1
              · rw [show ((r + q : Nat) : Int) = (r : Int) + (q : Int) by omega]
                exact HT1
        · obtain rfl : i = l0.length := by omega
          obtain ⟨u0, u1, u2⟩ := HU.out
          have hup : impl_TurnHeights.ups l0 0 [] 0 = (u, (r : Int)) := by rw [← u0, List.drop_length, impl_TurnHeights.ups]
          have HUP := Aside0.mk hup
          obtain ⟨m, hm⟩ : ∃ m, m = l0.length - r := ⟨_, rfl⟩
          have HM := Aside0.mk hm
          clear hm hup u0
          gi_wp2
          gi_loopw [4] (fun v4 wr => ∃ (q : Nat), Aside0 (q ≤ m) ∧ impl_TurnHeights.TS w wr (w.heap.size + 1) v4 (u ++ List.replicate q false) ((r : Int) + (q : Int))) (fun v4 wr => ((l0.length : Int) - intOf ((wr.cell? ⟨w.heap.size + 1, 0, none⟩).getD undef)).toNat)
          case atStart => exact ⟨0, ⟨Nat.zero_le _⟩, by simpa using HT⟩
          case round =>
            clear HT
            obtain ⟨q, HQ, HT⟩ := hrel
            have hbc := HT.box.cell
            have hbf := HT.box.frozen
            have hq9 := HQ.out
            have hm9 := HM.out
            have hlen : (u ++ List.replicate q false).length ≤ 40 := by simp; omega
            by_cases hq : q < m
            · have hlt2 : (r : Int) + (q : Int) < (l0.length : Int) := by omega
              have hq20 : (q : Int) ≤ 20 := by omega
              clear hm9
              gi_wp2_with (gi_at_builtin; refine wpListIn_append_own _ rfl _ _ 58 rfl w.heap.size 4 i0 (.bool false) 1 1 Try.underlying58 hi hz0 hz1 hz2 rfl (by decide) _ _ _ rfl (HT.own.alloc _) ⟨wr.heap.size, 0, none⟩ 1 1 [.bool false] rfl rfl (cell_one_new _ _ _) (by simp [Value.oneCell']) (by simp only [maxLen]; omega) (by omega) (by have := HT.bel.size; simp; omega) ?_; intro v' w1 hown' hgrow _; have HT1 := impl_TurnHeights.TS.app HT hown' hgrow; clear hown' hgrow hbc hbf; have hbc := HT1.box.cell; have hbf := HT1.box.frozen)
              refine ⟨⟨q + 1, ⟨by omega⟩, ?_⟩, ?_⟩
              · have e1 : u ++ List.replicate (q + 1) false = u ++ List.replicate q false ++ [false] := by rw [List.replicate_succ', ← List.append_assoc]
                have e2 : (r : Int) + ((q + 1 : Nat) : Int) = (r : Int) + (q : Int) + 1 := by omega
                rw [e1, e2]
                exact HT1.set _
              · rw [(HT1.set ((r : Int) + (q : Int) + 1)).box.cell, HT.box.cell]
                simp only [intOf, Option.getD_some]
                omega
            · obtain rfl : q = m := by omega
              have hlt2 : (l0.length : Int) ≤ (r : Int) + (q : Int) := by omega
              clear hm9
              obtain ⟨us, hus⟩ : ∃ us, us = u ++ List.replicate q false := ⟨_, rfl⟩
              rw [← hus] at HT hlen
              have HUS := Aside0.mk hus
              clear hus u2 HQ hq9 hq
              obtain ⟨A4, c4, rfl⟩ := own_slice HT.own
              have hbl := HT.box.lt
              have hf1 : Fence.wide.fn 75 := trivial
              have hbc2 := (HT.box.alloc (.cells #[] 3)).alloc (.cells #[.slice (some ⟨wr.heap.size, 0, none⟩) 0 0] 22)
              have hb3 := hbc2.cell
              have hb4 := hbc2.frozen
              gi_wp2_with (gi_at_call 75; refine (backBool_in Fence.wide _ trivial rfl _ _ _ _).mono ?_; rintro e w' ⟨rfl, hw⟩; rw [hw])
              obtain ⟨W4, hW4⟩ : ∃ W4, ((((wr.alloc (Obj.cells #[] 3)).alloc (Obj.cells #[Value.slice (some ⟨wr.heap.size, 0, none⟩) 0 0] 22)).setCell ⟨w.heap.size + 1, 0, none⟩ (Value.int IntKind.i64 0)).alloc (Obj.cells #[Value.slice A4 us.length c4] 58)) = W4 := ⟨_, rfl⟩
              rw [hW4]
              have hsz : W4.heap.size = wr.heap.size + 3 := by rw [← hW4]; simp [World.setCell]
              have b1 : Boxed W4 (w.heap.size + 1) 3 (.int .i64 0) := by rw [← hW4]; exact (hbc2.set _).alloc _
              have b2 : Boxed W4 (wr.heap.size + 1) 22 (.slice (some ⟨wr.heap.size, 0, none⟩) 0 0) := by
                rw [← hW4]
                have h9 := Boxed.new (wr.alloc (Obj.cells #[] 3)) 22 (.slice (some ⟨wr.heap.size, 0, none⟩) 0 0)
                rw [World.size_alloc] at h9
                exact (h9.kept (grownBy_setCell' _ (w.heap.size + 1) _) (by simp; omega)).alloc _
              have b3 : Boxed W4 (wr.heap.size + 2) 58 (.slice A4 us.length c4) := by
                rw [← hW4]
                have h9 := Boxed.new (((wr.alloc (Obj.cells #[] 3)).alloc (Obj.cells #[Value.slice (some ⟨wr.heap.size, 0, none⟩) 0 0] 22)).setCell ⟨w.heap.size + 1, 0, none⟩ (Value.int IntKind.i64 0)) 58 (.slice A4 us.length c4)
                rwa [show (((wr.alloc (Obj.cells #[] 3)).alloc (Obj.cells #[Value.slice (some ⟨wr.heap.size, 0, none⟩) 0 0] 22)).setCell ⟨w.heap.size + 1, 0, none⟩ (Value.int IntKind.i64 0)).heap.size = wr.heap.size + 2 by simp [World.setCell]] at h9
              have r0 : W4.ownsRow wr.heap.size 3 1 (.slice (some ⟨wr.heap.size, 0, none⟩) 0 0) 0 [] := by
                rw [← hW4]
                have h9 := ((own_lit_of (enc := Value.int .i64) wr wr.heap.size 3 [] (Nat.le_refl _) (by simp)).alloc (Obj.cells #[Value.slice (some ⟨wr.heap.size, 0, none⟩) 0 0] 22))
                exact (h9.kept (grownBy_setCell' _ (w.heap.size + 1) _) (.inr (by simp [Value.ownBlock]; omega))).alloc _
              have B4 : Below w.heap.size w W4 := by
                rw [← hW4]
                exact (((HT.bel.alloc HT.bel.size _).alloc (by have := HT.bel.size; simp; omega) _).setCell (p := ⟨w.heap.size + 1, 0, none⟩) (by simp) _).alloc (by have := HT.bel.size; simp [World.setCell]; omega) _
              -- the row of the steps, as Backward reads it
              have hrowU : ∀ j, j < us.length → ∃ ad, A4 = some ad ∧ ad.block < wr.heap.size ∧ ad.block ≠ w.heap.size + 1 ∧ W4.cell? (ad.add j) = some (.bool (us[j]?.getD false)) := fun j hj => by
                obtain ⟨g, cap, hg, _, _⟩ := HT.own.form (by omega)
                injection hg with hg1 _ hg3
                have hob : (Value.slice A4 us.length c4).ownBlock = some g := by rw [hg1]; simp [Value.ownBlock]
                have hlt3 := own_lt HT.own g hob
                have hne : g ≠ w.heap.size + 1 := fun e => HT.box.not_row (by decide) HT.own (by rw [← e, hob])
                refine ⟨_, hg1, hlt3, hne, ?_⟩
                have hcl := HT.own.cells (g := g) hob j (.bool (us[j]?.getD false)) (by simp [encs, hj])
                rw [← hcl]
                refine impl_TurnHeights.cell_same ?_
                rw [add_plain, ← hW4]
                exact (Below.heap_alloc _ _ g (by simp [World.setCell]; omega)).trans ((Below.heap_setCell _ _ _ g hne).trans ((Below.heap_alloc _ _ g (by simp; omega)).trans (Below.heap_alloc _ _ g hlt3)))
              have h1 : 1 ≤ 8 := by omega
              obtain ⟨i3, gi3, gz0, gz1, gz2⟩ := info_parts info3
              have HW4 := Aside0.mk hW4
              clear hW4 hbc hbf hb3 hb4 hbc2
              refine wpIn_rangeFunc_ownG rfl h1 (gf := 113) (lb := #[.pointer (some ⟨wr.heap.size + 2, 0, none⟩)]) rfl trivial (enters_of Try.func113 (by kernel_rfl) rfl)
                (backBool_stops Fence.wide _ trivial rfl (by omega) (wr.heap.size + 2) A4 c4 us (by omega) (fun a => a = ⟨wr.heap.size + 2, 0, none⟩ ∨ a.block < wr.heap.size ∧ a.block ≠ w.heap.size + 1) (.inl rfl) W4 (by omega) b3.cell (fun j hj => by
                  obtain ⟨ad, e1, e2, e3, e4⟩ := hrowU j hj
                  exact ⟨ad, e1, .inr ⟨by rw [add_block]; exact e2, by rw [add_block]; exact e3⟩, e4⟩)) KpCBool.trans (fun W l o o' => KpCBool.put W l o o') (Below.refl _ _) (fun _ => rfl)
                (fun pre W => (∃ v, Boxed W (wr.heap.size + 1) 22 v ∧ W.ownsRow wr.heap.size 3 1 v (impl_TurnHeights.st pre).1.length ((impl_TurnHeights.st pre).1.map (Value.int .i64)) ∧ True) ∧ Boxed W (w.heap.size + 1) 3 (.int .i64 (impl_TurnHeights.st pre).2) ∧ Boxed W (wr.heap.size + 2) 58 (.slice A4 us.length c4) ∧ Below w.heap.size w W)
                (fun _ _ _ => False)
                (OwnFrom.and (Own.from (holdsRow_own wr.heap.size (wr.heap.size + 1) 22 3 1 (fun pre => (impl_TurnHeights.st pre).1.length) (fun pre => (impl_TurnHeights.st pre).1.map (Value.int .i64)) (fun _ _ => True)) _) (OwnFrom.and (Own.from (boxed_own (w.heap.size + 1) 3 (fun pre => .int .i64 (impl_TurnHeights.st pre).2)) _) (OwnFrom.and (Own.from (boxed_own (wr.heap.size + 2) 58 (fun _ => .slice A4 us.length c4)) _) (ownFrom_below (Nat.le_refl _) (by rw [hsz]; have := HT.bel.size; omega)))))
                (fun _ _ _ _ _ hs _ _ => hs)
                ⟨⟨_, b2, r0, trivial⟩, b1, b3, B4⟩
                (fun x => { tmps := #[.slice A0 l0.length c0, undef, .slice none 0 0, .bool false, .slice A4 us.length c4, .pointer (some ⟨w.heap.size + 1, 0, none⟩), u6, u7, .pointer (some ⟨wr.heap.size + 1, 0, none⟩), undef, .bool x.2, .slice A0 l0.length c0, .bool true, .bool false, .slice (some ⟨w.heap.size, 0, none⟩) 0 0, .slice A0 l0.length c0, .int .i64 l0.length, .int .i64 l0.length, .bool false, u19, u20, u21, u22, u23, u24, u25, u26, u27, u28, u29, u30, u31, u32, u33, u34, u35, .int .i64 ((r : Int) + (q : Int)), .slice A0 l0.length c0, .int .i64 l0.length, .bool (decide ((r : Int) + (q : Int) < (l0.length : Int))), u40, u41, u42, u43, u44, .slice (some ⟨wr.heap.size, 0, none⟩) 0 0, .slice A4 us.length c4, .func (.func 113) #[] #[.pointer (some ⟨wr.heap.size + 2, 0, none⟩)], .int .i64 (x.1 : Int), .bool x.2, undef, undef, undef, undef, undef, undef, undef, undef, undef, undef, undef], defers := [] }) ?assign ?body ?done ?stop
              case assign =>
                intro l x W K hK
                gi_wp2
                exact hK
              case body =>
                rintro l pre ⟨xi, xb⟩ W ⟨⟨v, hv, hrow, -⟩, hb1, hb3, hB⟩ hlt9
                have hs0 := impl_TurnHeights.st_bound (pre.map (·.2)) ([], 0) (Int.le_refl _)
                obtain ⟨sl, sr, hs⟩ : ∃ sl sr, impl_TurnHeights.st pre = (sl, sr) := ⟨_, _, rfl⟩
                rw [show (pre.map (·.2)).foldl impl_TurnHeights.stp ([], 0) = (sl, sr) from hs, List.length_map] at hs0
                obtain ⟨n1, n2, n3⟩ := hs0
                have n4 : sl.length ≤ 40 := by have : sl.length ≤ 0 + pre.length := n1; omega
                have n5 : sr ≤ 40 := by have : sr ≤ 0 + (pre.length : Int) := n3; omega
                have n6 : 0 ≤ sr := n2
                rw [hs] at hrow hb1
                dsimp only at hrow hb1
                have hsn := impl_TurnHeights.st_snoc pre (xi, xb)
                rw [hs] at hsn
                have hwsz := hb3.lt
                have hvb := own_base hrow
                have HLT := Aside0.mk hlt9
                clear n1 n2 n3 hs hlt9
                cases xb with
                | true =>
                  have hsn2 : impl_TurnHeights.st (pre ++ [(xi, true)]) = (sl, sr + 1) := hsn
                  have HSN := Aside0.mk hsn2
                  clear hsn hsn2
                  have c1 := hb1.cell
                  have f1 := hb1.frozen
                  gi_wp2
                  refine ⟨(KeepsOthers.setCell _ _ _).from _, ?_, ?_⟩
                  · intro a v9 hC hv9
                    refine (impl_TurnHeights.cell_same (Below.heap_setCell _ _ _ _ ?_)).trans hv9
                    rcases hC with rfl | ⟨_, hC⟩
                    · show wr.heap.size + 2 ≠ w.heap.size + 1
                      omega
                    · exact hC
                  · dsimp only
                    rw [HSN.out]
                    exact ⟨⟨v, hv.kept (grownBy_setCell' W (w.heap.size + 1) _) (by simp; omega), hrow.kept (grownBy_setCell' W (w.heap.size + 1) _) (.inr fun e => by have := hvb _ e; omega), trivial⟩, hb1.set _, hb3.kept (grownBy_setCell' W (w.heap.size + 1) _) (by simp; omega), hB.setCell (p := ⟨w.heap.size + 1, 0, none⟩) (by simp) _⟩
                | false =>
                  have hsn2 : impl_TurnHeights.st (pre ++ [(xi, false)]) = (sl ++ [(sl.length : Int) - sr], sr) := hsn
                  have HSN := Aside0.mk hsn2
                  clear hsn hsn2
                  obtain ⟨Av, cv, rfl⟩ := own_slice hrow
                  have c1 := hb1.cell
                  have c8 := hv.cell
                  have f8 := hv.frozen
                  gi_wp2_with (gi_at_builtin; refine wpListIn_append_own _ rfl _ _ 22 rfl wr.heap.size 3 i3 (.int .i64 0) 1 8 Try.underlying22 gi3 gz0 gz1 gz2 rfl (by decide) _ _ _ rfl (hrow.alloc _) ⟨W.heap.size, 0, none⟩ 1 1 [.int .i64 ((sl.length : Int) - sr)] rfl rfl (cell_one_new _ _ _) (by simp [Value.oneCell']) (by simp only [maxLen]; omega) (by omega) (by simp; omega) ?_; intro v' w1 hown' hgrow _; obtain ⟨g', cap', rfl⟩ := ownsRow_succ hown'; obtain ⟨hv1, hv2, hr2, hk2, hb2⟩ := hv.appended (by decide) hrow (by omega) (by omega) hown' hgrow; have hb3' := ((hb3.alloc _).kept hgrow (hb3.not_row (by decide) hrow)).kept (grownBy_setCell' w1 (wr.heap.size + 1) (.slice (some ⟨g', 0, none⟩) (sl.length + 1) cap')) (by simp); have hc1 := hv1.cell; have hf1 := hv1.frozen; clear hown' hgrow c1 c8 f8)
                  refine ⟨hk2.from _, ?_, ?_⟩
                  · intro a v9 hC hv9
                    rcases hC with rfl | ⟨hC, _⟩
                    · exact hb3'.cell.trans (hb3.cell.symm.trans hv9)
                    · exact (hb2.cell hC).trans hv9
                  · dsimp only
                    rw [HSN.out]
                    refine ⟨⟨_, hv2, by simpa using hr2⟩, (hb2.block _ hbl).trans hb1, hb3', hB.trans (hb2.mono (by have := HT.bel.size; omega))⟩
              case done =>
                rintro D ys W hD hys ⟨⟨v, hv, hrow, -⟩, hb1, hb3, hB⟩ hK
                have hres : (impl_TurnHeights.st ys).1 = impl_TurnHeights.res l0 := by
                  unfold impl_TurnHeights.st impl_TurnHeights.res impl_TurnHeights.path
                  rw [hys, backBoolI_map2, HUP.out]
                  show (us.reverse.foldl impl_TurnHeights.stp ([], 0)).1 = ((u ++ List.replicate ((l0.length : Int) - (r : Int)).toNat false).reverse.foldl impl_TurnHeights.stp ([], 0)).1
                  rw [show ((l0.length : Int) - (r : Int)).toNat = q by have := HM.out; omega, ← HUS.out]
                rw [hres] at hrow
                have c8 := hv.cell
                gi_wp2
                refine ⟨by simp, .inl ⟨_, _, rfl, run_takeDeferred hK, ?_⟩⟩
                exact ⟨_, (by simp [results, Try.results26, go_sem] : _ = _), v, rfl, Kd.R_of_own (own_weaken (ownsRow_putObj hrow _ hK rfl) HT.bel.size) (fun _ _ => trivial), hB.trans (belowK_b (w := w) (Nat.le_refl _) W D _ _ (by have := HT.bel.size; omega) hK rfl rfl)⟩
              case stop =>
                rintro D c pre W _ _ h _
                exact h.elim
    next => cases h2
end

end Go.Proofs.Ytmollfkakalagaa.PFnExactTurnHeights
