/- TurnHeights of the program and of the reference agree on every list, the argument stays, and nothing is shared. -/
import Derived.Test.YtmollfkakalagaaWSized
import Derived.Test.YtmollfkakalagaaPFnExactTurnHeightsx
namespace Go.Proofs.Ytmollfkakalagaa.PrintWords
open Go.ChangeShapes Go.WideShapes
/-- The word by the name that the printed row asks for. -/
theorem sized_ints {H : Type} {enc : TypeId × Value → H} {P : Program} {W : World} {base : Nat} {spare : Nat → Bool} {held : Bool} {t e : TypeId} {k : IntKind} {a : Option Addr} {len cap : Nat} {d : DataW H} {ps : List MemPlace} {ts : List TypeId} {ds : List (DataW H)} {j : Nat}
    (hsz : (DataW.weightsEach P ts ds).all (· ≤ reachBytes) = true) (ht : ts[j]? = some t) (hd : ds[j]? = some d) (hu : P.underlying t = some (.slice e)) (he : P.underlying e = some (.int k)) (hc : P.cellsOf e = 1) {B : Nat} (hB : P.bytesOf e = B)
    (h : DataW.Trod enc P W base spare held t (.slice a len cap) d ps) : len * B ≤ 140737488351232 :=
  Go.Proofs.YtmollfkakalagaaW.PrintWords.sized_ints hsz ht hd hu he hc hB h
end Go.Proofs.Ytmollfkakalagaa.PrintWords
namespace Go.Proofs.Ytmollfkakalagaa.Pure
open Go.RowKit Go.Proofs.Ytmollfkakalagaa.PFnExactTurnHeights Go.Proofs.YtmollfkakalagaaW.PrintWords Go.Proofs.YtmollfkakalagaaW.PrintLast
set_option linter.unusedVariables false
set_option linter.unusedSimpArgs false

theorem w64 {x : Int} (h0 : -9223372036854775808 ≤ x) (h1 : x ≤ 9223372036854775807) : wrap64 x = x := by
  unfold wrap64
  omega
theorem rd_mid (p : List Int) (h : Int) (t : List Int) : rd (p ++ h :: t) (p.length : Int) = h := by
  unfold rd
  simp
theorem rd_nat (l : List Int) (i : Nat) : rd l (i : Int) = l.getD i 0 := by
  unfold rd
  simp
theorem Ev.ret {α : Type} {g : Nat → Option α} {r : α} (h : ∀ k, g (k + 1) = some r) : Ev g r :=
  Ev.step (f := fun _ => some r) h (Ev.now r)

theorem toIntS_l0 : ∀ (t p : List Int), p.length + t.length ≤ 35184372088832 →
    Ev (fun k => laws_toIntS.l0 k (p ++ t) (p ++ List.replicate t.length 0) (p.length : Int)) (p ++ t)
  | [], p, _ => by
    refine Ev.ret fun k => ?_
    rw [laws_toIntS.l0, if_neg (by simp)]
    simp
  | h :: t, p, hn => by
    have hn' : p.length + t.length + 1 ≤ 35184372088832 := by simpa [Nat.add_assoc] using hn
    have ih := toIntS_l0 t (p ++ [h]) (by simp; omega)
    have e1 : (p ++ [h]) ++ t = p ++ h :: t := by simp
    have e2 : (((p ++ [h]).length : Nat) : Int) = (p.length : Int) + 1 := by simp
    rw [e1, e2] at ih
    refine Ev.step (fun k => ?_) ih
    show laws_toIntS.l0 (k + 1) (p ++ h :: t) (p ++ List.replicate (h :: t).length 0) (p.length : Int) = _
    rw [laws_toIntS.l0, if_pos (by simp; omega), if_pos (by omega), if_pos (by simp; omega), rd_mid, w64 (by omega) (by omega)]
    congr 1
    simp [List.replicate_succ, List.set_append]
theorem ev_toIntS (l : List Int) (h : l.length ≤ 35184372088832) : Ev (fun k => laws_toIntS.f k l) l := by
  have z := toIntS_l0 l [] (by simpa using h)
  refine Ev.congr (fun k => ?_) z
  show laws_toIntS.f k l = _
  rw [laws_toIntS.f, if_pos (by omega), if_pos (by simpa using h)]
  simp

theorem eqIntS_l0 : ∀ (t p : List Int), p.length + t.length ≤ 35184372088832 →
    Ev (fun k => laws_eqIntS.l0 k (p ++ t) (p ++ t) (p.length : Int)) true
  | [], p, _ => by
    refine Ev.ret fun k => ?_
    rw [laws_eqIntS.l0, if_neg (by simp)]
  | h :: t, p, hn => by
    have hn' : p.length + t.length + 1 ≤ 35184372088832 := by simpa [Nat.add_assoc] using hn
    have ih := eqIntS_l0 t (p ++ [h]) (by simp; omega)
    have e1 : (p ++ [h]) ++ t = p ++ h :: t := by simp
    have e2 : (((p ++ [h]).length : Nat) : Int) = (p.length : Int) + 1 := by simp
    rw [e1, e2] at ih
    refine Ev.step (fun k => ?_) ih
    show laws_eqIntS.l0 (k + 1) (p ++ h :: t) (p ++ h :: t) (p.length : Int) = _
    rw [laws_eqIntS.l0, if_pos (by simp; omega), if_pos (by omega), if_pos (by simp; omega), rd_mid, if_pos rfl, w64 (by omega) (by omega)]
theorem ev_eqIntS (l : List Int) (h : l.length ≤ 35184372088832) : Ev (fun k => laws_eqIntS.f k l l) true := by
  have z := eqIntS_l0 l [] (by simpa using h)
  refine Ev.congr (fun k => ?_) z
  show laws_eqIntS.f k l l = _
  rw [laws_eqIntS.f, if_pos rfl]
  rfl

/-- n numbers from one on. -/
def marks (k : Int) : Nat → List Int
  | 0 => []
  | n + 1 => k :: marks (k + 1) n
theorem marks_length : ∀ (n : Nat) (k : Int), (marks k n).length = n
  | 0, _ => rfl
  | n + 1, k => by simp [marks, marks_length n]
theorem markIntS_l0 : ∀ (t p : List Int) (k : Int), 0 ≤ k → k + t.length ≤ 4611686018427387904 → p.length + t.length ≤ 35184372088832 →
    Ev (fun n => laws_markIntS.l0 n (p ++ t) k (p.length : Int)) (k + t.length, p ++ marks k t.length)
  | [], p, k, _, _, _ => by
    refine Ev.ret fun n => ?_
    rw [laws_markIntS.l0, if_neg (by simp)]
    simp [marks]
  | h :: t, p, k, h0, hk, hn => by
    have hn' : p.length + t.length + 1 ≤ 35184372088832 := by simpa [Nat.add_assoc] using hn
    have hk' : k + (t.length : Int) + 1 ≤ 4611686018427387904 := by simp at hk; omega
    have ih := markIntS_l0 t (p ++ [k]) (k + 1) (by omega) (by omega) (by simp; omega)
    have e1 : (p ++ [k]) ++ t = p ++ k :: t := by simp
    have e2 : (((p ++ [k]).length : Nat) : Int) = (p.length : Int) + 1 := by simp
    rw [e1, e2] at ih
    have e3 : ((k + ((h :: t).length : Int), p ++ marks k (h :: t).length) : Int × List Int) = (k + 1 + (t.length : Int), p ++ [k] ++ marks (k + 1) t.length) := by
      simp [marks]; omega
    rw [e3]
    refine Ev.step (fun n => ?_) ih
    show laws_markIntS.l0 (n + 1) (p ++ h :: t) k (p.length : Int) = _
    rw [laws_markIntS.l0, if_pos (by simp; omega), if_pos (by omega), w64 (by omega) (by omega), w64 (by omega) (by omega)]
    congr 1
    simp [List.set_append]
theorem ev_markIntS (l : List Int) (k : Int) (h0 : 0 ≤ k) (hk : k ≤ 4000000000000000000) (hl : l.length ≤ 35184372088832) : Ev (fun n => laws_markIntS.f n l k) (k + l.length, marks k l.length) :=
  markIntS_l0 l [] k h0 (by omega) (by simpa using hl)
theorem heldIntS_l0 : ∀ (m : Nat) (p : List Int) (k : Int), 0 ≤ k → k + m ≤ 4611686018427387904 → p.length + m ≤ 35184372088832 →
    Ev (fun n => laws_heldIntS.l0 n (p ++ marks k m) k (p.length : Int)) (k + m)
  | 0, p, k, _, _, _ => by
    refine Ev.ret fun n => ?_
    rw [laws_heldIntS.l0, if_neg (by simp [marks])]
    simp
  | m + 1, p, k, h0, hk, hn => by
    have ih := heldIntS_l0 m (p ++ [k]) (k + 1) (by omega) (by omega) (by simp; omega)
    have e1 : (p ++ [k]) ++ marks (k + 1) m = p ++ k :: marks (k + 1) m := by simp
    have e2 : (((p ++ [k]).length : Nat) : Int) = (p.length : Int) + 1 := by simp
    rw [e1, e2] at ih
    have e3 : k + ((m + 1 : Nat) : Int) = k + 1 + (m : Int) := by omega
    rw [e3]
    refine Ev.step (fun n => ?_) ih
    show laws_heldIntS.l0 (n + 1) (p ++ k :: marks (k + 1) m) k (p.length : Int) = _
    rw [laws_heldIntS.l0, if_pos (by simp; omega), if_pos (by omega), rd_mid, if_pos rfl, w64 (by omega) (by omega), w64 (by omega) (by omega)]
theorem ev_heldIntS (k : Int) (m : Nat) (h0 : 0 ≤ k) (hk : k ≤ 4000000000000000000) (hm : m ≤ 35184372088832) : Ev (fun n => laws_heldIntS.f n (marks k m) k) (k + m) :=
  heldIntS_l0 m [] k h0 (by omega) (by simpa using hm)

/-- Heights that go on behind a last one. -/
def hts (last : Int) : List Int → Bool
  | [] => true
  | h :: t => decide (0 ≤ h) && decide (h ≤ last + 1) && hts h t
theorem hts_mem : ∀ (l : List Int) (last : Int), hts last l = true → ∀ x ∈ l, 0 ≤ x ∧ x ≤ last + l.length
  | [], _, _, x, hx => by cases hx
  | h :: t, last, hh, x, hx => by
    simp only [hts, Bool.and_eq_true, decide_eq_true_eq] at hh
    have e : ((h :: t).length : Int) = (t.length : Int) + 1 := by simp
    rw [e]
    cases hx with
    | head => omega
    | tail _ hx =>
      have := hts_mem t h hh.2 x hx
      omega
theorem rd_prev (q : List Int) (x : Int) (t : List Int) : rd ((q ++ [x]) ++ t) (((q ++ [x]).length : Int) - 1) = x := by
  unfold rd
  have : (((q ++ [x]).length : Int) - 1).toNat = q.length := by simp
  rw [this]
  simp

theorem ev_spec_l1In (a b c : Int) : spec_l1In.f a b c = some (decide (b ≤ a) && decide (a ≤ c)) := by
  unfold spec_l1In.f
  by_cases h : a ≥ b
  · rw [if_pos h]; simp [show b ≤ a from h]
  · rw [if_neg h]; simp [show ¬ b ≤ a from h]

theorem spec_waHeights_l0 : ∀ (t p : List Int) (last : Int), -1 ≤ last → last ≤ p.length → p.length + t.length ≤ 8 →
    Ev (fun k => spec_waHeights.l0 k last (p ++ t) ((p ++ t).length : Int) (p.length : Int)) (hts last t)
  | [], p, last, _, _, _ => by
    refine Ev.ret fun k => ?_
    rw [spec_waHeights.l0, if_neg (by simp)]
    rfl
  | h :: t, p, last, h0, h1, hn => by
    have hn' : p.length + t.length + 1 ≤ 8 := by simpa [Nat.add_assoc] using hn
    have e1 : (p ++ [h]) ++ t = p ++ h :: t := by simp
    have e2 : (((p ++ [h]).length : Nat) : Int) = (p.length : Int) + 1 := by simp
    by_cases c : 0 ≤ h ∧ h ≤ last + 1
    · have ih := spec_waHeights_l0 t (p ++ [h]) h (by omega) (by omega) (by simp; omega)
      rw [e1, e2] at ih
      have er : hts last (h :: t) = hts h t := by simp [hts, c]
      rw [er]
      refine Ev.step (fun k => ?_) ih
      show spec_waHeights.l0 (k + 1) last (p ++ h :: t) ((p ++ h :: t).length : Int) (p.length : Int) = _
      rw [spec_waHeights.l0, if_pos (by simp; omega), if_pos (by omega), if_pos (by simp; omega), rd_mid, ev_spec_l1In, w64 (by omega) (by omega), w64 (by omega) (by omega)]
      simp [c]
    · have er : hts last (h :: t) = false := by
        simp only [hts, Bool.and_eq_false_iff, decide_eq_false_iff_not]
        omega
      rw [er]
      refine Ev.ret fun k => ?_
      rw [spec_waHeights.l0, if_pos (by simp; omega), if_pos (by omega), if_pos (by simp; omega), rd_mid, ev_spec_l1In, w64 (by omega) (by omega)]
      have : (decide (0 ≤ h) && decide (h ≤ last + 1)) = false := by
        simp only [Bool.and_eq_false_iff, decide_eq_false_iff_not]
        omega
      rw [this]
      rfl
theorem ev_spec_waHeights (l : List Int) : Ev (fun k => spec_waHeights.f k l) (decide (l.length ≤ 8) && hts (-1) l) := by
  by_cases c : l.length ≤ 8
  · have z := spec_waHeights_l0 l [] (-1) (by omega) (by simp) (by simpa using c)
    rw [decide_eq_true c, Bool.true_and]
    refine Ev.congr (fun k => ?_) z
    show spec_waHeights.f k l = _
    rw [spec_waHeights.f, if_neg (by omega)]
    rfl
  · rw [decide_eq_false c, Bool.false_and]
    refine Ev.congr (fun k => ?_) (Ev.now false)
    show spec_waHeights.f k l = _
    rw [spec_waHeights.f, if_pos (by omega)]

theorem ev_impl_between (a b c : Int) : impl_between.f a b c = some (decide (b ≤ a) && decide (a ≤ c)) := by
  unfold impl_between.f
  by_cases h : a ≥ b
  · rw [if_pos h]; simp [show b ≤ a from h]
  · rw [if_neg h]; simp [show ¬ b ≤ a from h]

theorem ev_impl_isCars (a : Int) : impl_isCars.f a = some (decide (0 ≤ a) && decide (a ≤ 8)) := by
  unfold impl_isCars.f
  rw [ev_impl_between]
  rfl

theorem impl_areHeights_l0 : ∀ (t p : List Int) (last : Int), p.length + t.length ≤ 35184372088832 →
    (p = [] ∧ last = -1 ∨ ∃ q, p = q ++ [last]) → -1 ≤ last → last < p.length →
    Ev (fun k => impl_areHeights.l0 k (p ++ t) (p ++ t) ((p ++ t).length : Int) (p.length : Int)) (hts last t && decide ((p ++ t).length ≤ 8))
  | [], p, last, _, _, _, _ => by
    refine Ev.ret fun k => ?_
    rw [impl_areHeights.l0, if_neg (by simp), ev_impl_isCars]
    simp only [hts, Bool.true_and, Option.bind_some, Option.some.injEq]
    rw [Bool.eq_iff_iff]
    simp only [Bool.and_eq_true, decide_eq_true_eq]
    omega
  | h :: t, p, last, hn, hp, h0, h1 => by
    have hn' : p.length + t.length + 1 ≤ 35184372088832 := by simpa [Nat.add_assoc] using hn
    have e1 : (p ++ [h]) ++ t = p ++ h :: t := by simp
    have e2 : (((p ++ [h]).length : Nat) : Int) = (p.length : Int) + 1 := by simp
    by_cases c : 0 ≤ h ∧ h ≤ last + 1
    · have ih := impl_areHeights_l0 t (p ++ [h]) h (by simp; omega) (.inr ⟨p, rfl⟩) (by omega) (by omega)
      rw [e1, e2] at ih
      have er : hts last (h :: t) = hts h t := by simp [hts, c]
      rw [er]
      refine Ev.step (fun k => ?_) ih
      show impl_areHeights.l0 (k + 1) (p ++ h :: t) (p ++ h :: t) ((p ++ h :: t).length : Int) (p.length : Int) = _
      rw [impl_areHeights.l0, if_pos (by simp; omega), if_pos (by omega), if_pos (by simp; omega), rd_mid, if_neg (by omega)]
      rcases hp with ⟨rfl, rfl⟩ | ⟨q, rfl⟩
      · rw [if_pos (by simp), if_neg (by omega), if_neg (by simp), w64 (by simp) (by simp)]
      · have hl : ((q ++ [last]).length : Int) = (q.length : Int) + 1 := by simp
        have ep : wrap64 (((q ++ [last]).length : Int) - 1) = ((q ++ [last]).length : Int) - 1 := w64 (by omega) (by omega)
        rw [if_neg (by omega), if_pos (by omega), ep, if_pos (by omega), if_pos (by simp; omega), rd_prev, w64 (by omega) (by omega), if_neg (by omega), w64 (by omega) (by omega)]
    · have er : hts last (h :: t) = false := by
        simp only [hts, Bool.and_eq_false_iff, decide_eq_false_iff_not]
        omega
      rw [er, Bool.false_and]
      refine Ev.ret fun k => ?_
      rw [impl_areHeights.l0, if_pos (by simp; omega), if_pos (by omega), if_pos (by simp; omega), rd_mid]
      by_cases c0 : h < 0
      · rw [if_pos c0]
      · rw [if_neg c0]
        rcases hp with ⟨rfl, rfl⟩ | ⟨q, rfl⟩
        · rw [if_pos (by simp), if_pos (by omega)]
        · have hl : ((q ++ [last]).length : Int) = (q.length : Int) + 1 := by simp
          have ep : wrap64 (((q ++ [last]).length : Int) - 1) = ((q ++ [last]).length : Int) - 1 := w64 (by omega) (by omega)
          rw [if_neg (by omega), if_pos (by omega), ep, if_pos (by omega), if_pos (by simp; omega), rd_prev, w64 (by omega) (by omega), if_pos (by omega)]
theorem ev_impl_areHeights (l : List Int) (hl : l.length ≤ 35184372088832) : Ev (fun k => impl_areHeights.f k l) (decide (l.length ≤ 8) && hts (-1) l) := by
  have z := impl_areHeights_l0 l [] (-1) (by simpa using hl) (.inl ⟨rfl, rfl⟩) (by omega) (by simp)
  rw [Bool.and_comm]
  exact z

/-- One step of a walk along a list: what stands behind the place. -/
theorem len_snoc (p : List Int) (h : Int) : (((p ++ [h]).length : Nat) : Int) = (p.length : Int) + 1 := by simp
theorem app_snoc (p : List Int) (h : Int) (t : List Int) : (p ++ [h]) ++ t = p ++ h :: t := by simp
theorem len_mid (p : List Int) (h : Int) (t : List Int) : ((p ++ h :: t).length : Int) = (p.length : Int) + t.length + 1 := by simp; omega

theorem ups_bound : ∀ (t : List Int) (i : Int) (u : List Bool) (r : Int), 0 ≤ i → 0 ≤ r → r ≤ i → (u.length : Int) = i + r → (∀ h ∈ t, 0 ≤ h) →
    0 ≤ (impl_TurnHeights.ups t i u r).2 ∧ (impl_TurnHeights.ups t i u r).2 ≤ i + t.length ∧ ((impl_TurnHeights.ups t i u r).1.length : Int) = i + t.length + (impl_TurnHeights.ups t i u r).2
  | [], i, u, r, h0, h1, h2, h3, _ => by
    simp only [impl_TurnHeights.ups, List.length_nil]
    omega
  | h :: t, i, u, r, h0, h1, h2, h3, hh => by
    have hx := hh h (by simp)
    have ih := ups_bound t (i + 1) (u ++ List.replicate (i - h - r).toNat false ++ [true]) (r + ((i - h - r).toNat : Int)) (by omega) (by omega) (by omega) (by simp; omega) (fun x hx => hh x (by simp [hx]))
    have e : ((h :: t).length : Int) = (t.length : Int) + 1 := by simp
    rw [impl_TurnHeights.ups, e]
    omega
theorem path_length (l : List Int) (hh : ∀ h ∈ l, 0 ≤ h) : (impl_TurnHeights.path l).length = l.length + l.length := by
  have h := ups_bound l 0 [] 0 (by omega) (by omega) (by omega) (by simp) hh
  unfold impl_TurnHeights.path
  rw [List.length_append, List.length_replicate]
  omega
theorem waPath_l1 (l : List Int) (i h n : Int) (hi : 0 ≤ i) (hi8 : i ≤ 100) (h0 : 0 ≤ h) (h8 : h ≤ 100) (R : List Bool) : ∀ (d : Nat) (u : List Bool) (r : Int), (i - h - r).toNat = d → 0 ≤ r → r ≤ 100 → u.length + d ≤ 1000 →
    Ev (fun k => spec_waPath.l0 k l (u ++ List.replicate d false ++ [true]) (r + d) l n (i + 1)) R → Ev (fun k => spec_waPath.l1 k l u r i h l n i) R
  | 0, u, r, hd, hr, hr2, hu, H => by
    have e : u ++ List.replicate 0 false ++ [true] = u ++ [true] := by simp
    rw [e, show r + ((0 : Nat) : Int) = r by omega] at H
    refine Ev.step (fun k => ?_) H
    show spec_waPath.l1 (k + 1) l u r i h l n i = _
    rw [spec_waPath.l1, w64 (x := i - h) (by omega) (by omega), if_neg (by omega), if_pos (by omega), w64 (by omega) (by omega)]
  | d + 1, u, r, hd, hr, hr2, hu, H => by
    have e : u ++ List.replicate (d + 1) false ++ [true] = (u ++ [false]) ++ List.replicate d false ++ [true] := by simp [List.replicate_succ]
    rw [e, show r + ((d + 1 : Nat) : Int) = (r + 1) + (d : Int) by omega] at H
    have ih := waPath_l1 l i h n hi hi8 h0 h8 R d (u ++ [false]) (r + 1) (by omega) (by omega) (by omega) (by simp; omega) H
    refine Ev.step (fun k => ?_) ih
    show spec_waPath.l1 (k + 1) l u r i h l n i = _
    rw [spec_waPath.l1, w64 (x := i - h) (by omega) (by omega), if_pos (by omega), if_pos (by omega), w64 (by omega) (by omega)]
theorem waPath_l2 (l : List Int) (h8 : l.length ≤ 100) : ∀ (d : Nat) (u : List Bool) (r : Int), ((l.length : Int) - r).toNat = d → 0 ≤ r → r ≤ 100 → u.length + d ≤ 1000 → Ev (fun k => spec_waPath.l2 k l u r) (u ++ List.replicate d false)
  | 0, u, r, hd, hr, hr2, hu => by
    refine Ev.ret fun k => ?_
    rw [spec_waPath.l2, if_neg (by omega)]
    simp
  | d + 1, u, r, hd, hr, hr2, hu => by
    have e : u ++ List.replicate (d + 1) false = (u ++ [false]) ++ List.replicate d false := by simp [List.replicate_succ]
    rw [e]
    refine Ev.step (fun k => ?_) (waPath_l2 l h8 d (u ++ [false]) (r + 1) (by omega) (by omega) (by omega) (by simp; omega))
    show spec_waPath.l2 (k + 1) l u r = _
    rw [spec_waPath.l2, if_pos (by omega), if_pos (by omega), w64 (by omega) (by omega)]
theorem waPath_l0 (l : List Int) (h8 : l.length ≤ 8) (hh : ∀ h ∈ l, 0 ≤ h ∧ h ≤ 8) : ∀ (t p : List Int) (u : List Bool) (r : Int), p ++ t = l → 0 ≤ r → r ≤ p.length → (u.length : Int) = p.length + r →
    Ev (fun k => spec_waPath.l0 k l u r l (l.length : Int) (p.length : Int)) ((impl_TurnHeights.ups t p.length u r).1 ++ List.replicate ((l.length : Int) - (impl_TurnHeights.ups t p.length u r).2).toNat false)
  | [], p, u, r, hp, h0, h1, hu => by
    rw [List.append_nil] at hp
    subst hp
    rw [impl_TurnHeights.ups]
    exact Ev.step (fun k => by rw [spec_waPath.l0, if_neg (by omega)]) (waPath_l2 p (by omega) _ u r rfl h0 (by omega) (by omega))
  | h :: t, p, u, r, hp, h0, h1, hu => by
    have hlen : (l.length : Int) = (p.length : Int) + t.length + 1 := by rw [← hp]; simp; omega
    have hx : rd l (p.length : Int) = h := by rw [← hp]; exact rd_mid p h t
    obtain ⟨g0, g1⟩ := hh h (by rw [← hp]; simp)
    have ih := waPath_l0 l h8 hh t (p ++ [h]) (u ++ List.replicate ((p.length : Int) - h - r).toNat false ++ [true]) (r + (((p.length : Int) - h - r).toNat : Int)) (by rw [← hp]; simp) (by omega) (by simp; omega) (by simp; omega)
    rw [len_snoc p h] at ih
    rw [impl_TurnHeights.ups]
    refine Ev.step (fun k => ?_) (waPath_l1 l (p.length : Int) h (l.length : Int) (by omega) (by omega) g0 (by omega) _ ((p.length : Int) - h - r).toNat u r rfl h0 (by omega) (by omega) ih)
    show spec_waPath.l0 (k + 1) l u r l (l.length : Int) (p.length : Int) = _
    rw [spec_waPath.l0, if_pos (by omega), if_pos (by omega), if_pos (by omega), hx]
theorem ev_spec_waPath (l : List Int) (h8 : l.length ≤ 8) (hh : ∀ h ∈ l, 0 ≤ h ∧ h ≤ 8) : Ev (fun k => spec_waPath.f k l) (impl_TurnHeights.path l) :=
  waPath_l0 l h8 hh l [] [] 0 rfl (by omega) (by simp) (by simp)
theorem spec_TurnHeights_l0 (P : List Bool) (hP : P.length ≤ 100) : ∀ (d : Nat) (out : List Int) (r : Int), d ≤ P.length → out.length + d ≤ 1000 → 0 ≤ r → r + d ≤ 1000 →
    Ev (fun k => spec_TurnHeights.l0 k P out r ((d : Int) - 1)) (((P.take d).reverse.foldl impl_TurnHeights.stp (out, r)).1, true)
  | 0, out, r, hd, ho, h0, h1 => by
    refine Ev.ret fun k => ?_
    rw [spec_TurnHeights.l0, if_neg (by omega)]
    simp
  | d + 1, out, r, hd, ho, h0, h1 => by
    have e : (P.take (d + 1)).reverse = P[d] :: (P.take d).reverse := by
      rw [List.take_succ_eq_append_getElem (by omega), List.reverse_append]
      rfl
    have er : rdOf false P (d : Int) = P[d] := by
      unfold rdOf
      rw [Int.toNat_natCast, List.getD_eq_getElem?_getD, List.getElem?_eq_getElem (by omega)]
      rfl
    have ed : ((d + 1 : Nat) : Int) - 1 = (d : Int) := by omega
    rw [e, List.foldl_cons, ed]
    by_cases c : P[d] = true
    · have es : impl_TurnHeights.stp (out, r) P[d] = (out, r + 1) := by unfold impl_TurnHeights.stp; rw [if_pos c]
      rw [es]
      refine Ev.step (fun k => ?_) (spec_TurnHeights_l0 P hP d out (r + 1) (by omega) (by omega) (by omega) (by omega))
      show spec_TurnHeights.l0 (k + 1) P out r (d : Int) = _
      rw [spec_TurnHeights.l0, if_pos (by omega), if_pos (by omega), if_pos (by omega), er, if_pos c, w64 (by omega) (by omega), w64 (by omega) (by omega)]
    · have es : impl_TurnHeights.stp (out, r) P[d] = (out ++ [(out.length : Int) - r], r) := by unfold impl_TurnHeights.stp; rw [if_neg c]
      rw [es]
      refine Ev.step (fun k => ?_) (spec_TurnHeights_l0 P hP d (out ++ [(out.length : Int) - r]) r (by omega) (by simp; omega) (by omega) (by omega))
      show spec_TurnHeights.l0 (k + 1) P out r (d : Int) = _
      rw [spec_TurnHeights.l0, if_pos (by omega), if_pos (by omega), if_pos (by omega), er, if_neg c, if_pos (by omega), w64 (by omega) (by omega), w64 (by omega) (by omega)]
/-- What TurnHeights answers. -/
def turnR (l : List Int) : List Int × Bool := if (decide (l.length ≤ 8) && hts (-1) l) = true then (impl_TurnHeights.res l, true) else ([], false)
theorem hts_small (l : List Int) (h : (decide (l.length ≤ 8) && hts (-1) l) = true) : l.length ≤ 8 ∧ ∀ x ∈ l, 0 ≤ x ∧ x ≤ 8 := by
  rw [Bool.and_eq_true, decide_eq_true_eq] at h
  refine ⟨h.1, fun x hx => ?_⟩
  have := hts_mem l (-1) h.2 x hx
  omega
theorem res_length (l : List Int) (h : (decide (l.length ≤ 8) && hts (-1) l) = true) : (impl_TurnHeights.res l).length ≤ 100 := by
  obtain ⟨h1, h2⟩ := hts_small l h
  have hp := path_length l (fun x hx => (h2 x hx).1)
  have := (impl_TurnHeights.st_bound (impl_TurnHeights.path l).reverse ([], 0) (Int.le_refl _)).1
  rw [List.length_reverse] at this
  unfold impl_TurnHeights.res
  have e : (([], 0) : List Int × Int).1.length = 0 := rfl
  omega
theorem ev_TurnHeights (l : List Int) (hl : l.length ≤ 35184372088832) : Ev (fun k => spec_TurnHeights.f k l) (turnR l) ∧ Ev (fun k => impl_TurnHeights.f k l) (turnR l) := by
  unfold turnR
  have hs := ev_spec_waHeights l
  have hi := ev_impl_areHeights l hl
  cases c : decide (l.length ≤ 8) && hts (-1) l with
  | false =>
    rw [c] at hs hi
    rw [if_neg (by simp)]
    refine ⟨?_, ?_⟩
    · exact Ev.congr (fun k => rfl) (Ev.bind hs (Ev.now _))
    · exact Ev.congr (fun k => rfl) (Ev.bind hi (Ev.now _))
  | true =>
    rw [c] at hs hi
    rw [if_pos rfl]
    obtain ⟨h1, h2⟩ := hts_small l c
    have hp := path_length l (fun x hx => (h2 x hx).1)
    refine ⟨?_, ?_⟩
    · refine Ev.congr (fun k => rfl) (Ev.bind hs ?_)
      refine Ev.congr (fun k => by rw [if_pos rfl]) (Ev.bind (ev_spec_waPath l h1 h2) ?_)
      have z := spec_TurnHeights_l0 (impl_TurnHeights.path l) (by omega) (impl_TurnHeights.path l).length [] 0 (Nat.le_refl _) (by simp; omega) (by omega) (by omega)
      rw [List.take_length] at z
      exact Ev.congr (fun k => by rw [w64 (by omega) (by omega)]) z
    · refine Ev.congr (fun k => rfl) (Ev.bind hi ?_)
      exact Ev.congr (fun k => by rw [if_pos rfl, if_pos ⟨h1, h2⟩]) (Ev.now _)

theorem turnHeights_both (l : List Int) (hl : l.length ≤ 35184372088832) : ∃ r : List Int × Bool, r.1.length ≤ 35184372088832 ∧ Ev (fun k => spec_TurnHeights.f k l) r ∧ Ev (fun k => impl_TurnHeights.f k l) r := by
  refine ⟨turnR l, ?_, (ev_TurnHeights l hl).1, (ev_TurnHeights l hl).2⟩
  unfold turnR
  split
  · rename_i c
    have := res_length l c
    show (impl_TurnHeights.res l).length ≤ _
    omega
  · simp

theorem FnExactTurnHeights : laws_FnExactTurnHeights.Pure := by
  intro l0 _ _ _
  by_cases c0 : (l0.length : Int) > 1048576
  · refine ⟨0, ?_⟩
    rw [laws_FnExactTurnHeights.f, if_pos c0]
  have hl0 : l0.length ≤ 35184372088832 := by omega
  obtain ⟨r, hr, hs, hi⟩ := turnHeights_both l0 hl0
  refine Ev.rounds ?_
  refine Ev.congr (fun k => by rw [laws_FnExactTurnHeights.f, if_neg c0]) ?_
  refine Ev.bind (ev_toIntS l0 hl0) ?_
  refine Ev.bind (hs) ?_
  refine Ev.bind (ev_toIntS l0 hl0) ?_
  refine Ev.bind (hi) ?_
  refine Ev.bind (ev_eqIntS r.1 hr) ?_
  refine Ev.congr (fun k => by rw [if_pos rfl, bne_self_eq_false]) ?_
  refine Ev.step (fun k => by rw [laws_FnExactTurnHeights.j0, if_neg (by simp)]) ?_
  refine Ev.bind (ev_toIntS l0 hl0) ?_
  refine Ev.bind (ev_eqIntS l0 hl0) ?_
  refine Ev.congr (fun k => by rw [if_pos rfl]) ?_
  refine Ev.bind (ev_markIntS l0 (1) (by omega) (by omega) hl0) ?_
  refine Ev.congr (fun k => by rw [if_neg (by omega)]) ?_
  refine Ev.bind (ev_eqIntS r.1 hr) ?_
  refine Ev.congr (fun k => by rw [if_pos rfl, bne_self_eq_false]) ?_
  refine Ev.step (fun k => by rw [laws_FnExactTurnHeights.j1, if_neg (by simp)]) ?_
  refine Ev.bind (ev_markIntS r.1 1 (by omega) (by omega) hr) ?_
  refine Ev.bind (ev_heldIntS 1 r.1.length (by omega) (by omega) hr) ?_
  refine Ev.congr (fun k => by rw [if_neg (by omega), if_pos rfl]) ?_
  refine Ev.bind (ev_toIntS l0 hl0) ?_
  refine Ev.bind (hi) ?_
  refine Ev.bind (ev_eqIntS r.1 hr) ?_
  refine Ev.congr (fun k => by rw [if_pos rfl, bne_self_eq_false]) ?_
  refine Ev.step (fun k => by rw [laws_FnExactTurnHeights.j2, if_neg (by simp)]) ?_
  refine Ev.bind (ev_heldIntS 1 r.1.length (by omega) (by omega) hr) ?_
  refine Ev.congr (fun k => by rw [if_neg (by omega), if_pos rfl]) ?_
  exact Ev.now true

end Go.Proofs.Ytmollfkakalagaa.Pure
