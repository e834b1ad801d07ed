/- FirstLabels of the program and of the reference agree on every list, the argument stays, and nothing is shared. -/
import Derived.Test.YtkmojdkkiolalaaWSized
import Derived.Test.YtkmojdkkiolalaaPFnExactFirstLabelsx
namespace Go.Proofs.Ytkmojdkkiolalaa.PrintWords
open Go.ChangeShapes Go.WideShapes
/-- The word by the name that the printed row asks for. -/
theorem sized_ints {H : Type} {enc : TypeId × Value → H} {P : Program} {W : World} {base : Nat} {spare : Nat → Bool} {held : Bool} {t e : TypeId} {k : IntKind} {a : Option Addr} {len cap : Nat} {d : DataW H} {ps : List MemPlace} {ts : List TypeId} {ds : List (DataW H)} {j : Nat}
    (hsz : (DataW.weightsEach P ts ds).all (· ≤ reachBytes) = true) (ht : ts[j]? = some t) (hd : ds[j]? = some d) (hu : P.underlying t = some (.slice e)) (he : P.underlying e = some (.int k)) (hc : P.cellsOf e = 1) {B : Nat} (hB : P.bytesOf e = B)
    (h : DataW.Trod enc P W base spare held t (.slice a len cap) d ps) : len * B ≤ 140737488351232 :=
  Go.Proofs.YtkmojdkkiolalaaW.PrintWords.sized_ints hsz ht hd hu he hc hB h
end Go.Proofs.Ytkmojdkkiolalaa.PrintWords
namespace Go.Proofs.Ytkmojdkkiolalaa.Pure
open Go.RowKit Go.Proofs.Ytkmojdkkiolalaa.PFnExactFirstLabels Go.Proofs.YtkmojdkkiolalaaW.PrintWords Go.Proofs.YtkmojdkkiolalaaW.PrintLast
set_option linter.unusedVariables false
set_option linter.unusedSimpArgs false

theorem w64 {x : Int} (h0 : -9223372036854775808 ≤ x) (h1 : x ≤ 9223372036854775807) : wrap64 x = x := by
  unfold wrap64
  omega
theorem rd_mid (p : List Int) (h : Int) (t : List Int) : rd (p ++ h :: t) (p.length : Int) = h := by
  unfold rd
  simp
theorem rd_nat (l : List Int) (i : Nat) : rd l (i : Int) = l.getD i 0 := by
  unfold rd
  simp
theorem Ev.ret {α : Type} {g : Nat → Option α} {r : α} (h : ∀ k, g (k + 1) = some r) : Ev g r :=
  Ev.step (f := fun _ => some r) h (Ev.now r)

theorem toIntS_l0 : ∀ (t p : List Int), p.length + t.length ≤ 35184372088832 →
    Ev (fun k => laws_toIntS.l0 k (p ++ t) (p ++ List.replicate t.length 0) (p.length : Int)) (p ++ t)
  | [], p, _ => by
    refine Ev.ret fun k => ?_
    rw [laws_toIntS.l0, if_neg (by simp)]
    simp
  | h :: t, p, hn => by
    have hn' : p.length + t.length + 1 ≤ 35184372088832 := by simpa [Nat.add_assoc] using hn
    have ih := toIntS_l0 t (p ++ [h]) (by simp; omega)
    have e1 : (p ++ [h]) ++ t = p ++ h :: t := by simp
    have e2 : (((p ++ [h]).length : Nat) : Int) = (p.length : Int) + 1 := by simp
    rw [e1, e2] at ih
    refine Ev.step (fun k => ?_) ih
    show laws_toIntS.l0 (k + 1) (p ++ h :: t) (p ++ List.replicate (h :: t).length 0) (p.length : Int) = _
    rw [laws_toIntS.l0, if_pos (by simp; omega), if_pos (by omega), if_pos (by simp; omega), rd_mid, w64 (by omega) (by omega)]
    congr 1
    simp [List.replicate_succ, List.set_append]
theorem ev_toIntS (l : List Int) (h : l.length ≤ 35184372088832) : Ev (fun k => laws_toIntS.f k l) l := by
  have z := toIntS_l0 l [] (by simpa using h)
  refine Ev.congr (fun k => ?_) z
  show laws_toIntS.f k l = _
  rw [laws_toIntS.f, if_pos (by omega), if_pos (by simpa using h)]
  simp

theorem eqIntS_l0 : ∀ (t p : List Int), p.length + t.length ≤ 35184372088832 →
    Ev (fun k => laws_eqIntS.l0 k (p ++ t) (p ++ t) (p.length : Int)) true
  | [], p, _ => by
    refine Ev.ret fun k => ?_
    rw [laws_eqIntS.l0, if_neg (by simp)]
  | h :: t, p, hn => by
    have hn' : p.length + t.length + 1 ≤ 35184372088832 := by simpa [Nat.add_assoc] using hn
    have ih := eqIntS_l0 t (p ++ [h]) (by simp; omega)
    have e1 : (p ++ [h]) ++ t = p ++ h :: t := by simp
    have e2 : (((p ++ [h]).length : Nat) : Int) = (p.length : Int) + 1 := by simp
    rw [e1, e2] at ih
    refine Ev.step (fun k => ?_) ih
    show laws_eqIntS.l0 (k + 1) (p ++ h :: t) (p ++ h :: t) (p.length : Int) = _
    rw [laws_eqIntS.l0, if_pos (by simp; omega), if_pos (by omega), if_pos (by simp; omega), rd_mid, if_pos rfl, w64 (by omega) (by omega)]
theorem ev_eqIntS (l : List Int) (h : l.length ≤ 35184372088832) : Ev (fun k => laws_eqIntS.f k l l) true := by
  have z := eqIntS_l0 l [] (by simpa using h)
  refine Ev.congr (fun k => ?_) z
  show laws_eqIntS.f k l l = _
  rw [laws_eqIntS.f, if_pos rfl]
  rfl

/-- n numbers from one on. -/
def marks (k : Int) : Nat → List Int
  | 0 => []
  | n + 1 => k :: marks (k + 1) n
theorem marks_length : ∀ (n : Nat) (k : Int), (marks k n).length = n
  | 0, _ => rfl
  | n + 1, k => by simp [marks, marks_length n]
theorem markIntS_l0 : ∀ (t p : List Int) (k : Int), 0 ≤ k → k + t.length ≤ 4611686018427387904 → p.length + t.length ≤ 35184372088832 →
    Ev (fun n => laws_markIntS.l0 n (p ++ t) k (p.length : Int)) (k + t.length, p ++ marks k t.length)
  | [], p, k, _, _, _ => by
    refine Ev.ret fun n => ?_
    rw [laws_markIntS.l0, if_neg (by simp)]
    simp [marks]
  | h :: t, p, k, h0, hk, hn => by
    have hn' : p.length + t.length + 1 ≤ 35184372088832 := by simpa [Nat.add_assoc] using hn
    have hk' : k + (t.length : Int) + 1 ≤ 4611686018427387904 := by simp at hk; omega
    have ih := markIntS_l0 t (p ++ [k]) (k + 1) (by omega) (by omega) (by simp; omega)
    have e1 : (p ++ [k]) ++ t = p ++ k :: t := by simp
    have e2 : (((p ++ [k]).length : Nat) : Int) = (p.length : Int) + 1 := by simp
    rw [e1, e2] at ih
    have e3 : ((k + ((h :: t).length : Int), p ++ marks k (h :: t).length) : Int × List Int) = (k + 1 + (t.length : Int), p ++ [k] ++ marks (k + 1) t.length) := by
      simp [marks]; omega
    rw [e3]
    refine Ev.step (fun n => ?_) ih
    show laws_markIntS.l0 (n + 1) (p ++ h :: t) k (p.length : Int) = _
    rw [laws_markIntS.l0, if_pos (by simp; omega), if_pos (by omega), w64 (by omega) (by omega), w64 (by omega) (by omega)]
    congr 1
    simp [List.set_append]
theorem ev_markIntS (l : List Int) (k : Int) (h0 : 0 ≤ k) (hk : k ≤ 4000000000000000000) (hl : l.length ≤ 35184372088832) : Ev (fun n => laws_markIntS.f n l k) (k + l.length, marks k l.length) :=
  markIntS_l0 l [] k h0 (by omega) (by simpa using hl)
theorem heldIntS_l0 : ∀ (m : Nat) (p : List Int) (k : Int), 0 ≤ k → k + m ≤ 4611686018427387904 → p.length + m ≤ 35184372088832 →
    Ev (fun n => laws_heldIntS.l0 n (p ++ marks k m) k (p.length : Int)) (k + m)
  | 0, p, k, _, _, _ => by
    refine Ev.ret fun n => ?_
    rw [laws_heldIntS.l0, if_neg (by simp [marks])]
    simp
  | m + 1, p, k, h0, hk, hn => by
    have ih := heldIntS_l0 m (p ++ [k]) (k + 1) (by omega) (by omega) (by simp; omega)
    have e1 : (p ++ [k]) ++ marks (k + 1) m = p ++ k :: marks (k + 1) m := by simp
    have e2 : (((p ++ [k]).length : Nat) : Int) = (p.length : Int) + 1 := by simp
    rw [e1, e2] at ih
    have e3 : k + ((m + 1 : Nat) : Int) = k + 1 + (m : Int) := by omega
    rw [e3]
    refine Ev.step (fun n => ?_) ih
    show laws_heldIntS.l0 (n + 1) (p ++ k :: marks (k + 1) m) k (p.length : Int) = _
    rw [laws_heldIntS.l0, if_pos (by simp; omega), if_pos (by omega), rd_mid, if_pos rfl, w64 (by omega) (by omega), w64 (by omega) (by omega)]
theorem ev_heldIntS (k : Int) (m : Nat) (h0 : 0 ≤ k) (hk : k ≤ 4000000000000000000) (hm : m ≤ 35184372088832) : Ev (fun n => laws_heldIntS.f n (marks k m) k) (k + m) :=
  heldIntS_l0 m [] k h0 (by omega) (by simpa using hm)

theorem ev_eqWalk (a b : List Int) (ha : a.length ≤ 35184372088832) (hb : b.length ≤ 35184372088832) : Ev (fun k => laws_eqWalk.f k a b a b) true :=
  Ev.congr (fun k => rfl) (Ev.bind (ev_eqIntS a ha) (Ev.congr (fun k => if_pos rfl) (Ev.bind (ev_eqIntS b hb) (Ev.congr (fun k => if_pos rfl) (Ev.now true)))))
theorem ev_markWalk (a b : List Int) (ha : a.length ≤ 35184372088832) (hb : b.length ≤ 35184372088832) :
    Ev (fun k => laws_markWalk.f k a b 1) ((1 + (a.length : Int)) + (b.length : Int), marks 1 a.length, marks (1 + (a.length : Int)) b.length) :=
  Ev.congr (fun k => rfl) (Ev.bind (ev_markIntS a 1 (by omega) (by omega) ha) (Ev.bind (ev_markIntS b (1 + (a.length : Int)) (by omega) (by omega) hb) (Ev.now _)))
theorem ev_heldWalk (a b : List Int) (ha : a.length ≤ 35184372088832) (hb : b.length ≤ 35184372088832) :
    Ev (fun k => laws_heldWalk.f k (marks 1 a.length) (marks (1 + (a.length : Int)) b.length) 1) ((1 + (a.length : Int)) + (b.length : Int)) := by
  refine Ev.congr (fun k => rfl) (Ev.bind (ev_heldIntS 1 a.length (by omega) (by omega) ha) ?_)
  refine Ev.congr (fun k => by rw [if_neg (by omega)]) ?_
  refine Ev.bind (ev_heldIntS (1 + (a.length : Int)) b.length (by omega) (by omega) hb) ?_
  exact Ev.congr (fun k => by rw [if_neg (by omega)]) (Ev.now _)

/-- Heights that go on behind a last one. -/
def hts (last : Int) : List Int → Bool
  | [] => true
  | h :: t => decide (0 ≤ h) && decide (h ≤ last + 1) && hts h t
theorem hts_mem : ∀ (l : List Int) (last : Int), hts last l = true → ∀ x ∈ l, 0 ≤ x ∧ x ≤ last + l.length
  | [], _, _, x, hx => by cases hx
  | h :: t, last, hh, x, hx => by
    simp only [hts, Bool.and_eq_true, decide_eq_true_eq] at hh
    have e : ((h :: t).length : Int) = (t.length : Int) + 1 := by simp
    rw [e]
    cases hx with
    | head => omega
    | tail _ hx =>
      have := hts_mem t h hh.2 x hx
      omega
theorem rd_prev (q : List Int) (x : Int) (t : List Int) : rd ((q ++ [x]) ++ t) (((q ++ [x]).length : Int) - 1) = x := by
  unfold rd
  have : (((q ++ [x]).length : Int) - 1).toNat = q.length := by simp
  rw [this]
  simp

theorem ev_spec_l1In (a b c : Int) : spec_l1In.f a b c = some (decide (b ≤ a) && decide (a ≤ c)) := by
  unfold spec_l1In.f
  by_cases h : a ≥ b
  · rw [if_pos h]; simp [show b ≤ a from h]
  · rw [if_neg h]; simp [show ¬ b ≤ a from h]

theorem spec_waHeights_l0 : ∀ (t p : List Int) (last : Int), -1 ≤ last → last ≤ p.length → p.length + t.length ≤ 8 →
    Ev (fun k => spec_waHeights.l0 k last (p ++ t) ((p ++ t).length : Int) (p.length : Int)) (hts last t)
  | [], p, last, _, _, _ => by
    refine Ev.ret fun k => ?_
    rw [spec_waHeights.l0, if_neg (by simp)]
    rfl
  | h :: t, p, last, h0, h1, hn => by
    have hn' : p.length + t.length + 1 ≤ 8 := by simpa [Nat.add_assoc] using hn
    have e1 : (p ++ [h]) ++ t = p ++ h :: t := by simp
    have e2 : (((p ++ [h]).length : Nat) : Int) = (p.length : Int) + 1 := by simp
    by_cases c : 0 ≤ h ∧ h ≤ last + 1
    · have ih := spec_waHeights_l0 t (p ++ [h]) h (by omega) (by omega) (by simp; omega)
      rw [e1, e2] at ih
      have er : hts last (h :: t) = hts h t := by simp [hts, c]
      rw [er]
      refine Ev.step (fun k => ?_) ih
      show spec_waHeights.l0 (k + 1) last (p ++ h :: t) ((p ++ h :: t).length : Int) (p.length : Int) = _
      rw [spec_waHeights.l0, if_pos (by simp; omega), if_pos (by omega), if_pos (by simp; omega), rd_mid, ev_spec_l1In, w64 (by omega) (by omega), w64 (by omega) (by omega)]
      simp [c]
    · have er : hts last (h :: t) = false := by
        simp only [hts, Bool.and_eq_false_iff, decide_eq_false_iff_not]
        omega
      rw [er]
      refine Ev.ret fun k => ?_
      rw [spec_waHeights.l0, if_pos (by simp; omega), if_pos (by omega), if_pos (by simp; omega), rd_mid, ev_spec_l1In, w64 (by omega) (by omega)]
      have : (decide (0 ≤ h) && decide (h ≤ last + 1)) = false := by
        simp only [Bool.and_eq_false_iff, decide_eq_false_iff_not]
        omega
      rw [this]
      rfl
theorem ev_spec_waHeights (l : List Int) : Ev (fun k => spec_waHeights.f k l) (decide (l.length ≤ 8) && hts (-1) l) := by
  by_cases c : l.length ≤ 8
  · have z := spec_waHeights_l0 l [] (-1) (by omega) (by simp) (by simpa using c)
    rw [decide_eq_true c, Bool.true_and]
    refine Ev.congr (fun k => ?_) z
    show spec_waHeights.f k l = _
    rw [spec_waHeights.f, if_neg (by omega)]
    rfl
  · rw [decide_eq_false c, Bool.false_and]
    refine Ev.congr (fun k => ?_) (Ev.now false)
    show spec_waHeights.f k l = _
    rw [spec_waHeights.f, if_pos (by omega)]

theorem ev_impl_between (a b c : Int) : impl_between.f a b c = some (decide (b ≤ a) && decide (a ≤ c)) := by
  unfold impl_between.f
  by_cases h : a ≥ b
  · rw [if_pos h]; simp [show b ≤ a from h]
  · rw [if_neg h]; simp [show ¬ b ≤ a from h]

theorem ev_impl_isCars (a : Int) : impl_isCars.f a = some (decide (0 ≤ a) && decide (a ≤ 8)) := by
  unfold impl_isCars.f
  rw [ev_impl_between]
  rfl

theorem impl_areHeights_l0 : ∀ (t p : List Int) (last : Int), p.length + t.length ≤ 35184372088832 →
    (p = [] ∧ last = -1 ∨ ∃ q, p = q ++ [last]) → -1 ≤ last → last < p.length →
    Ev (fun k => impl_areHeights.l0 k (p ++ t) (p ++ t) ((p ++ t).length : Int) (p.length : Int)) (hts last t && decide ((p ++ t).length ≤ 8))
  | [], p, last, _, _, _, _ => by
    refine Ev.ret fun k => ?_
    rw [impl_areHeights.l0, if_neg (by simp), ev_impl_isCars]
    simp only [hts, Bool.true_and, Option.bind_some, Option.some.injEq]
    rw [Bool.eq_iff_iff]
    simp only [Bool.and_eq_true, decide_eq_true_eq]
    omega
  | h :: t, p, last, hn, hp, h0, h1 => by
    have hn' : p.length + t.length + 1 ≤ 35184372088832 := by simpa [Nat.add_assoc] using hn
    have e1 : (p ++ [h]) ++ t = p ++ h :: t := by simp
    have e2 : (((p ++ [h]).length : Nat) : Int) = (p.length : Int) + 1 := by simp
    by_cases c : 0 ≤ h ∧ h ≤ last + 1
    · have ih := impl_areHeights_l0 t (p ++ [h]) h (by simp; omega) (.inr ⟨p, rfl⟩) (by omega) (by omega)
      rw [e1, e2] at ih
      have er : hts last (h :: t) = hts h t := by simp [hts, c]
      rw [er]
      refine Ev.step (fun k => ?_) ih
      show impl_areHeights.l0 (k + 1) (p ++ h :: t) (p ++ h :: t) ((p ++ h :: t).length : Int) (p.length : Int) = _
      rw [impl_areHeights.l0, if_pos (by simp; omega), if_pos (by omega), if_pos (by simp; omega), rd_mid, if_neg (by omega)]
      rcases hp with ⟨rfl, rfl⟩ | ⟨q, rfl⟩
      · rw [if_pos (by simp), if_neg (by omega), if_neg (by simp), w64 (by simp) (by simp)]
      · have hl : ((q ++ [last]).length : Int) = (q.length : Int) + 1 := by simp
        have ep : wrap64 (((q ++ [last]).length : Int) - 1) = ((q ++ [last]).length : Int) - 1 := w64 (by omega) (by omega)
        rw [if_neg (by omega), if_pos (by omega), ep, if_pos (by omega), if_pos (by simp; omega), rd_prev, w64 (by omega) (by omega), if_neg (by omega), w64 (by omega) (by omega)]
    · have er : hts last (h :: t) = false := by
        simp only [hts, Bool.and_eq_false_iff, decide_eq_false_iff_not]
        omega
      rw [er, Bool.false_and]
      refine Ev.ret fun k => ?_
      rw [impl_areHeights.l0, if_pos (by simp; omega), if_pos (by omega), if_pos (by simp; omega), rd_mid]
      by_cases c0 : h < 0
      · rw [if_pos c0]
      · rw [if_neg c0]
        rcases hp with ⟨rfl, rfl⟩ | ⟨q, rfl⟩
        · rw [if_pos (by simp), if_pos (by omega)]
        · have hl : ((q ++ [last]).length : Int) = (q.length : Int) + 1 := by simp
          have ep : wrap64 (((q ++ [last]).length : Int) - 1) = ((q ++ [last]).length : Int) - 1 := w64 (by omega) (by omega)
          rw [if_neg (by omega), if_pos (by omega), ep, if_pos (by omega), if_pos (by simp; omega), rd_prev, w64 (by omega) (by omega), if_pos (by omega)]
theorem ev_impl_areHeights (l : List Int) (hl : l.length ≤ 35184372088832) : Ev (fun k => impl_areHeights.f k l) (decide (l.length ≤ 8) && hts (-1) l) := by
  have z := impl_areHeights_l0 l [] (-1) (by simpa using hl) (.inl ⟨rfl, rfl⟩) (by omega) (by simp)
  rw [Bool.and_comm]
  exact z

theorem ev_slices_Clone (l : List Int) (h : l.length < 17592186044416) : slices_Clone_int_int.f l = some l := by
  unfold slices_Clone_int_int.f
  simp only [Option.bind_some]
  rw [if_pos (by simp; omega)]
  simp

theorem ev_spec_l1Own (l : List Int) (h : l.length < 17592186044416) : spec_l1Own.f l = some l := by
  unfold spec_l1Own.f
  simp only [Option.bind_some]
  rw [if_pos (by simp; omega)]
  simp

theorem firstLabels_l0 (l : List Int) (n : Nat) (hn : n ≤ 8) : ∀ (d i : Nat) (out : List Int), i + d = n → out.length ≤ i →
    ∃ r : List Int × List Int × Bool, r.1 = l ∧ r.2.1.length ≤ 35184372088832 ∧ Ev (fun k => spec_FirstLabels.l0 k (n : Int) (i : Int) l out) r ∧ Ev (fun k => impl_FirstLabels.l0 k (n : Int) (i : Int) l out) r
  | 0, i, out, hi, ho => by
    refine ⟨(l, out, true), rfl, by show out.length ≤ _; omega, Ev.ret fun k => ?_, Ev.ret fun k => ?_⟩
    · rw [spec_FirstLabels.l0, if_neg (by omega)]
    · rw [impl_FirstLabels.l0, if_neg (by omega)]
  | d + 1, i, out, hi, ho => by
    obtain ⟨r, h1, h2, h3, h4⟩ := firstLabels_l0 l n hn d (i + 1) (out ++ [(i : Int)]) (by omega) (by simp; omega)
    refine ⟨r, h1, h2, Ev.step (fun k => ?_) h3, Ev.step (fun k => ?_) h4⟩
    · show spec_FirstLabels.l0 (k + 1) (n : Int) (i : Int) l out = _
      rw [spec_FirstLabels.l0, if_pos (by omega), if_pos (by omega), w64 (by omega) (by omega)]
      rfl
    · show impl_FirstLabels.l0 (k + 1) (n : Int) (i : Int) l out = _
      rw [impl_FirstLabels.l0, if_pos (by omega), if_pos (by omega), w64 (by omega) (by omega)]
      rfl
theorem firstLabels_both (l : List Int) (hl : l.length ≤ 35184372088832) : ∃ r : List Int × List Int × Bool, r.1.length ≤ 35184372088832 ∧ r.2.1.length ≤ 35184372088832 ∧ Ev (fun k => spec_FirstLabels.f k l) r ∧ Ev (fun k => impl_FirstLabels.f k l) r := by
  cases c : decide (l.length ≤ 8) && hts (-1) l with
  | false =>
    refine ⟨([], [], false), by simp, by simp, ?_, ?_⟩
    · refine Ev.congr (fun k => rfl) (Ev.bind (ev_spec_waHeights l) ?_)
      rw [c]; exact Ev.now _
    · refine Ev.congr (fun k => rfl) (Ev.bind (ev_impl_areHeights l hl) ?_)
      rw [c]; exact Ev.now _
  | true =>
    have c8 : l.length ≤ 8 ∧ hts (-1) l = true := by
      simpa only [Bool.and_eq_true, decide_eq_true_eq] using c
    obtain ⟨r, h1, h2, a, b⟩ := firstLabels_l0 l l.length c8.1 l.length 0 [] (by omega) (by simp)
    refine ⟨r, by rw [h1]; exact hl, h2, ?_, ?_⟩
    · refine Ev.congr (fun k => rfl) (Ev.bind (ev_spec_waHeights l) ?_)
      rw [c]
      exact Ev.congr (fun k => by rw [if_pos rfl, ev_spec_l1Own l (by omega), Option.bind_some]; rfl) a
    · refine Ev.congr (fun k => rfl) (Ev.bind (ev_impl_areHeights l hl) ?_)
      rw [c]
      exact Ev.congr (fun k => by rw [if_pos rfl, ev_slices_Clone l (by omega), Option.bind_some]; rfl) b

theorem FnExactFirstLabels : laws_FnExactFirstLabels.Pure := by
  intro l0 _ _ _
  by_cases c0 : (l0.length : Int) > 1048576
  · refine ⟨0, ?_⟩
    rw [laws_FnExactFirstLabels.f, if_pos c0]
  have hl0 : l0.length ≤ 35184372088832 := by omega
  obtain ⟨r, hr1, hr2, hs, hi⟩ := firstLabels_both l0 hl0
  refine Ev.rounds ?_
  refine Ev.congr (fun k => by rw [laws_FnExactFirstLabels.f, if_neg c0]) ?_
  refine Ev.bind (ev_toIntS l0 hl0) ?_
  refine Ev.bind (hs) ?_
  refine Ev.bind (ev_toIntS l0 hl0) ?_
  refine Ev.bind (hi) ?_
  refine Ev.bind (ev_eqWalk r.1 r.2.1 hr1 hr2) ?_
  refine Ev.congr (fun k => by rw [if_pos rfl, bne_self_eq_false]) ?_
  refine Ev.step (fun k => by rw [laws_FnExactFirstLabels.j0, if_neg (by simp)]) ?_
  refine Ev.bind (ev_toIntS l0 hl0) ?_
  refine Ev.bind (ev_eqIntS l0 hl0) ?_
  refine Ev.congr (fun k => by rw [if_pos rfl]) ?_
  refine Ev.bind (ev_markIntS l0 (1) (by omega) (by omega) hl0) ?_
  refine Ev.congr (fun k => by rw [if_neg (by omega)]) ?_
  refine Ev.bind (ev_eqWalk r.1 r.2.1 hr1 hr2) ?_
  refine Ev.congr (fun k => by rw [if_pos rfl, bne_self_eq_false]) ?_
  refine Ev.step (fun k => by rw [laws_FnExactFirstLabels.j1, if_neg (by simp)]) ?_
  refine Ev.bind (ev_markWalk r.1 r.2.1 hr1 hr2) ?_
  refine Ev.bind (ev_heldWalk r.1 r.2.1 hr1 hr2) ?_
  refine Ev.congr (fun k => by rw [if_neg (by omega), if_pos rfl]) ?_
  refine Ev.bind (ev_toIntS l0 hl0) ?_
  refine Ev.bind (hi) ?_
  refine Ev.bind (ev_eqWalk r.1 r.2.1 hr1 hr2) ?_
  refine Ev.congr (fun k => by rw [if_pos rfl, bne_self_eq_false]) ?_
  refine Ev.step (fun k => by rw [laws_FnExactFirstLabels.j2, if_neg (by simp)]) ?_
  refine Ev.bind (ev_heldWalk r.1 r.2.1 hr1 hr2) ?_
  refine Ev.congr (fun k => by rw [if_neg (by omega), if_pos rfl]) ?_
  exact Ev.now true

end Go.Proofs.Ytkmojdkkiolalaa.Pure
