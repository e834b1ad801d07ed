/- BounceOf of the program and of the reference agree on every list of numbers, and the argument stays as it was. -/
import Derived.Test.YtljggaekcojpnaaWSized
import Derived.Test.YtljggaekcojpnaaPFnExactBounceOfx
namespace Go.Proofs.Ytljggaekcojpnaa.PrintWords
open Go.ChangeShapes Go.WideShapes
/-- The word by the name that the printed row asks for. -/
theorem sized_ints {H : Type} {enc : TypeId × Value → H} {P : Program} {W : World} {base : Nat} {spare : Nat → Bool} {held : Bool} {t e : TypeId} {k : IntKind} {a : Option Addr} {len cap : Nat} {d : DataW H} {ps : List MemPlace} {ts : List TypeId} {ds : List (DataW H)} {j : Nat}
    (hsz : (DataW.weightsEach P ts ds).all (· ≤ reachBytes) = true) (ht : ts[j]? = some t) (hd : ds[j]? = some d) (hu : P.underlying t = some (.slice e)) (he : P.underlying e = some (.int k)) (hc : P.cellsOf e = 1) {B : Nat} (hB : P.bytesOf e = B)
    (h : DataW.Trod enc P W base spare held t (.slice a len cap) d ps) : len * B ≤ 140737488351232 :=
  Go.Proofs.YtljggaekcojpnaaW.PrintWords.sized_ints hsz ht hd hu he hc hB h
end Go.Proofs.Ytljggaekcojpnaa.PrintWords
namespace Go.Proofs.Ytljggaekcojpnaa.Pure
open Go.RowKit Go.Proofs.Ytljggaekcojpnaa.PFnExactBounceOf Go.Proofs.YtljggaekcojpnaaW.PrintWords Go.Proofs.YtljggaekcojpnaaW.PrintLast
set_option linter.unusedVariables false
set_option linter.unusedSimpArgs false

theorem w64 {x : Int} (h0 : -9223372036854775808 ≤ x) (h1 : x ≤ 9223372036854775807) : wrap64 x = x := by
  unfold wrap64
  omega
theorem rd_mid (p : List Int) (h : Int) (t : List Int) : rd (p ++ h :: t) (p.length : Int) = h := by
  unfold rd
  simp
theorem rd_nat (l : List Int) (i : Nat) : rd l (i : Int) = l.getD i 0 := by
  unfold rd
  simp
theorem Ev.ret {α : Type} {g : Nat → Option α} {r : α} (h : ∀ k, g (k + 1) = some r) : Ev g r :=
  Ev.step (f := fun _ => some r) h (Ev.now r)

theorem toIntS_l0 : ∀ (t p : List Int), p.length + t.length ≤ 35184372088832 →
    Ev (fun k => laws_toIntS.l0 k (p ++ t) (p ++ List.replicate t.length 0) (p.length : Int)) (p ++ t)
  | [], p, _ => by
    refine Ev.ret fun k => ?_
    rw [laws_toIntS.l0, if_neg (by simp)]
    simp
  | h :: t, p, hn => by
    have hn' : p.length + t.length + 1 ≤ 35184372088832 := by simpa [Nat.add_assoc] using hn
    have ih := toIntS_l0 t (p ++ [h]) (by simp; omega)
    have e1 : (p ++ [h]) ++ t = p ++ h :: t := by simp
    have e2 : (((p ++ [h]).length : Nat) : Int) = (p.length : Int) + 1 := by simp
    rw [e1, e2] at ih
    refine Ev.step (fun k => ?_) ih
    show laws_toIntS.l0 (k + 1) (p ++ h :: t) (p ++ List.replicate (h :: t).length 0) (p.length : Int) = _
    rw [laws_toIntS.l0, if_pos (by simp; omega), if_pos (by omega), if_pos (by simp; omega), rd_mid, w64 (by omega) (by omega)]
    congr 1
    simp [List.replicate_succ, List.set_append]
theorem ev_toIntS (l : List Int) (h : l.length ≤ 35184372088832) : Ev (fun k => laws_toIntS.f k l) l := by
  have z := toIntS_l0 l [] (by simpa using h)
  refine Ev.congr (fun k => ?_) z
  show laws_toIntS.f k l = _
  rw [laws_toIntS.f, if_pos (by omega), if_pos (by simpa using h)]
  simp

theorem eqIntS_l0 : ∀ (t p : List Int), p.length + t.length ≤ 35184372088832 →
    Ev (fun k => laws_eqIntS.l0 k (p ++ t) (p ++ t) (p.length : Int)) true
  | [], p, _ => by
    refine Ev.ret fun k => ?_
    rw [laws_eqIntS.l0, if_neg (by simp)]
  | h :: t, p, hn => by
    have hn' : p.length + t.length + 1 ≤ 35184372088832 := by simpa [Nat.add_assoc] using hn
    have ih := eqIntS_l0 t (p ++ [h]) (by simp; omega)
    have e1 : (p ++ [h]) ++ t = p ++ h :: t := by simp
    have e2 : (((p ++ [h]).length : Nat) : Int) = (p.length : Int) + 1 := by simp
    rw [e1, e2] at ih
    refine Ev.step (fun k => ?_) ih
    show laws_eqIntS.l0 (k + 1) (p ++ h :: t) (p ++ h :: t) (p.length : Int) = _
    rw [laws_eqIntS.l0, if_pos (by simp; omega), if_pos (by omega), if_pos (by simp; omega), rd_mid, if_pos rfl, w64 (by omega) (by omega)]
theorem ev_eqIntS (l : List Int) (h : l.length ≤ 35184372088832) : Ev (fun k => laws_eqIntS.f k l l) true := by
  have z := eqIntS_l0 l [] (by simpa using h)
  refine Ev.congr (fun k => ?_) z
  show laws_eqIntS.f k l l = _
  rw [laws_eqIntS.f, if_pos rfl]
  rfl

/-- Heights that go on behind a last one. -/
def hts (last : Int) : List Int → Bool
  | [] => true
  | h :: t => decide (0 ≤ h) && decide (h ≤ last + 1) && hts h t
theorem hts_mem : ∀ (l : List Int) (last : Int), hts last l = true → ∀ x ∈ l, 0 ≤ x ∧ x ≤ last + l.length
  | [], _, _, x, hx => by cases hx
  | h :: t, last, hh, x, hx => by
    simp only [hts, Bool.and_eq_true, decide_eq_true_eq] at hh
    have e : ((h :: t).length : Int) = (t.length : Int) + 1 := by simp
    rw [e]
    cases hx with
    | head => omega
    | tail _ hx =>
      have := hts_mem t h hh.2 x hx
      omega
theorem rd_prev (q : List Int) (x : Int) (t : List Int) : rd ((q ++ [x]) ++ t) (((q ++ [x]).length : Int) - 1) = x := by
  unfold rd
  have : (((q ++ [x]).length : Int) - 1).toNat = q.length := by simp
  rw [this]
  simp

theorem ev_spec_l1In (a b c : Int) : spec_l1In.f a b c = some (decide (b ≤ a) && decide (a ≤ c)) := by
  unfold spec_l1In.f
  by_cases h : a ≥ b
  · rw [if_pos h]; simp [show b ≤ a from h]
  · rw [if_neg h]; simp [show ¬ b ≤ a from h]
theorem spec_waHeights_l0 : ∀ (t p : List Int) (last : Int), -1 ≤ last → last ≤ p.length → p.length + t.length ≤ 8 →
    Ev (fun k => spec_waHeights.l0 k last (p ++ t) ((p ++ t).length : Int) (p.length : Int)) (hts last t)
  | [], p, last, _, _, _ => by
    refine Ev.ret fun k => ?_
    rw [spec_waHeights.l0, if_neg (by simp)]
    rfl
  | h :: t, p, last, h0, h1, hn => by
    have hn' : p.length + t.length + 1 ≤ 8 := by simpa [Nat.add_assoc] using hn
    have e1 : (p ++ [h]) ++ t = p ++ h :: t := by simp
    have e2 : (((p ++ [h]).length : Nat) : Int) = (p.length : Int) + 1 := by simp
    by_cases c : 0 ≤ h ∧ h ≤ last + 1
    · have ih := spec_waHeights_l0 t (p ++ [h]) h (by omega) (by omega) (by simp; omega)
      rw [e1, e2] at ih
      have er : hts last (h :: t) = hts h t := by simp [hts, c]
      rw [er]
      refine Ev.step (fun k => ?_) ih
      show spec_waHeights.l0 (k + 1) last (p ++ h :: t) ((p ++ h :: t).length : Int) (p.length : Int) = _
      rw [spec_waHeights.l0, if_pos (by simp; omega), if_pos (by omega), if_pos (by simp; omega), rd_mid, ev_spec_l1In, w64 (by omega) (by omega), w64 (by omega) (by omega)]
      simp [c]
    · have er : hts last (h :: t) = false := by
        simp only [hts, Bool.and_eq_false_iff, decide_eq_false_iff_not]
        omega
      rw [er]
      refine Ev.ret fun k => ?_
      rw [spec_waHeights.l0, if_pos (by simp; omega), if_pos (by omega), if_pos (by simp; omega), rd_mid, ev_spec_l1In, w64 (by omega) (by omega)]
      have : (decide (0 ≤ h) && decide (h ≤ last + 1)) = false := by
        simp only [Bool.and_eq_false_iff, decide_eq_false_iff_not]
        omega
      rw [this]
      rfl
theorem ev_spec_waHeights (l : List Int) : Ev (fun k => spec_waHeights.f k l) (decide (l.length ≤ 8) && hts (-1) l) := by
  by_cases c : l.length ≤ 8
  · have z := spec_waHeights_l0 l [] (-1) (by omega) (by simp) (by simpa using c)
    rw [decide_eq_true c, Bool.true_and]
    refine Ev.congr (fun k => ?_) z
    show spec_waHeights.f k l = _
    rw [spec_waHeights.f, if_neg (by omega)]
    rfl
  · rw [decide_eq_false c, Bool.false_and]
    refine Ev.congr (fun k => ?_) (Ev.now false)
    show spec_waHeights.f k l = _
    rw [spec_waHeights.f, if_pos (by omega)]

theorem ev_impl_between (a b c : Int) : impl_between.f a b c = some (decide (b ≤ a) && decide (a ≤ c)) := by
  unfold impl_between.f
  by_cases h : a ≥ b
  · rw [if_pos h]; simp [show b ≤ a from h]
  · rw [if_neg h]; simp [show ¬ b ≤ a from h]
theorem ev_impl_isCars (a : Int) : impl_isCars.f a = some (decide (0 ≤ a) && decide (a ≤ 8)) := by
  unfold impl_isCars.f
  rw [ev_impl_between]
  rfl

theorem impl_areHeights_l0 : ∀ (t p : List Int) (last : Int), p.length + t.length ≤ 35184372088832 →
    (p = [] ∧ last = -1 ∨ ∃ q, p = q ++ [last]) → -1 ≤ last → last < p.length →
    Ev (fun k => impl_areHeights.l0 k (p ++ t) (p ++ t) ((p ++ t).length : Int) (p.length : Int)) (hts last t && decide ((p ++ t).length ≤ 8))
  | [], p, last, _, _, _, _ => by
    refine Ev.ret fun k => ?_
    rw [impl_areHeights.l0, if_neg (by simp), ev_impl_isCars]
    simp only [hts, Bool.true_and, Option.bind_some, Option.some.injEq]
    rw [Bool.eq_iff_iff]
    simp only [Bool.and_eq_true, decide_eq_true_eq]
    omega
  | h :: t, p, last, hn, hp, h0, h1 => by
    have hn' : p.length + t.length + 1 ≤ 35184372088832 := by simpa [Nat.add_assoc] using hn
    have e1 : (p ++ [h]) ++ t = p ++ h :: t := by simp
    have e2 : (((p ++ [h]).length : Nat) : Int) = (p.length : Int) + 1 := by simp
    by_cases c : 0 ≤ h ∧ h ≤ last + 1
    · have ih := impl_areHeights_l0 t (p ++ [h]) h (by simp; omega) (.inr ⟨p, rfl⟩) (by omega) (by omega)
      rw [e1, e2] at ih
      have er : hts last (h :: t) = hts h t := by simp [hts, c]
      rw [er]
      refine Ev.step (fun k => ?_) ih
      show impl_areHeights.l0 (k + 1) (p ++ h :: t) (p ++ h :: t) ((p ++ h :: t).length : Int) (p.length : Int) = _
      rw [impl_areHeights.l0, if_pos (by simp; omega), if_pos (by omega), if_pos (by simp; omega), rd_mid, if_neg (by omega)]
      rcases hp with ⟨rfl, rfl⟩ | ⟨q, rfl⟩
      · rw [if_pos (by simp), if_neg (by omega), if_neg (by simp), w64 (by simp) (by simp)]
      · have hl : ((q ++ [last]).length : Int) = (q.length : Int) + 1 := by simp
        have ep : wrap64 (((q ++ [last]).length : Int) - 1) = ((q ++ [last]).length : Int) - 1 := w64 (by omega) (by omega)
        rw [if_neg (by omega), if_pos (by omega), ep, if_pos (by omega), if_pos (by simp; omega), rd_prev, w64 (by omega) (by omega), if_neg (by omega), w64 (by omega) (by omega)]
    · have er : hts last (h :: t) = false := by
        simp only [hts, Bool.and_eq_false_iff, decide_eq_false_iff_not]
        omega
      rw [er, Bool.false_and]
      refine Ev.ret fun k => ?_
      rw [impl_areHeights.l0, if_pos (by simp; omega), if_pos (by omega), if_pos (by simp; omega), rd_mid]
      by_cases c0 : h < 0
      · rw [if_pos c0]
      · rw [if_neg c0]
        rcases hp with ⟨rfl, rfl⟩ | ⟨q, rfl⟩
        · rw [if_pos (by simp), if_pos (by omega)]
        · have hl : ((q ++ [last]).length : Int) = (q.length : Int) + 1 := by simp
          have ep : wrap64 (((q ++ [last]).length : Int) - 1) = ((q ++ [last]).length : Int) - 1 := w64 (by omega) (by omega)
          rw [if_neg (by omega), if_pos (by omega), ep, if_pos (by omega), if_pos (by simp; omega), rd_prev, w64 (by omega) (by omega), if_pos (by omega)]
theorem ev_impl_areHeights (l : List Int) (hl : l.length ≤ 35184372088832) : Ev (fun k => impl_areHeights.f k l) (decide (l.length ≤ 8) && hts (-1) l) := by
  have z := impl_areHeights_l0 l [] (-1) (by simpa using hl) (.inl ⟨rfl, rfl⟩) (by omega) (by simp)
  rw [Bool.and_comm]
  exact z

def bnc (k : Int) : Int → List Int → Int
  | _, [] => 0
  | i, h :: t => (if i - h ≤ k then 1 else 0) + bnc k (i + 1) t
theorem bnc_range (k : Int) : ∀ (t : List Int) (i : Int), 0 ≤ bnc k i t ∧ bnc k i t ≤ t.length
  | [], i => by simp [bnc]
  | h :: t, i => by
    have := bnc_range k t (i + 1)
    have e : ((h :: t).length : Int) = (t.length : Int) + 1 := by simp
    simp only [bnc]
    rw [e]
    split <;> omega
theorem spec_BounceOf_l1 (sum k : Int) (r : Int × Bool) : ∀ (t p : List Int) (next : Int), p.length + t.length ≤ 8 → (∀ x ∈ t, 0 ≤ x ∧ x ≤ 8) → 0 ≤ next → next ≤ p.length → 
    Ev (fun kk => spec_BounceOf.l0 kk (p ++ t) ((p ++ t).length : Int) (wrap64 (sum + (((p ++ t).length : Int) - (next + bnc k p.length t)))) (next + bnc k p.length t)) r →
    Ev (fun kk => spec_BounceOf.l1 kk (p ++ t) ((p ++ t).length : Int) sum k next (p.length : Int)) r
  | [], p, next, hn, ht, h0, h1, h => by
    have hn' : p.length ≤ 8 := by simpa using hn
    have hz : wrap64 (((p ++ ([] : List Int)).length : Int) - next) = ((p ++ ([] : List Int)).length : Int) - next := w64 (by simp; omega) (by simp; omega)
    refine Ev.step (fun kk => ?_) h
    show spec_BounceOf.l1 (kk + 1) (p ++ []) ((p ++ []).length : Int) sum k next (p.length : Int) = _
    rw [spec_BounceOf.l1, if_neg (by simp), hz]
    simp [bnc]
  | a :: t, p, next, hn, ht, h0, h1, h => by
    have hn' : p.length + t.length + 1 ≤ 8 := by simpa [Nat.add_assoc] using hn
    have e1 : (p ++ [a]) ++ t = p ++ a :: t := by simp
    have e2 : (((p ++ [a]).length : Nat) : Int) = (p.length : Int) + 1 := by simp
    have ha := ht a (by simp)
    have hb := bnc_range k t ((p.length : Int) + 1)
    by_cases c : (p.length : Int) - a ≤ k
    · have ih := spec_BounceOf_l1 sum k r t (p ++ [a]) (next + 1) (by simp; omega) (fun x hx => ht x (by simp [hx])) (by omega) (by omega)
      rw [e1, e2] at ih
      have eb : next + bnc k p.length (a :: t) = next + 1 + bnc k (p.length + 1) t := by simp only [bnc, if_pos c]; omega
      rw [eb] at h
      refine Ev.step (fun kk => ?_) (ih h)
      show spec_BounceOf.l1 (kk + 1) (p ++ a :: t) ((p ++ a :: t).length : Int) sum k next (p.length : Int) = _
      rw [spec_BounceOf.l1, if_pos (by simp; omega), if_pos (by omega), if_pos (by simp; omega), rd_mid, w64 (by omega) (by omega), if_pos c, w64 (by omega) (by omega), w64 (by omega) (by omega)]
    · have ih := spec_BounceOf_l1 sum k r t (p ++ [a]) next (by simp; omega) (fun x hx => ht x (by simp [hx])) (by omega) (by omega)
      rw [e1, e2] at ih
      have eb : next + bnc k p.length (a :: t) = next + bnc k (p.length + 1) t := by simp only [bnc, if_neg c]; omega
      rw [eb] at h
      refine Ev.step (fun kk => ?_) (ih h)
      show spec_BounceOf.l1 (kk + 1) (p ++ a :: t) ((p ++ a :: t).length : Int) sum k next (p.length : Int) = _
      rw [spec_BounceOf.l1, if_pos (by simp; omega), if_pos (by omega), if_pos (by simp; omega), rd_mid, w64 (by omega) (by omega), if_neg c, w64 (by omega) (by omega)]
theorem impl_BounceOf_l1 (sum k : Int) (r : Int × Bool) : ∀ (t p : List Int) (next : Int), p.length + t.length ≤ 8 → (∀ x ∈ t, 0 ≤ x ∧ x ≤ 8) → 0 ≤ next → next ≤ p.length → 
    Ev (fun kk => impl_BounceOf.l0 kk (p ++ t) (wrap64 (sum + (((p ++ t).length : Int) - (next + bnc k p.length t)))) ((p ++ t).length : Int) (next + bnc k p.length t)) r →
    Ev (fun kk => impl_BounceOf.l1 kk (p ++ t) sum ((p ++ t).length : Int) k next (p.length : Int)) r
  | [], p, next, hn, ht, h0, h1, h => by
    have hn' : p.length ≤ 8 := by simpa using hn
    have hz : wrap64 (((p ++ ([] : List Int)).length : Int) - next) = ((p ++ ([] : List Int)).length : Int) - next := w64 (by simp; omega) (by simp; omega)
    refine Ev.step (fun kk => ?_) h
    show impl_BounceOf.l1 (kk + 1) (p ++ []) sum ((p ++ []).length : Int) k next (p.length : Int) = _
    rw [impl_BounceOf.l1, if_neg (by simp), hz]
    simp [bnc]
  | a :: t, p, next, hn, ht, h0, h1, h => by
    have hn' : p.length + t.length + 1 ≤ 8 := by simpa [Nat.add_assoc] using hn
    have e1 : (p ++ [a]) ++ t = p ++ a :: t := by simp
    have e2 : (((p ++ [a]).length : Nat) : Int) = (p.length : Int) + 1 := by simp
    have ha := ht a (by simp)
    have hb := bnc_range k t ((p.length : Int) + 1)
    by_cases c : (p.length : Int) - a ≤ k
    · have ih := impl_BounceOf_l1 sum k r t (p ++ [a]) (next + 1) (by simp; omega) (fun x hx => ht x (by simp [hx])) (by omega) (by omega)
      rw [e1, e2] at ih
      have eb : next + bnc k p.length (a :: t) = next + 1 + bnc k (p.length + 1) t := by simp only [bnc, if_pos c]; omega
      rw [eb] at h
      refine Ev.step (fun kk => ?_) (ih h)
      show impl_BounceOf.l1 (kk + 1) (p ++ a :: t) sum ((p ++ a :: t).length : Int) k next (p.length : Int) = _
      rw [impl_BounceOf.l1, if_pos (by simp; omega), if_pos (by omega), if_pos (by simp; omega), rd_mid, w64 (by omega) (by omega), if_pos c, w64 (by omega) (by omega), w64 (by omega) (by omega)]
    · have ih := impl_BounceOf_l1 sum k r t (p ++ [a]) next (by simp; omega) (fun x hx => ht x (by simp [hx])) (by omega) (by omega)
      rw [e1, e2] at ih
      have eb : next + bnc k p.length (a :: t) = next + bnc k (p.length + 1) t := by simp only [bnc, if_neg c]; omega
      rw [eb] at h
      refine Ev.step (fun kk => ?_) (ih h)
      show impl_BounceOf.l1 (kk + 1) (p ++ a :: t) sum ((p ++ a :: t).length : Int) k next (p.length : Int) = _
      rw [impl_BounceOf.l1, if_pos (by simp; omega), if_pos (by omega), if_pos (by simp; omega), rd_mid, w64 (by omega) (by omega), if_neg c, w64 (by omega) (by omega)]
theorem bounce_l0 (l : List Int) (hl : l.length ≤ 8) (hm : ∀ x ∈ l, 0 ≤ x ∧ x ≤ 8) : ∀ (d k : Nat) (sum : Int), k + d = l.length →
    ∃ r : Int × Bool, r.2 = true ∧ Ev (fun kk => spec_BounceOf.l0 kk l (l.length : Int) sum (k : Int)) r ∧ Ev (fun kk => impl_BounceOf.l0 kk l sum (l.length : Int) (k : Int)) r := by
  intro d
  induction d using Nat.strongRecOn with
  | _ d ih =>
    intro k sum hk
    rcases Nat.eq_zero_or_pos d with rfl | hd
    · refine ⟨(sum, true), rfl, Ev.ret fun kk => ?_, Ev.ret fun kk => ?_⟩
      · rw [spec_BounceOf.l0, if_neg (by omega)]
      · rw [impl_BounceOf.l0, if_neg (by omega)]
    · have hsp : l.take k ++ l.drop k = l := List.take_append_drop k l
      have hp : (l.take k).length = k := by simp; omega
      obtain ⟨a, t, hdr⟩ : ∃ a t, l.drop k = a :: t := by
        cases hc : l.drop k with
        | nil => have := congrArg List.length hc; simp at this; omega
        | cons a t => exact ⟨a, t, rfl⟩
      have ha : a ∈ l := by rw [← hsp, hdr]; simp
      have h0 := hm a ha
      have hlen : t.length + 1 + k = l.length := by have := congrArg List.length hsp; rw [hdr] at this; simp at this; omega
      have hb := bnc_range (k : Int) t ((k : Int) + 1)
      have hbe : bnc (k : Int) (k : Int) (a :: t) = 1 + bnc k (k + 1) t := by simp only [bnc]; rw [if_pos (by omega)]
      obtain ⟨n', hn'⟩ : ∃ n' : Nat, (n' : Int) = (k : Int) + bnc (k : Int) (k : Int) (a :: t) := ⟨((k : Int) + bnc (k : Int) (k : Int) (a :: t)).toNat, by omega⟩
      obtain ⟨r, hr, x, y⟩ := ih (l.length - n') (by omega) n' (wrap64 (sum + ((l.length : Int) - n'))) (by omega)
      have hm' : ∀ x ∈ a :: t, 0 ≤ x ∧ x ≤ 8 := fun x hx => hm x (by rw [← hsp, hdr]; exact List.mem_append_right _ hx)
      have A := spec_BounceOf_l1 sum (k : Int) r (a :: t) (l.take k) (k : Int) (by rw [hp]; simp; omega) hm' (by omega) (by omega)
      have B := impl_BounceOf_l1 sum (k : Int) r (a :: t) (l.take k) (k : Int) (by rw [hp]; simp; omega) hm' (by omega) (by omega)
      rw [← hdr, hsp, hp, hdr, ← hn'] at A B
      refine ⟨r, hr, Ev.step (fun kk => ?_) (A x), Ev.step (fun kk => ?_) (B y)⟩
      · show spec_BounceOf.l0 (kk + 1) l (l.length : Int) sum (k : Int) = _
        rw [spec_BounceOf.l0, if_pos (by omega)]
      · show impl_BounceOf.l0 (kk + 1) l sum (l.length : Int) (k : Int) = _
        rw [impl_BounceOf.l0, if_pos (by omega)]
theorem bounce_both (l : List Int) (hl : l.length ≤ 35184372088832) : ∃ r : Int × Bool, Ev (fun k => spec_BounceOf.f k l) r ∧ Ev (fun k => impl_BounceOf.f k l) r := by
  cases c : decide (l.length ≤ 8) && hts (-1) l with
  | false =>
    refine ⟨(0, false), ?_, ?_⟩
    · refine Ev.congr (fun k => rfl) (Ev.bind (ev_spec_waHeights l) ?_)
      rw [c]; exact Ev.now _
    · refine Ev.congr (fun k => rfl) (Ev.bind (ev_impl_areHeights l hl) ?_)
      rw [c]; exact Ev.now _
  | true =>
    have c8 : l.length ≤ 8 ∧ hts (-1) l = true := by
      simpa only [Bool.and_eq_true, decide_eq_true_eq] using c
    have hm : ∀ x ∈ l, 0 ≤ x ∧ x ≤ 8 := fun x hx => by have := hts_mem l (-1) c8.2 x hx; omega
    obtain ⟨r, _, a, b⟩ := bounce_l0 l c8.1 hm l.length 0 0 (by omega)
    refine ⟨r, ?_, ?_⟩
    · refine Ev.congr (fun k => rfl) (Ev.bind (ev_spec_waHeights l) ?_)
      rw [c]; exact a
    · refine Ev.congr (fun k => rfl) (Ev.bind (ev_impl_areHeights l hl) ?_)
      rw [c]; exact b

theorem FnExactBounceOf : laws_FnExactBounceOf.Pure := by
  intro l _ _ _
  by_cases c : (l.length : Int) > 1048576
  · refine ⟨0, ?_⟩
    rw [laws_FnExactBounceOf.f, if_pos c]
  · refine Ev.rounds ?_
    have hl : l.length ≤ 35184372088832 := by omega
    obtain ⟨r, h1, h2⟩ := bounce_both l hl
    refine Ev.congr (fun k => by rw [laws_FnExactBounceOf.f, if_neg c]) ?_
    refine Ev.bind (ev_toIntS l hl) ?_
    refine Ev.bind h1 ?_
    refine Ev.bind (ev_toIntS l hl) ?_
    refine Ev.bind h2 ?_
    refine Ev.congr (fun k => by rw [if_pos rfl, bne_self_eq_false]) ?_
    refine Ev.step (f := fun k => (laws_toIntS.f k l).bind fun t => (laws_eqIntS.f k l t).bind fun u => if u = true then some true else some false) (fun k => ?_) ?_
    · rw [laws_FnExactBounceOf.j0, if_neg (by simp)]
    refine Ev.bind (ev_toIntS l hl) ?_
    refine Ev.bind (ev_eqIntS l hl) ?_
    exact Ev.now true

end Go.Proofs.Ytljggaekcojpnaa.Pure
