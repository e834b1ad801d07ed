/- BlockedCar of the program and of the reference agree on every pair of lists, and the arguments stay. -/
import Derived.Test.YtkmojdkkiolalaaWSized
import Derived.Test.YtkmojdkkiolalaaPFnExactBlockedCarx
namespace Go.Proofs.Ytkmojdkkiolalaa.PrintWords
open Go.ChangeShapes Go.WideShapes
/-- The word by the name that the printed row asks for. -/
theorem sized_ints {H : Type} {enc : TypeId × Value → H} {P : Program} {W : World} {base : Nat} {spare : Nat → Bool} {held : Bool} {t e : TypeId} {k : IntKind} {a : Option Addr} {len cap : Nat} {d : DataW H} {ps : List MemPlace} {ts : List TypeId} {ds : List (DataW H)} {j : Nat}
    (hsz : (DataW.weightsEach P ts ds).all (· ≤ reachBytes) = true) (ht : ts[j]? = some t) (hd : ds[j]? = some d) (hu : P.underlying t = some (.slice e)) (he : P.underlying e = some (.int k)) (hc : P.cellsOf e = 1) {B : Nat} (hB : P.bytesOf e = B)
    (h : DataW.Trod enc P W base spare held t (.slice a len cap) d ps) : len * B ≤ 140737488351232 :=
  Go.Proofs.YtkmojdkkiolalaaW.PrintWords.sized_ints hsz ht hd hu he hc hB h
end Go.Proofs.Ytkmojdkkiolalaa.PrintWords
namespace Go.Proofs.Ytkmojdkkiolalaa.Pure
open Go.RowKit Go.Proofs.Ytkmojdkkiolalaa.PFnExactBlockedCar Go.Proofs.YtkmojdkkiolalaaW.PrintWords Go.Proofs.YtkmojdkkiolalaaW.PrintLast
set_option linter.unusedVariables false
set_option linter.unusedSimpArgs false

theorem w64 {x : Int} (h0 : -9223372036854775808 ≤ x) (h1 : x ≤ 9223372036854775807) : wrap64 x = x := by
  unfold wrap64
  omega
theorem rd_mid (p : List Int) (h : Int) (t : List Int) : rd (p ++ h :: t) (p.length : Int) = h := by
  unfold rd
  simp
theorem rd_nat (l : List Int) (i : Nat) : rd l (i : Int) = l.getD i 0 := by
  unfold rd
  simp
theorem Ev.ret {α : Type} {g : Nat → Option α} {r : α} (h : ∀ k, g (k + 1) = some r) : Ev g r :=
  Ev.step (f := fun _ => some r) h (Ev.now r)

theorem toIntS_l0 : ∀ (t p : List Int), p.length + t.length ≤ 35184372088832 →
    Ev (fun k => laws_toIntS.l0 k (p ++ t) (p ++ List.replicate t.length 0) (p.length : Int)) (p ++ t)
  | [], p, _ => by
    refine Ev.ret fun k => ?_
    rw [laws_toIntS.l0, if_neg (by simp)]
    simp
  | h :: t, p, hn => by
    have hn' : p.length + t.length + 1 ≤ 35184372088832 := by simpa [Nat.add_assoc] using hn
    have ih := toIntS_l0 t (p ++ [h]) (by simp; omega)
    have e1 : (p ++ [h]) ++ t = p ++ h :: t := by simp
    have e2 : (((p ++ [h]).length : Nat) : Int) = (p.length : Int) + 1 := by simp
    rw [e1, e2] at ih
    refine Ev.step (fun k => ?_) ih
    show laws_toIntS.l0 (k + 1) (p ++ h :: t) (p ++ List.replicate (h :: t).length 0) (p.length : Int) = _
    rw [laws_toIntS.l0, if_pos (by simp; omega), if_pos (by omega), if_pos (by simp; omega), rd_mid, w64 (by omega) (by omega)]
    congr 1
    simp [List.replicate_succ, List.set_append]
theorem ev_toIntS (l : List Int) (h : l.length ≤ 35184372088832) : Ev (fun k => laws_toIntS.f k l) l := by
  have z := toIntS_l0 l [] (by simpa using h)
  refine Ev.congr (fun k => ?_) z
  show laws_toIntS.f k l = _
  rw [laws_toIntS.f, if_pos (by omega), if_pos (by simpa using h)]
  simp

theorem eqIntS_l0 : ∀ (t p : List Int), p.length + t.length ≤ 35184372088832 →
    Ev (fun k => laws_eqIntS.l0 k (p ++ t) (p ++ t) (p.length : Int)) true
  | [], p, _ => by
    refine Ev.ret fun k => ?_
    rw [laws_eqIntS.l0, if_neg (by simp)]
  | h :: t, p, hn => by
    have hn' : p.length + t.length + 1 ≤ 35184372088832 := by simpa [Nat.add_assoc] using hn
    have ih := eqIntS_l0 t (p ++ [h]) (by simp; omega)
    have e1 : (p ++ [h]) ++ t = p ++ h :: t := by simp
    have e2 : (((p ++ [h]).length : Nat) : Int) = (p.length : Int) + 1 := by simp
    rw [e1, e2] at ih
    refine Ev.step (fun k => ?_) ih
    show laws_eqIntS.l0 (k + 1) (p ++ h :: t) (p ++ h :: t) (p.length : Int) = _
    rw [laws_eqIntS.l0, if_pos (by simp; omega), if_pos (by omega), if_pos (by simp; omega), rd_mid, if_pos rfl, w64 (by omega) (by omega)]
theorem ev_eqIntS (l : List Int) (h : l.length ≤ 35184372088832) : Ev (fun k => laws_eqIntS.f k l l) true := by
  have z := eqIntS_l0 l [] (by simpa using h)
  refine Ev.congr (fun k => ?_) z
  show laws_eqIntS.f k l l = _
  rw [laws_eqIntS.f, if_pos rfl]
  rfl

/-- One step of a walk along a list: what stands behind the place. -/
theorem len_snoc (p : List Int) (h : Int) : (((p ++ [h]).length : Nat) : Int) = (p.length : Int) + 1 := by simp
theorem app_snoc (p : List Int) (h : Int) (t : List Int) : (p ++ [h]) ++ t = p ++ h :: t := by simp
theorem len_mid (p : List Int) (h : Int) (t : List Int) : ((p ++ h :: t).length : Int) = (p.length : Int) + t.length + 1 := by simp; omega

/-- All numbers lie from lo to hi. -/
def inAll (lo hi : Int) (l : List Int) : Bool := l.all fun n => decide (lo ≤ n) && decide (n ≤ hi)
theorem inAll_iff (lo hi : Int) (l : List Int) : inAll lo hi l = true ↔ ∀ x ∈ l, lo ≤ x ∧ x ≤ hi := by
  simp [inAll, List.all_eq_true]
theorem inAll_cons (lo hi x : Int) (l : List Int) : inAll lo hi (x :: l) = ((decide (lo ≤ x) && decide (x ≤ hi)) && inAll lo hi l) := by
  simp [inAll]

theorem sum_bounds (lo hi : Int) : ∀ (l : List Int), inAll lo hi l = true → lo * (l.length : Int) ≤ l.sum ∧ l.sum ≤ hi * (l.length : Int)
  | [], _ => by simp
  | h :: t, hh => by
    rw [inAll_cons, Bool.and_eq_true, Bool.and_eq_true, decide_eq_true_eq, decide_eq_true_eq] at hh
    have ih := sum_bounds lo hi t hh.2
    have e : ((h :: t).length : Int) = (t.length : Int) + 1 := by simp
    have e1 : lo * ((t.length : Int) + 1) = lo * (t.length : Int) + lo := by rw [Int.mul_add, Int.mul_one]
    have e2 : hi * ((t.length : Int) + 1) = hi * (t.length : Int) + hi := by rw [Int.mul_add, Int.mul_one]
    rw [e, e1, e2, List.sum_cons]
    omega

theorem spec_paSum_l0 : ∀ (t p : List Int) (a : Int), p.length + t.length ≤ 35184372088832 → 0 ≤ a → (∀ x ∈ t, 0 ≤ x ∧ x ≤ 1000) → a + 1000 * (t.length : Int) ≤ 9223372036854775807 →
    Ev (fun k => spec_paSum.l0 k a (p ++ t) ((p ++ t).length : Int) (p.length : Int)) (a + t.sum)
  | [], p, a, _, _, _, _ => by
    refine Ev.ret fun k => ?_
    rw [spec_paSum.l0, if_neg (by simp)]
    simp
  | h :: t, p, a, hn, ha, hb, hs => by
    have hn' : p.length + t.length + 1 ≤ 35184372088832 := by simpa [Nat.add_assoc] using hn
    have hm := len_mid p h t
    have hh := hb h (by simp)
    have hs' : a + 1000 * ((t.length : Int) + 1) ≤ 9223372036854775807 := by simpa using hs
    have ih := spec_paSum_l0 t (p ++ [h]) (a + h) (by simp; omega) (by omega) (fun x hx => hb x (by simp [hx])) (by omega)
    rw [app_snoc, len_snoc] at ih
    rw [List.sum_cons, ← Int.add_assoc]
    refine Ev.step (fun k => ?_) ih
    show spec_paSum.l0 (k + 1) a (p ++ h :: t) ((p ++ h :: t).length : Int) (p.length : Int) = _
    rw [spec_paSum.l0, if_pos (by omega), if_pos (by omega), if_pos (by omega), rd_mid, w64 (by omega) (by omega), w64 (by omega) (by omega)]
theorem ev_spec_paSum (l : List Int) (hl : l.length ≤ 35184372088832) (hb : ∀ x ∈ l, 0 ≤ x ∧ x ≤ 1000) : Ev (fun k => spec_paSum.f k l) l.sum := by
  have h := spec_paSum_l0 l [] 0 (by simpa using hl) (by omega) hb (by omega)
  rw [Int.zero_add] at h
  exact h

theorem impl_total_l0 : ∀ (t p : List Int) (a : Int), p.length + t.length ≤ 35184372088832 → 0 ≤ a → (∀ x ∈ t, 0 ≤ x ∧ x ≤ 1000) → a + 1000 * (t.length : Int) ≤ 9223372036854775807 →
    Ev (fun k => impl_total.l0 k a (p ++ t) ((p ++ t).length : Int) (p.length : Int)) (a + t.sum)
  | [], p, a, _, _, _, _ => by
    refine Ev.ret fun k => ?_
    rw [impl_total.l0, if_neg (by simp)]
    simp
  | h :: t, p, a, hn, ha, hb, hs => by
    have hn' : p.length + t.length + 1 ≤ 35184372088832 := by simpa [Nat.add_assoc] using hn
    have hm := len_mid p h t
    have hh := hb h (by simp)
    have hs' : a + 1000 * ((t.length : Int) + 1) ≤ 9223372036854775807 := by simpa using hs
    have ih := impl_total_l0 t (p ++ [h]) (a + h) (by simp; omega) (by omega) (fun x hx => hb x (by simp [hx])) (by omega)
    rw [app_snoc, len_snoc] at ih
    rw [List.sum_cons, ← Int.add_assoc]
    refine Ev.step (fun k => ?_) ih
    show impl_total.l0 (k + 1) a (p ++ h :: t) ((p ++ h :: t).length : Int) (p.length : Int) = _
    rw [impl_total.l0, if_pos (by omega), if_pos (by omega), if_pos (by omega), rd_mid, w64 (by omega) (by omega), w64 (by omega) (by omega)]
theorem ev_impl_total (l : List Int) (hl : l.length ≤ 35184372088832) (hb : ∀ x ∈ l, 0 ≤ x ∧ x ≤ 1000) : Ev (fun k => impl_total.f k l) l.sum := by
  have h := impl_total_l0 l [] 0 (by simpa using hl) (by omega) hb (by omega)
  rw [Int.zero_add] at h
  exact h

theorem ev_spec_l1In (a b c : Int) : spec_l1In.f a b c = some (decide (b ≤ a) && decide (a ≤ c)) := by
  unfold spec_l1In.f
  by_cases h : a ≥ b
  · rw [if_pos h]; simp [show b ≤ a from h]
  · rw [if_neg h]; simp [show ¬ b ≤ a from h]

theorem spec_l1All_l0 (lo hi : Int) : ∀ (t p : List Int), p.length + t.length ≤ 35184372088832 →
    Ev (fun k => spec_l1All.l0 k lo hi (p ++ t) ((p ++ t).length : Int) (p.length : Int)) (inAll lo hi t)
  | [], p, _ => by
    refine Ev.ret fun k => ?_
    rw [spec_l1All.l0, if_neg (by simp)]
    rfl
  | h :: t, p, hn => by
    have hn' : p.length + t.length + 1 ≤ 35184372088832 := by simpa [Nat.add_assoc] using hn
    have hm := len_mid p h t
    rw [inAll_cons]
    cases c : decide (lo ≤ h) && decide (h ≤ hi) with
    | true =>
      have ih := spec_l1All_l0 lo hi t (p ++ [h]) (by simp; omega)
      rw [app_snoc, len_snoc] at ih
      rw [Bool.true_and]
      refine Ev.step (fun k => ?_) ih
      show spec_l1All.l0 (k + 1) lo hi (p ++ h :: t) ((p ++ h :: t).length : Int) (p.length : Int) = _
      rw [spec_l1All.l0, if_pos (by omega), if_pos (by omega), if_pos (by omega), rd_mid, ev_spec_l1In, c, Option.bind_some, if_pos rfl, w64 (by omega) (by omega)]
    | false =>
      rw [Bool.false_and]
      refine Ev.ret fun k => ?_
      rw [spec_l1All.l0, if_pos (by omega), if_pos (by omega), if_pos (by omega), rd_mid, ev_spec_l1In, c]
      rfl
theorem ev_spec_l1All (l : List Int) (lo hi : Int) (hl : l.length ≤ 35184372088832) : Ev (fun k => spec_l1All.f k l lo hi) (inAll lo hi l) :=
  spec_l1All_l0 lo hi l [] (by simpa using hl)

theorem ev_impl_between (a b c : Int) : impl_between.f a b c = some (decide (b ≤ a) && decide (a ≤ c)) := by
  unfold impl_between.f
  by_cases h : a ≥ b
  · rw [if_pos h]; simp [show b ≤ a from h]
  · rw [if_neg h]; simp [show ¬ b ≤ a from h]

theorem slices_IndexFunc_l0 (q : Int → Bool) : ∀ (t p : List Int), p.length + t.length ≤ 35184372088832 →
    ∃ r : Int, decide (r ≥ 0) = t.any q ∧ Ev (fun k => slices_IndexFunc_int_int.l0 q k (p ++ t) ((p ++ t).length : Int) (p.length : Int)) r
  | [], p, _ => by
    refine ⟨-1, by simp, Ev.ret fun k => ?_⟩
    rw [slices_IndexFunc_int_int.l0, if_neg (by simp)]
  | h :: t, p, hn => by
    have hn' : p.length + t.length + 1 ≤ 35184372088832 := by simpa [Nat.add_assoc] using hn
    have hm := len_mid p h t
    cases c : q h with
    | true =>
      refine ⟨p.length, by simp [c], Ev.ret fun k => ?_⟩
      rw [slices_IndexFunc_int_int.l0, if_pos (by omega), if_pos (by omega), if_pos (by omega), rd_mid, c, Option.bind_some, if_pos rfl]
    | false =>
      obtain ⟨r, hr, ih⟩ := slices_IndexFunc_l0 q t (p ++ [h]) (by simp; omega)
      rw [app_snoc, len_snoc] at ih
      refine ⟨r, by simpa [c] using hr, Ev.step (fun k => ?_) ih⟩
      show slices_IndexFunc_int_int.l0 q (k + 1) (p ++ h :: t) ((p ++ h :: t).length : Int) (p.length : Int) = _
      rw [slices_IndexFunc_int_int.l0, if_pos (by omega), if_pos (by omega), if_pos (by omega), rd_mid, c, Option.bind_some, if_neg (by simp), w64 (by omega) (by omega)]
theorem ev_containsFunc (q : Int → Bool) (l : List Int) (hl : l.length ≤ 35184372088832) : Ev (fun k => slices_ContainsFunc_int_int.f q k l) (l.any q) := by
  obtain ⟨r, hr, h⟩ := slices_IndexFunc_l0 q l [] (by simpa using hl)
  rw [← hr]
  exact Ev.congr (fun k => rfl) (Ev.bind h (Ev.now _))

theorem ev_impl_areBetween (l : List Int) (lo hi : Int) (hl : l.length ≤ 35184372088832) : Ev (fun k => impl_areBetween.f k l lo hi) (inAll lo hi l) := by
  have e : (!(l.any (impl_areBetween_1.p lo hi))) = inAll lo hi l := by
    have hp : ∀ n, impl_areBetween_1.p lo hi n = !(decide (lo ≤ n) && decide (n ≤ hi)) := fun n => by
      simp [impl_areBetween_1.p, ev_impl_between]
    unfold inAll
    induction l with
    | nil => rfl
    | cons x t ih =>
      rw [List.any_cons, List.all_cons, Bool.not_or, ih (by simp at hl; omega), hp, Bool.not_not]
  rw [← e]
  exact Ev.congr (fun k => rfl) (Ev.bind (ev_containsFunc (impl_areBetween_1.p lo hi) l hl) (Ev.now _))

/-- Favourites for a street with so many places. -/
def fav (l : List Int) (places : Int) : Bool := (decide (1 ≤ places) && decide (places ≤ 12)) && (decide (l.length ≤ 8) && inAll 0 (places - 1) l)
theorem fav_iff (l : List Int) (places : Int) : fav l places = true ↔ (1 ≤ places ∧ places ≤ 12) ∧ l.length ≤ 8 ∧ ∀ x ∈ l, 0 ≤ x ∧ x ≤ places - 1 := by
  simp only [fav, Bool.and_eq_true, decide_eq_true_eq, inAll_iff]

theorem ev_impl_AreFavourites (l : List Int) (places : Int) : Ev (fun k => impl_AreFavourites.f k l places) (fav l places) := by
  cases c : decide (1 ≤ places) && decide (places ≤ 12) with
  | false =>
    refine Ev.congr (fun k => ?_) (Ev.now _)
    show impl_AreFavourites.f k l places = _
    rw [impl_AreFavourites.f, ev_impl_between, c]
    simp [fav, c]
  | true =>
    have cc : 1 ≤ places ∧ places ≤ 12 := by simpa using c
    by_cases d : l.length ≤ 8
    · have e : fav l places = inAll 0 (places - 1) l := by simp [fav, d, cc]
      rw [e]
      refine Ev.congr (fun k => by rw [impl_AreFavourites.f, ev_impl_between, c, Option.bind_some, if_pos rfl, if_pos (by omega), w64 (by omega) (by omega)]) ?_
      exact Ev.bind (ev_impl_areBetween l _ _ (by omega)) (Ev.now _)
    · refine Ev.congr (fun k => ?_) (Ev.now _)
      show impl_AreFavourites.f k l places = _
      rw [impl_AreFavourites.f, ev_impl_between, c, Option.bind_some, if_pos rfl, if_neg (by omega)]
      simp [fav, d]

/-- Lengths of long cars. -/
def lens (l : List Int) : Bool := (decide (1 ≤ (l.length : Int)) && decide ((l.length : Int) ≤ 8)) && (inAll 1 12 l && decide (l.sum ≤ 12))
theorem lens_iff (l : List Int) : lens l = true ↔ (1 ≤ l.length ∧ l.length ≤ 8) ∧ (∀ x ∈ l, 1 ≤ x ∧ x ≤ 12) ∧ l.sum ≤ 12 := by
  simp only [lens, Bool.and_eq_true, decide_eq_true_eq, inAll_iff]
  constructor
  · rintro ⟨⟨h1, h2⟩, h3, h4⟩
    exact ⟨⟨by omega, by omega⟩, h3, h4⟩
  · rintro ⟨⟨h1, h2⟩, h3, h4⟩
    exact ⟨⟨by omega, by omega⟩, h3, h4⟩
theorem ev_spec_loLengths (l : List Int) : Ev (fun k => spec_loLengths.f k l) (lens l) := by
  cases c : decide (1 ≤ (l.length : Int)) && decide ((l.length : Int) ≤ 8) with
  | false =>
    refine Ev.congr (fun k => ?_) (Ev.now _)
    show spec_loLengths.f k l = _
    rw [spec_loLengths.f, ev_spec_l1In, c]
    simp only [lens, c]
    rfl
  | true =>
    have cc : 1 ≤ (l.length : Int) ∧ (l.length : Int) ≤ 8 := by simpa using c
    refine Ev.congr (fun k => by rw [spec_loLengths.f, ev_spec_l1In, c, Option.bind_some, if_pos rfl]) ?_
    refine Ev.bind (ev_spec_l1All l 1 12 (by omega)) ?_
    cases d : inAll 1 12 l with
    | false =>
      have e : lens l = false := by simp [lens, d]
      rw [e]
      exact Ev.congr (fun k => by rw [if_neg (by simp)]) (Ev.now _)
    | true =>
      have e : lens l = decide (l.sum ≤ 12) := by simp only [lens, c, d, Bool.true_and]
      rw [e]
      have hb := (inAll_iff 1 12 l).1 d
      refine Ev.congr (fun k => by rw [if_pos rfl]) ?_
      exact Ev.bind (ev_spec_paSum l (by omega) (fun x hx => by have := hb x hx; omega)) (Ev.now _)
theorem ev_impl_areLengths (l : List Int) : Ev (fun k => impl_areLengths.f k l) (lens l) := by
  cases c : decide (1 ≤ (l.length : Int)) && decide ((l.length : Int) ≤ 8) with
  | false =>
    refine Ev.congr (fun k => ?_) (Ev.now _)
    show impl_areLengths.f k l = _
    rw [impl_areLengths.f, ev_impl_between, c]
    simp only [lens, c]
    rfl
  | true =>
    have cc : 1 ≤ (l.length : Int) ∧ (l.length : Int) ≤ 8 := by simpa using c
    refine Ev.congr (fun k => by rw [impl_areLengths.f, ev_impl_between, c, Option.bind_some, if_pos rfl]) ?_
    refine Ev.bind (ev_impl_areBetween l 1 12 (by omega)) ?_
    cases d : inAll 1 12 l with
    | false =>
      have e : lens l = false := by simp [lens, d]
      rw [e]
      exact Ev.congr (fun k => by rw [if_neg (by simp)]) (Ev.now _)
    | true =>
      have e : lens l = decide (l.sum ≤ 12) := by simp only [lens, c, d, Bool.true_and]
      rw [e]
      have hb := (inAll_iff 1 12 l).1 d
      refine Ev.congr (fun k => by rw [if_pos rfl]) ?_
      exact Ev.bind (ev_impl_total l (by omega) (fun x hx => by have := hb x hx; omega)) (Ev.now _)

/-- Favourites of long cars. -/
def longs (l m : List Int) : Bool := lens m && (decide ((l.length : Int) = (m.length : Int)) && inAll 0 (m.sum - 1) l)
theorem longs_iff (l m : List Int) : longs l m = true ↔ lens m = true ∧ l.length = m.length ∧ ∀ x ∈ l, 0 ≤ x ∧ x ≤ m.sum - 1 := by
  simp only [longs, Bool.and_eq_true, decide_eq_true_eq, inAll_iff]
  constructor
  · rintro ⟨h1, h2, h3⟩
    exact ⟨h1, by omega, h3⟩
  · rintro ⟨h1, h2, h3⟩
    exact ⟨h1, by omega, h3⟩
theorem lens_sum {m : List Int} (h : lens m = true) : 1 ≤ m.sum ∧ m.sum ≤ 12 := by
  have h2 := (lens_iff m).1 h
  have := sum_bounds 1 12 m ((inAll_iff 1 12 m).2 h2.2.1)
  omega
theorem ev_spec_loTask (l m : List Int) (hl : l.length ≤ 35184372088832) : Ev (fun k => spec_loTask.f k l m) (longs l m) := by
  refine Ev.bind (ev_spec_loLengths m) ?_
  cases c : lens m with
  | false => exact Ev.congr (fun k => by rw [if_neg (by simp)]) (by simpa [longs, c] using Ev.now false)
  | true =>
    have hm := (lens_iff m).1 c
    have hs := lens_sum c
    refine Ev.congr (fun k => by rw [if_pos rfl]) ?_
    by_cases d : (l.length : Int) = (m.length : Int)
    · refine Ev.congr (fun k => by rw [if_pos d]) ?_
      have e : longs l m = inAll 0 (m.sum - 1) l := by simp only [longs, c, decide_eq_true d, Bool.true_and]
      rw [e]
      refine Ev.bind (ev_spec_paSum m (by omega) (fun x hx => by have := hm.2.1 x hx; omega)) ?_
      refine Ev.congr (fun k => by rw [w64 (by omega) (by omega)]) ?_
      exact Ev.bind (ev_spec_l1All l 0 (m.sum - 1) hl) (Ev.now _)
    · refine Ev.congr (fun k => by rw [if_neg d]) ?_
      have e : longs l m = false := by simp only [longs, c, decide_eq_false d, Bool.false_and, Bool.and_false]
      rw [e]
      exact Ev.now _
theorem ev_impl_areLong (l m : List Int) (hl : l.length ≤ 35184372088832) : Ev (fun k => impl_areLong.f k l m) (longs l m) := by
  refine Ev.bind (ev_impl_areLengths m) ?_
  cases c : lens m with
  | false => exact Ev.congr (fun k => by rw [if_neg (by simp)]) (by simpa [longs, c] using Ev.now false)
  | true =>
    have hm := (lens_iff m).1 c
    have hs := lens_sum c
    refine Ev.congr (fun k => by rw [if_pos rfl]) ?_
    by_cases d : (l.length : Int) = (m.length : Int)
    · refine Ev.congr (fun k => by rw [if_pos d]) ?_
      have e : longs l m = fav l m.sum := by
        simp only [longs, fav, c, decide_eq_true d, Bool.true_and]
        rw [decide_eq_true hs.1, decide_eq_true hs.2, decide_eq_true (show l.length ≤ 8 by omega)]
        simp
      rw [e]
      refine Ev.bind (ev_impl_total m (by omega) (fun x hx => by have := hm.2.1 x hx; omega)) ?_
      exact Ev.bind (ev_impl_AreFavourites l m.sum) (Ev.now _)
    · refine Ev.congr (fun k => by rw [if_neg d]) ?_
      have e : longs l m = false := by simp only [longs, c, decide_eq_false d, Bool.false_and, Bool.and_false]
      rw [e]
      exact Ev.now _

theorem rdOf_mid {α : Type} (d : α) (p : List α) (h : α) (t : List α) : rdOf d (p ++ h :: t) (p.length : Int) = h := by
  unfold rdOf
  simp
/-- Where a truth first stands; -1 if it doesn't. -/
def idxB (x : Bool) : List Bool → Int → Int
  | [], _ => -1
  | h :: t, i => if (x == h) = true then i else idxB x t (i + 1)
theorem idxB_spec (x : Bool) : ∀ (l : List Bool) (i : Int), 0 ≤ i → decide (idxB x l i ≥ 0) = decide (x ∈ l)
  | [], i, _ => by simp [idxB]
  | h :: t, i, hi => by
    rw [idxB]
    by_cases c : (x == h) = true
    · rw [if_pos c]
      have : x = h := by simpa using c
      simp [this, hi]
    · rw [if_neg c, idxB_spec x t (i + 1) (by omega)]
      have : ¬ x = h := by simpa using c
      simp [this]
theorem slices_IndexB_l0 (x : Bool) : ∀ (t p : List Bool), p.length + t.length ≤ 35184372088832 →
    Ev (fun k => slices_Index_bool_bool.l0 k (p ++ t) x ((p ++ t).length : Int) (p.length : Int)) (idxB x t p.length)
  | [], p, _ => by
    refine Ev.ret fun k => ?_
    rw [slices_Index_bool_bool.l0, if_neg (by simp)]
    rfl
  | h :: t, p, hn => by
    have hn' : p.length + t.length + 1 ≤ 35184372088832 := by simpa [Nat.add_assoc] using hn
    have hm : ((p ++ h :: t).length : Int) = (p.length : Int) + t.length + 1 := by simp; omega
    by_cases c : (x == h) = true
    · rw [idxB, if_pos c]
      refine Ev.ret fun k => ?_
      rw [slices_Index_bool_bool.l0, if_pos (by omega), if_pos (by omega), if_pos (by omega), rdOf_mid, if_pos c]
    · have ih := slices_IndexB_l0 x t (p ++ [h]) (by simp; omega)
      rw [show (p ++ [h]) ++ t = p ++ h :: t by simp, show (((p ++ [h]).length : Nat) : Int) = (p.length : Int) + 1 by simp] at ih
      rw [idxB, if_neg c]
      refine Ev.step (fun k => ?_) ih
      show slices_Index_bool_bool.l0 (k + 1) (p ++ h :: t) x ((p ++ h :: t).length : Int) (p.length : Int) = _
      rw [slices_Index_bool_bool.l0, if_pos (by omega), if_pos (by omega), if_pos (by omega), rdOf_mid, if_neg c, w64 (by omega) (by omega)]
theorem ev_slices_ContainsB (l : List Bool) (x : Bool) (hl : l.length ≤ 35184372088832) : Ev (fun k => slices_Contains_bool_bool.f k l x) (decide (x ∈ l)) := by
  rw [← idxB_spec x l 0 (by omega)]
  exact Ev.congr (fun k => rfl) (Ev.bind (slices_IndexB_l0 x l [] (by simpa using hl)) (Ev.now _))

/-- The first free place from x on. -/
def slot (tk : List Bool) : Nat → Int → Int
  | 0, x => x
  | d + 1, x => if rdOf false tk x = true then slot tk d (x + 1) else x
theorem slot_range (tk : List Bool) : ∀ (d : Nat) (x : Int), x ≤ slot tk d x ∧ slot tk d x ≤ x + d
  | 0, x => by simp [slot]
  | d + 1, x => by
    have ih := slot_range tk d (x + 1)
    rw [slot]
    split <;> omega
/-- So many places from x on are there and free. -/
def freeN (tk : List Bool) : Nat → Int → Bool
  | 0, _ => true
  | r + 1, x => decide (x < (tk.length : Int)) && (!(rdOf false tk x) && freeN tk r (x + 1))
theorem freeN_end (tk : List Bool) : ∀ (r : Nat) (x : Int), freeN tk r x = true → r = 0 ∨ x + r ≤ tk.length
  | 0, x, _ => .inl rfl
  | r + 1, x, h => by
    simp only [freeN, Bool.and_eq_true, decide_eq_true_eq] at h
    have ih := freeN_end tk r (x + 1) h.2.2
    omega
theorem freeN_iff (tk : List Bool) : ∀ (r : Nat) (x : Int), 0 ≤ x → x + r ≤ tk.length → (freeN tk r x = true ↔ ∀ j : Nat, x ≤ j → (j : Int) < x + r → tk.getD j false = false)
  | 0, x, _, _ => by
    simp only [freeN, true_iff]
    intro j h1 h2
    omega
  | r + 1, x, h0, hr => by
    have ih := freeN_iff tk r (x + 1) (by omega) (by omega)
    simp only [freeN, Bool.and_eq_true, decide_eq_true_eq, ih, Bool.not_eq_true']
    constructor
    · rintro ⟨_, h1, h2⟩ j h3 h4
      by_cases c : (j : Int) = x
      · have e : j = x.toNat := by omega
        rw [e]
        exact h1
      · exact h2 j (by omega) (by omega)
    · intro h
      refine ⟨by omega, ?_, fun j h3 h4 => h j (by omega) (by omega)⟩
      exact h x.toNat (by omega) (by omega)
/-- So many places from x on are taken. -/
def fillN : List Bool → Nat → Int → List Bool
  | tk, 0, _ => tk
  | tk, r + 1, x => fillN (tk.set x.toNat true) r (x + 1)
theorem fillN_length : ∀ (r : Nat) (tk : List Bool) (x : Int), (fillN tk r x).length = tk.length
  | 0, tk, x => rfl
  | r + 1, tk, x => by rw [fillN, fillN_length r]; simp
/-- The first places of long cars, up to the first that is blocked. -/
def longD : List Bool → List Int → List Int → List Int → List Int
  | tk, out, a :: t, b :: u => if freeN tk b.toNat (slot tk ((tk.length : Int) - a).toNat a) = true then longD (fillN tk b.toNat (slot tk ((tk.length : Int) - a).toNat a)) (out ++ [slot tk ((tk.length : Int) - a).toNat a]) t u else out
  | _, out, _, _ => out
theorem longD_length : ∀ (t u : List Int) (tk : List Bool) (out : List Int), (longD tk out t u).length ≤ out.length + t.length
  | [], u, tk, out => by simp [longD]
  | a :: t, [], tk, out => by simp [longD]
  | a :: t, b :: u, tk, out => by
    rw [longD]
    split
    · have := longD_length t u (fillN tk b.toNat (slot tk ((tk.length : Int) - a).toNat a)) (out ++ [slot tk ((tk.length : Int) - a).toNat a])
      simp at this ⊢
      omega
    · simp

theorem spec_loDrive_l1 (m : List Int) (tk : List Bool) (out : List Int) (j : Int) (L : List Int) (n i : Int) (r : List Int) (hn : tk.length ≤ 1000) : ∀ (d : Nat) (x : Int), 0 ≤ x → d = ((tk.length : Int) - x).toNat →
    Ev (fun k => spec_loDrive.j2 k m tk out j (slot tk d x) L n i) r → Ev (fun k => spec_loDrive.l1 k m tk out j x L n i) r
  | 0, x, h0, hd, H => by
    refine Ev.step (fun k => ?_) H
    show spec_loDrive.l1 (k + 1) m tk out j x L n i = _
    rw [spec_loDrive.l1, if_neg (by omega)]
    rfl
  | d + 1, x, h0, hd, H => by
    by_cases c : rdOf false tk x = true
    · rw [slot, if_pos c] at H
      have ih := spec_loDrive_l1 m tk out j L n i r hn d (x + 1) (by omega) (by omega) H
      refine Ev.step (fun k => ?_) ih
      show spec_loDrive.l1 (k + 1) m tk out j x L n i = _
      rw [spec_loDrive.l1, if_pos (by omega), if_pos (by omega), if_pos c, w64 (by omega) (by omega)]
    · rw [slot, if_neg c] at H
      refine Ev.step (fun k => ?_) H
      show spec_loDrive.l1 (k + 1) m tk out j x L n i = _
      rw [spec_loDrive.l1, if_pos (by omega), if_pos (by omega), if_neg c]
theorem spec_loDrive_l3 (m : List Int) (out : List Int) (j x8 : Int) (L : List Int) (n i : Int) (r : List Int) (hj0 : 0 ≤ j) (hj : j < (m.length : Int)) (hx0 : 0 ≤ x8) (hx : x8 ≤ 1000) (hb0 : 0 ≤ rd m j) (hb : rd m j ≤ 1000) (ho : out.length < 17592186044416) (hi0 : 0 ≤ i) (hi : i ≤ 1000) : ∀ (d : Nat) (x : Int) (tk : List Bool), 0 ≤ x → x + d = x8 + rd m j → x + d ≤ tk.length →
    Ev (fun k => spec_loDrive.l0 k m (fillN tk d x) (out ++ [x8]) L n (i + 1)) r → Ev (fun k => spec_loDrive.l3 k m tk out j x8 x L n i) r
  | 0, x, tk, h0, hd, hl, H => by
    refine Ev.step (fun k => ?_) H
    show spec_loDrive.l3 (k + 1) m tk out j x8 x L n i = _
    rw [spec_loDrive.l3, if_pos hj0, if_pos hj, w64 (by omega) (by omega), if_neg (by omega), if_pos ho, w64 (by omega) (by omega)]
    rfl
  | d + 1, x, tk, h0, hd, hl, H => by
    have ih := spec_loDrive_l3 m out j x8 L n i r hj0 hj hx0 hx hb0 hb ho hi0 hi d (x + 1) (tk.set x.toNat true) (by omega) (by omega) (by simp; omega) H
    refine Ev.step (fun k => ?_) ih
    show spec_loDrive.l3 (k + 1) m tk out j x8 x L n i = _
    rw [spec_loDrive.l3, if_pos hj0, if_pos hj, w64 (by omega) (by omega), if_pos (by omega), if_pos (by omega), if_pos (by omega), w64 (by omega) (by omega)]
theorem spec_loDrive_l2 (m : List Int) (tk : List Bool) (out : List Int) (j x8 : Int) (L : List Int) (n i : Int) (r : List Int) (hj0 : 0 ≤ j) (hj : j < (m.length : Int)) (hx0 : 0 ≤ x8) (hx : x8 ≤ 1000) (hb0 : 0 ≤ rd m j) (hb : rd m j ≤ 1000) : ∀ (d : Nat) (x : Int), 0 ≤ x → x + d = x8 + rd m j →
    (freeN tk d x = true → Ev (fun k => spec_loDrive.l3 k m tk out j x8 x8 L n i) r) → (freeN tk d x = false → r = out) → Ev (fun k => spec_loDrive.l2 k m tk out j x8 x L n i) r
  | 0, x, h0, hd, H, _ => by
    refine Ev.step (fun k => ?_) (H rfl)
    show spec_loDrive.l2 (k + 1) m tk out j x8 x L n i = _
    rw [spec_loDrive.l2, if_pos hj0, if_pos hj, w64 (by omega) (by omega), if_neg (by omega)]
  | d + 1, x, h0, hd, H, H' => by
    by_cases c : x ≥ (tk.length : Int)
    · rw [H' (by rw [freeN, decide_eq_false (by omega), Bool.false_and])]
      refine Ev.ret fun k => ?_
      rw [spec_loDrive.l2, if_pos hj0, if_pos hj, w64 (by omega) (by omega), if_pos (by omega), if_pos c]
    · have e1 : decide (x < (tk.length : Int)) = true := decide_eq_true (by omega)
      by_cases c2 : rdOf false tk x = true
      · rw [H' (by rw [freeN, c2]; simp)]
        refine Ev.ret fun k => ?_
        rw [spec_loDrive.l2, if_pos hj0, if_pos hj, w64 (by omega) (by omega), if_pos (by omega), if_neg c, if_pos h0, if_pos (by omega), if_pos c2]
      · have c3 : rdOf false tk x = false := by simpa using c2
        rw [freeN, e1, c3, Bool.not_false, Bool.true_and, Bool.true_and] at H H'
        have ih := spec_loDrive_l2 m tk out j x8 L n i r hj0 hj hx0 hx hb0 hb d (x + 1) (by omega) (by omega) H H'
        refine Ev.step (fun k => ?_) ih
        show spec_loDrive.l2 (k + 1) m tk out j x8 x L n i = _
        rw [spec_loDrive.l2, if_pos hj0, if_pos hj, w64 (by omega) (by omega), if_pos (by omega), if_neg c, if_pos h0, if_pos (by omega), if_neg c2, w64 (by omega) (by omega)]
theorem spec_loDrive_l0 : ∀ (t p q u : List Int) (tk : List Bool) (out : List Int), p.length = q.length → t.length = u.length → p.length + t.length ≤ 100 → out.length ≤ p.length → tk.length ≤ 500 →
    (∀ x ∈ t, 0 ≤ x ∧ x < 500) → (∀ x ∈ u, 1 ≤ x ∧ x ≤ 12) →
    Ev (fun k => spec_loDrive.l0 k (q ++ u) tk out (p ++ t) ((p ++ t).length : Int) (p.length : Int)) (longD tk out t u)
  | [], p, q, u, tk, out, hpq, htu, hn, ho, htk, hb, hu => by
    refine Ev.ret fun k => ?_
    rw [spec_loDrive.l0, if_neg (by simp)]
    simp [longD]
  | a :: t, p, q, [], tk, out, hpq, htu, hn, ho, htk, hb, hu => by simp at htu
  | a :: t, p, q, b :: u, tk, out, hpq, htu, hn, ho, htk, hb, hu => by
    have hn' : p.length + t.length + 1 ≤ 100 := by simpa [Nat.add_assoc] using hn
    have hm := len_mid p a t
    have ha := hb a (by simp)
    have hb1 := hu b (by simp)
    have hr := slot_range tk ((tk.length : Int) - a).toNat a
    have eb : rd (q ++ b :: u) (p.length : Int) = b := by rw [hpq]; exact rd_mid q b u
    have hq : ((p.length : Nat) : Int) < ((q ++ b :: u).length : Int) := by rw [hpq]; simp; omega
    have f := freeN_end tk b.toNat (slot tk ((tk.length : Int) - a).toNat a)
    refine Ev.step (f := fun k => spec_loDrive.l1 k (q ++ b :: u) tk out p.length a (p ++ a :: t) ((p ++ a :: t).length : Int) p.length) (fun k => ?_) ?_
    · rw [spec_loDrive.l0, if_pos (by omega), if_pos (by omega), if_pos (by omega), rd_mid]
    refine spec_loDrive_l1 _ tk out _ _ _ _ _ (by omega) _ a ha.1 rfl ?_
    refine Ev.step (fun k => by rw [spec_loDrive.j2]) ?_
    refine spec_loDrive_l2 _ tk out _ _ _ _ _ _ (by omega) hq (by omega) (by omega) (by rw [eb]; omega) (by rw [eb]; omega) b.toNat _ (by omega) (by rw [eb]; omega) (fun c => ?_) (fun c => ?_)
    · have ih := spec_loDrive_l0 t (p ++ [a]) (q ++ [b]) u (fillN tk b.toNat (slot tk ((tk.length : Int) - a).toNat a)) (out ++ [slot tk ((tk.length : Int) - a).toNat a]) (by simp [hpq]) (by simpa using htu) (by simp; omega) (by simp; omega) (by rw [fillN_length]; exact htk) (fun x hx => hb x (by simp [hx])) (fun x hx => hu x (by simp [hx]))
      rw [app_snoc p a t, app_snoc q b u, len_snoc p a] at ih
      rw [longD, if_pos c]
      have f := f c
      exact spec_loDrive_l3 _ out _ _ _ _ _ _ (by omega) hq (by omega) (by omega) (by rw [eb]; omega) (by rw [eb]; omega) (by omega) (by omega) (by omega) b.toNat _ tk (by omega) (by rw [eb]; omega) (by omega) ih
    · rw [longD, if_neg (by simp [c])]
theorem ev_spec_loDrive (l m : List Int) (h : longs l m = true) : Ev (fun k => spec_loDrive.f k l m) (longD (List.replicate m.sum.toNat false) [] l m) := by
  obtain ⟨h1, h2, h3⟩ := (longs_iff l m).1 h
  have h4 := (lens_iff m).1 h1
  have hs := lens_sum h1
  refine Ev.bind (ev_spec_paSum m (by omega) (fun x hx => by have := h4.2.1 x hx; omega)) ?_
  refine Ev.congr (fun k => by rw [if_pos (by omega), if_pos (by omega)]) ?_
  exact spec_loDrive_l0 l [] [] m _ [] rfl h2 (by simp; omega) (by simp) (by simp; omega) (fun x hx => by have := h3 x hx; omega) (fun x hx => by have := h4.2.1 x hx; omega)

theorem impl_driveLong_l1 (m : List Int) (tk : List Bool) (out : List Int) (j : Int) (L : List Int) (n i : Int) (r : List Int) (hn : tk.length ≤ 1000) : ∀ (d : Nat) (x : Int), 0 ≤ x → d = ((tk.length : Int) - x).toNat →
    Ev (fun k => impl_driveLong.j2 k m tk out j (slot tk d x) L n i) r → Ev (fun k => impl_driveLong.l1 k m tk out j x L n i) r
  | 0, x, h0, hd, H => by
    refine Ev.step (fun k => ?_) H
    show impl_driveLong.l1 (k + 1) m tk out j x L n i = _
    rw [impl_driveLong.l1, if_neg (by omega)]
    rfl
  | d + 1, x, h0, hd, H => by
    by_cases c : rdOf false tk x = true
    · rw [slot, if_pos c] at H
      have ih := impl_driveLong_l1 m tk out j L n i r hn d (x + 1) (by omega) (by omega) H
      refine Ev.step (fun k => ?_) ih
      show impl_driveLong.l1 (k + 1) m tk out j x L n i = _
      rw [impl_driveLong.l1, if_pos (by omega), if_pos (by omega), if_pos c, w64 (by omega) (by omega)]
    · rw [slot, if_neg c] at H
      refine Ev.step (fun k => ?_) H
      show impl_driveLong.l1 (k + 1) m tk out j x L n i = _
      rw [impl_driveLong.l1, if_pos (by omega), if_pos (by omega), if_neg c]
theorem impl_driveLong_l2 (m : List Int) (out : List Int) (x8 e : Int) (L : List Int) (n i : Int) (r : List Int) (he : e ≤ 5000) (ho : out.length < 17592186044416) (hi0 : 0 ≤ i) (hi : i ≤ 1000) : ∀ (d : Nat) (x : Int) (tk : List Bool), 0 ≤ x → x + d = e → x + d ≤ tk.length →
    Ev (fun k => impl_driveLong.l0 k m (fillN tk d x) (out ++ [x8]) L n (i + 1)) r → Ev (fun k => impl_driveLong.l2 k m tk out x8 e x L n i) r
  | 0, x, tk, h0, hd, hl, H => by
    refine Ev.step (fun k => ?_) H
    show impl_driveLong.l2 (k + 1) m tk out x8 e x L n i = _
    rw [impl_driveLong.l2, if_neg (by omega), if_pos ho, w64 (by omega) (by omega)]
    rfl
  | d + 1, x, tk, h0, hd, hl, H => by
    have ih := impl_driveLong_l2 m out x8 e L n i r he ho hi0 hi d (x + 1) (tk.set x.toNat true) (by omega) (by omega) (by simp; omega) H
    refine Ev.step (fun k => ?_) ih
    show impl_driveLong.l2 (k + 1) m tk out x8 e x L n i = _
    rw [impl_driveLong.l2, if_pos (by omega), if_pos (by omega), if_pos (by omega), w64 (by omega) (by omega)]
theorem mem_part (tk : List Bool) (a b : Nat) : true ∈ (tk.take b).drop a ↔ ∃ j : Nat, a ≤ j ∧ j < b ∧ tk.getD j false = true := by
  rw [List.mem_iff_getElem?]
  constructor
  · rintro ⟨i, hi⟩
    rw [List.getElem?_drop, List.getElem?_take] at hi
    split at hi
    · exact ⟨a + i, by omega, by assumption, by rw [List.getD_eq_getElem?_getD, hi]; rfl⟩
    · cases hi
  · rintro ⟨j, h1, h2, h3⟩
    refine ⟨j - a, ?_⟩
    rw [List.getElem?_drop, List.getElem?_take, show a + (j - a) = j by omega, if_pos h2]
    rw [List.getD_eq_getElem?_getD] at h3
    cases e : tk[j]? with
    | none => rw [e] at h3; cases h3
    | some v => rw [e] at h3; simp at h3; rw [h3]
theorem freeN_part (tk : List Bool) (b x : Int) (hb : 0 ≤ b) (h0 : 0 ≤ x) (hl : x + b ≤ tk.length) : decide (true ∈ (tk.take (x + b).toNat).drop x.toNat) = !freeN tk b.toNat x := by
  have h := freeN_iff tk b.toNat x h0 (by omega)
  have h2 := mem_part tk x.toNat (x + b).toNat
  cases c : freeN tk b.toNat x with
  | true =>
    have h3 := h.1 c
    refine decide_eq_false fun hm => ?_
    obtain ⟨j, h4, h5, h6⟩ := h2.1 hm
    rw [h3 j (by omega) (by omega)] at h6
    cases h6
  | false =>
    refine decide_eq_true ?_
    refine Classical.byContradiction fun hm => ?_
    have : freeN tk b.toNat x = true := h.2 fun j h4 h5 => by
      cases e : tk.getD j false with
      | false => rfl
      | true => exact absurd (h2.2 ⟨j, by omega, by omega, e⟩) hm
    rw [c] at this
    cases this
theorem impl_driveLong_l0 : ∀ (t p q u : List Int) (tk : List Bool) (out : List Int), p.length = q.length → t.length = u.length → p.length + t.length ≤ 100 → out.length ≤ p.length → tk.length ≤ 500 →
    (∀ x ∈ t, 0 ≤ x ∧ x < 500) → (∀ x ∈ u, 1 ≤ x ∧ x ≤ 12) →
    Ev (fun k => impl_driveLong.l0 k (q ++ u) tk out (p ++ t) ((p ++ t).length : Int) (p.length : Int)) (longD tk out t u)
  | [], p, q, u, tk, out, hpq, htu, hn, ho, htk, hb, hu => by
    refine Ev.ret fun k => ?_
    rw [impl_driveLong.l0, if_neg (by simp)]
    simp [longD]
  | a :: t, p, q, [], tk, out, hpq, htu, hn, ho, htk, hb, hu => by simp at htu
  | a :: t, p, q, b :: u, tk, out, hpq, htu, hn, ho, htk, hb, hu => by
    have hn' : p.length + t.length + 1 ≤ 100 := by simpa [Nat.add_assoc] using hn
    have hm := len_mid p a t
    have ha := hb a (by simp)
    have hb1 := hu b (by simp)
    have hr := slot_range tk ((tk.length : Int) - a).toNat a
    have eb : rd (q ++ b :: u) (p.length : Int) = b := by rw [hpq]; exact rd_mid q b u
    have hq : ((p.length : Nat) : Int) < ((q ++ b :: u).length : Int) := by rw [hpq]; simp; omega
    have f := freeN_end tk b.toNat (slot tk ((tk.length : Int) - a).toNat a)
    refine Ev.step (f := fun k => impl_driveLong.l1 k (q ++ b :: u) tk out p.length a (p ++ a :: t) ((p ++ a :: t).length : Int) p.length) (fun k => ?_) ?_
    · rw [impl_driveLong.l0, if_pos (by omega), if_pos (by omega), if_pos (by omega), rd_mid]
    refine impl_driveLong_l1 _ tk out _ _ _ _ _ (by omega) _ a ha.1 rfl ?_
    generalize hx : slot tk ((tk.length : Int) - a).toNat a = x at *
    by_cases c : x + b > (tk.length : Int)
    · have f2 : freeN tk b.toNat x = false := by
        cases e : freeN tk b.toNat x with
        | false => rfl
        | true => have := f e; omega
      rw [longD, hx, f2, if_neg (by simp)]
      refine Ev.step (f := fun k => impl_driveLong.j3 k (q ++ b :: u) tk out x (x + b) (p ++ a :: t) ((p ++ a :: t).length : Int) p.length true) (fun k => ?_) (Ev.ret fun k => ?_)
      · rw [impl_driveLong.j2, if_pos (by omega), if_pos hq, eb, w64 (by omega) (by omega), if_pos c]
      · rw [impl_driveLong.j3, if_pos rfl]
    · refine Ev.step (f := fun k => (slices_Contains_bool_bool.f k ((tk.take (x + b).toNat).drop x.toNat) true).bind fun t164 => impl_driveLong.j3 k (q ++ b :: u) tk out x (x + b) (p ++ a :: t) ((p ++ a :: t).length : Int) p.length t164) (fun k => ?_) ?_
      · rw [impl_driveLong.j2, if_pos (by omega), if_pos hq, eb, w64 (by omega) (by omega), if_neg c, if_pos (by omega), if_pos (by omega), if_pos (by omega)]
      refine Ev.bind (ev_slices_ContainsB _ true (by simp; omega)) ?_
      rw [freeN_part tk b x (by omega) (by omega) (by omega)]
      cases c2 : freeN tk b.toNat x with
      | false =>
        rw [longD, hx, c2, if_neg (by simp)]
        refine Ev.ret fun k => ?_
        rw [impl_driveLong.j3, if_pos (by simp)]
      | true =>
        have ih := impl_driveLong_l0 t (p ++ [a]) (q ++ [b]) u (fillN tk b.toNat x) (out ++ [x]) (by simp [hpq]) (by simpa using htu) (by simp; omega) (by simp; omega) (by rw [fillN_length]; exact htk) (fun x hx => hb x (by simp [hx])) (fun x hx => hu x (by simp [hx]))
        rw [app_snoc p a t, app_snoc q b u, len_snoc p a] at ih
        rw [longD, hx, c2, if_pos rfl]
        refine Ev.step (fun k => by rw [impl_driveLong.j3, if_neg (by simp)]) ?_
        exact impl_driveLong_l2 _ out _ _ _ _ _ _ (by omega) (by omega) (by omega) (by omega) b.toNat _ tk (by omega) (by omega) (by omega) ih
theorem ev_impl_driveLong (l m : List Int) (h : longs l m = true) : Ev (fun k => impl_driveLong.f k l m) (longD (List.replicate m.sum.toNat false) [] l m) := by
  obtain ⟨h1, h2, h3⟩ := (longs_iff l m).1 h
  have h4 := (lens_iff m).1 h1
  have hs := lens_sum h1
  refine Ev.bind (ev_impl_total m (by omega) (fun x hx => by have := h4.2.1 x hx; omega)) ?_
  refine Ev.congr (fun k => by rw [if_pos (by omega), if_pos (by omega)]) ?_
  exact impl_driveLong_l0 l [] [] m _ [] rfl h2 (by simp; omega) (by simp) (by simp; omega) (fun x hx => by have := h3 x hx; omega) (fun x hx => by have := h4.2.1 x hx; omega)

theorem blockedCar_both (l m : List Int) (hl : l.length ≤ 35184372088832) (hm : m.length ≤ 35184372088832) : ∃ r : Int × Bool, Ev (fun k => spec_BlockedCar.f k l m) r ∧ Ev (fun k => impl_BlockedCar.f k l m) r := by
  cases c : longs l m with
  | false =>
    refine ⟨(0, false), ?_, ?_⟩
    · refine Ev.bind (ev_spec_loTask l m hl) ?_
      rw [c]
      exact Ev.congr (fun k => by rw [if_neg (by simp)]) (Ev.now _)
    · refine Ev.bind (ev_impl_areLong l m hl) ?_
      rw [c]
      exact Ev.congr (fun k => by rw [if_neg (by simp)]) (Ev.now _)
  | true =>
    refine ⟨if ((longD (List.replicate m.sum.toNat false) [] l m).length : Int) = (l.length : Int) then (0, false) else (((longD (List.replicate m.sum.toNat false) [] l m).length : Int), true), ?_, ?_⟩
    · refine Ev.bind (ev_spec_loTask l m hl) ?_
      rw [c]
      refine Ev.congr (fun k => by rw [if_pos rfl]) ?_
      refine Ev.bind (ev_spec_loDrive l m c) ?_
      split
      · exact Ev.now _
      · exact Ev.now _
    · refine Ev.bind (ev_impl_areLong l m hl) ?_
      rw [c]
      refine Ev.congr (fun k => by rw [if_pos rfl]) ?_
      refine Ev.bind (ev_impl_driveLong l m c) ?_
      split
      · exact Ev.now _
      · exact Ev.now _

theorem FnExactBlockedCar : laws_FnExactBlockedCar.Pure := by
  intro l0 l1 _ _ _ _ _ _
  by_cases c0 : (l0.length : Int) > 1048576
  · refine ⟨0, ?_⟩
    rw [laws_FnExactBlockedCar.f, if_pos c0]
  by_cases c1 : (l1.length : Int) > 1048576
  · refine ⟨0, ?_⟩
    rw [laws_FnExactBlockedCar.f, if_neg c0, if_pos c1]
  have hl0 : l0.length ≤ 35184372088832 := by omega
  have hl1 : l1.length ≤ 35184372088832 := by omega
  obtain ⟨r, hs, hi⟩ := blockedCar_both l0 l1 hl0 hl1
  refine Ev.rounds ?_
  refine Ev.congr (fun k => by rw [laws_FnExactBlockedCar.f, if_neg c0, if_neg c1]) ?_
  refine Ev.bind (ev_toIntS l0 hl0) ?_
  refine Ev.bind (ev_toIntS l1 hl1) ?_
  refine Ev.bind (hs) ?_
  refine Ev.bind (ev_toIntS l0 hl0) ?_
  refine Ev.bind (ev_toIntS l1 hl1) ?_
  refine Ev.bind (hi) ?_
  refine Ev.congr (fun k => by rw [if_pos rfl, bne_self_eq_false]) ?_
  refine Ev.step (fun k => by rw [laws_FnExactBlockedCar.j0, if_neg (by simp)]) ?_
  refine Ev.bind (ev_toIntS l0 hl0) ?_
  refine Ev.bind (ev_eqIntS l0 hl0) ?_
  refine Ev.congr (fun k => by rw [if_pos rfl]) ?_
  refine Ev.bind (ev_toIntS l1 hl1) ?_
  refine Ev.bind (ev_eqIntS l1 hl1) ?_
  refine Ev.congr (fun k => by rw [if_pos rfl]) ?_
  exact Ev.now true

end Go.Proofs.Ytkmojdkkiolalaa.Pure
