/- CountLong of the program and of the reference agree on every list, and the argument stays. -/
import Derived.Test.YtljggaekcojpnaaWSized
import Derived.Test.YtljggaekcojpnaaPFnExactCountLongx
namespace Go.Proofs.Ytljggaekcojpnaa.PrintWords
open Go.ChangeShapes Go.WideShapes
/-- The word by the name that the printed row asks for. -/
theorem sized_ints {H : Type} {enc : TypeId × Value → H} {P : Program} {W : World} {base : Nat} {spare : Nat → Bool} {held : Bool} {t e : TypeId} {k : IntKind} {a : Option Addr} {len cap : Nat} {d : DataW H} {ps : List MemPlace} {ts : List TypeId} {ds : List (DataW H)} {j : Nat}
    (hsz : (DataW.weightsEach P ts ds).all (· ≤ reachBytes) = true) (ht : ts[j]? = some t) (hd : ds[j]? = some d) (hu : P.underlying t = some (.slice e)) (he : P.underlying e = some (.int k)) (hc : P.cellsOf e = 1) {B : Nat} (hB : P.bytesOf e = B)
    (h : DataW.Trod enc P W base spare held t (.slice a len cap) d ps) : len * B ≤ 140737488351232 :=
  Go.Proofs.YtljggaekcojpnaaW.PrintWords.sized_ints hsz ht hd hu he hc hB h
end Go.Proofs.Ytljggaekcojpnaa.PrintWords
namespace Go.Proofs.Ytljggaekcojpnaa.Pure
open Go.RowKit Go.Proofs.Ytljggaekcojpnaa.PFnExactCountLong Go.Proofs.YtljggaekcojpnaaW.PrintWords Go.Proofs.YtljggaekcojpnaaW.PrintLast
set_option linter.unusedVariables false
set_option linter.unusedSimpArgs false

theorem w64 {x : Int} (h0 : -9223372036854775808 ≤ x) (h1 : x ≤ 9223372036854775807) : wrap64 x = x := by
  unfold wrap64
  omega
theorem rd_mid (p : List Int) (h : Int) (t : List Int) : rd (p ++ h :: t) (p.length : Int) = h := by
  unfold rd
  simp
theorem rd_nat (l : List Int) (i : Nat) : rd l (i : Int) = l.getD i 0 := by
  unfold rd
  simp
theorem Ev.ret {α : Type} {g : Nat → Option α} {r : α} (h : ∀ k, g (k + 1) = some r) : Ev g r :=
  Ev.step (f := fun _ => some r) h (Ev.now r)

theorem toIntS_l0 : ∀ (t p : List Int), p.length + t.length ≤ 35184372088832 →
    Ev (fun k => laws_toIntS.l0 k (p ++ t) (p ++ List.replicate t.length 0) (p.length : Int)) (p ++ t)
  | [], p, _ => by
    refine Ev.ret fun k => ?_
    rw [laws_toIntS.l0, if_neg (by simp)]
    simp
  | h :: t, p, hn => by
    have hn' : p.length + t.length + 1 ≤ 35184372088832 := by simpa [Nat.add_assoc] using hn
    have ih := toIntS_l0 t (p ++ [h]) (by simp; omega)
    have e1 : (p ++ [h]) ++ t = p ++ h :: t := by simp
    have e2 : (((p ++ [h]).length : Nat) : Int) = (p.length : Int) + 1 := by simp
    rw [e1, e2] at ih
    refine Ev.step (fun k => ?_) ih
    show laws_toIntS.l0 (k + 1) (p ++ h :: t) (p ++ List.replicate (h :: t).length 0) (p.length : Int) = _
    rw [laws_toIntS.l0, if_pos (by simp; omega), if_pos (by omega), if_pos (by simp; omega), rd_mid, w64 (by omega) (by omega)]
    congr 1
    simp [List.replicate_succ, List.set_append]
theorem ev_toIntS (l : List Int) (h : l.length ≤ 35184372088832) : Ev (fun k => laws_toIntS.f k l) l := by
  have z := toIntS_l0 l [] (by simpa using h)
  refine Ev.congr (fun k => ?_) z
  show laws_toIntS.f k l = _
  rw [laws_toIntS.f, if_pos (by omega), if_pos (by simpa using h)]
  simp

theorem eqIntS_l0 : ∀ (t p : List Int), p.length + t.length ≤ 35184372088832 →
    Ev (fun k => laws_eqIntS.l0 k (p ++ t) (p ++ t) (p.length : Int)) true
  | [], p, _ => by
    refine Ev.ret fun k => ?_
    rw [laws_eqIntS.l0, if_neg (by simp)]
  | h :: t, p, hn => by
    have hn' : p.length + t.length + 1 ≤ 35184372088832 := by simpa [Nat.add_assoc] using hn
    have ih := eqIntS_l0 t (p ++ [h]) (by simp; omega)
    have e1 : (p ++ [h]) ++ t = p ++ h :: t := by simp
    have e2 : (((p ++ [h]).length : Nat) : Int) = (p.length : Int) + 1 := by simp
    rw [e1, e2] at ih
    refine Ev.step (fun k => ?_) ih
    show laws_eqIntS.l0 (k + 1) (p ++ h :: t) (p ++ h :: t) (p.length : Int) = _
    rw [laws_eqIntS.l0, if_pos (by simp; omega), if_pos (by omega), if_pos (by simp; omega), rd_mid, if_pos rfl, w64 (by omega) (by omega)]
theorem ev_eqIntS (l : List Int) (h : l.length ≤ 35184372088832) : Ev (fun k => laws_eqIntS.f k l l) true := by
  have z := eqIntS_l0 l [] (by simpa using h)
  refine Ev.congr (fun k => ?_) z
  show laws_eqIntS.f k l l = _
  rw [laws_eqIntS.f, if_pos rfl]
  rfl

/-- One step of a walk along a list: what stands behind the place. -/
theorem len_snoc (p : List Int) (h : Int) : (((p ++ [h]).length : Nat) : Int) = (p.length : Int) + 1 := by simp
theorem app_snoc (p : List Int) (h : Int) (t : List Int) : (p ++ [h]) ++ t = p ++ h :: t := by simp
theorem len_mid (p : List Int) (h : Int) (t : List Int) : ((p ++ h :: t).length : Int) = (p.length : Int) + t.length + 1 := by simp; omega

/-- All numbers lie from lo to hi. -/
def inAll (lo hi : Int) (l : List Int) : Bool := l.all fun n => decide (lo ≤ n) && decide (n ≤ hi)
theorem inAll_iff (lo hi : Int) (l : List Int) : inAll lo hi l = true ↔ ∀ x ∈ l, lo ≤ x ∧ x ≤ hi := by
  simp [inAll, List.all_eq_true]
theorem inAll_cons (lo hi x : Int) (l : List Int) : inAll lo hi (x :: l) = ((decide (lo ≤ x) && decide (x ≤ hi)) && inAll lo hi l) := by
  simp [inAll]

theorem sum_bounds (lo hi : Int) : ∀ (l : List Int), inAll lo hi l = true → lo * (l.length : Int) ≤ l.sum ∧ l.sum ≤ hi * (l.length : Int)
  | [], _ => by simp
  | h :: t, hh => by
    rw [inAll_cons, Bool.and_eq_true, Bool.and_eq_true, decide_eq_true_eq, decide_eq_true_eq] at hh
    have ih := sum_bounds lo hi t hh.2
    have e : ((h :: t).length : Int) = (t.length : Int) + 1 := by simp
    have e1 : lo * ((t.length : Int) + 1) = lo * (t.length : Int) + lo := by rw [Int.mul_add, Int.mul_one]
    have e2 : hi * ((t.length : Int) + 1) = hi * (t.length : Int) + hi := by rw [Int.mul_add, Int.mul_one]
    rw [e, e1, e2, List.sum_cons]
    omega

theorem spec_paSum_l0 : ∀ (t p : List Int) (a : Int), p.length + t.length ≤ 35184372088832 → 0 ≤ a → (∀ x ∈ t, 0 ≤ x ∧ x ≤ 1000) → a + 1000 * (t.length : Int) ≤ 9223372036854775807 →
    Ev (fun k => spec_paSum.l0 k a (p ++ t) ((p ++ t).length : Int) (p.length : Int)) (a + t.sum)
  | [], p, a, _, _, _, _ => by
    refine Ev.ret fun k => ?_
    rw [spec_paSum.l0, if_neg (by simp)]
    simp
  | h :: t, p, a, hn, ha, hb, hs => by
    have hn' : p.length + t.length + 1 ≤ 35184372088832 := by simpa [Nat.add_assoc] using hn
    have hm := len_mid p h t
    have hh := hb h (by simp)
    have hs' : a + 1000 * ((t.length : Int) + 1) ≤ 9223372036854775807 := by simpa using hs
    have ih := spec_paSum_l0 t (p ++ [h]) (a + h) (by simp; omega) (by omega) (fun x hx => hb x (by simp [hx])) (by omega)
    rw [app_snoc, len_snoc] at ih
    rw [List.sum_cons, ← Int.add_assoc]
    refine Ev.step (fun k => ?_) ih
    show spec_paSum.l0 (k + 1) a (p ++ h :: t) ((p ++ h :: t).length : Int) (p.length : Int) = _
    rw [spec_paSum.l0, if_pos (by omega), if_pos (by omega), if_pos (by omega), rd_mid, w64 (by omega) (by omega), w64 (by omega) (by omega)]
theorem ev_spec_paSum (l : List Int) (hl : l.length ≤ 35184372088832) (hb : ∀ x ∈ l, 0 ≤ x ∧ x ≤ 1000) : Ev (fun k => spec_paSum.f k l) l.sum := by
  have h := spec_paSum_l0 l [] 0 (by simpa using hl) (by omega) hb (by omega)
  rw [Int.zero_add] at h
  exact h

theorem impl_total_l0 : ∀ (t p : List Int) (a : Int), p.length + t.length ≤ 35184372088832 → 0 ≤ a → (∀ x ∈ t, 0 ≤ x ∧ x ≤ 1000) → a + 1000 * (t.length : Int) ≤ 9223372036854775807 →
    Ev (fun k => impl_total.l0 k a (p ++ t) ((p ++ t).length : Int) (p.length : Int)) (a + t.sum)
  | [], p, a, _, _, _, _ => by
    refine Ev.ret fun k => ?_
    rw [impl_total.l0, if_neg (by simp)]
    simp
  | h :: t, p, a, hn, ha, hb, hs => by
    have hn' : p.length + t.length + 1 ≤ 35184372088832 := by simpa [Nat.add_assoc] using hn
    have hm := len_mid p h t
    have hh := hb h (by simp)
    have hs' : a + 1000 * ((t.length : Int) + 1) ≤ 9223372036854775807 := by simpa using hs
    have ih := impl_total_l0 t (p ++ [h]) (a + h) (by simp; omega) (by omega) (fun x hx => hb x (by simp [hx])) (by omega)
    rw [app_snoc, len_snoc] at ih
    rw [List.sum_cons, ← Int.add_assoc]
    refine Ev.step (fun k => ?_) ih
    show impl_total.l0 (k + 1) a (p ++ h :: t) ((p ++ h :: t).length : Int) (p.length : Int) = _
    rw [impl_total.l0, if_pos (by omega), if_pos (by omega), if_pos (by omega), rd_mid, w64 (by omega) (by omega), w64 (by omega) (by omega)]
theorem ev_impl_total (l : List Int) (hl : l.length ≤ 35184372088832) (hb : ∀ x ∈ l, 0 ≤ x ∧ x ≤ 1000) : Ev (fun k => impl_total.f k l) l.sum := by
  have h := impl_total_l0 l [] 0 (by simpa using hl) (by omega) hb (by omega)
  rw [Int.zero_add] at h
  exact h

theorem ev_spec_l1In (a b c : Int) : spec_l1In.f a b c = some (decide (b ≤ a) && decide (a ≤ c)) := by
  unfold spec_l1In.f
  by_cases h : a ≥ b
  · rw [if_pos h]; simp [show b ≤ a from h]
  · rw [if_neg h]; simp [show ¬ b ≤ a from h]

theorem spec_l1All_l0 (lo hi : Int) : ∀ (t p : List Int), p.length + t.length ≤ 35184372088832 →
    Ev (fun k => spec_l1All.l0 k lo hi (p ++ t) ((p ++ t).length : Int) (p.length : Int)) (inAll lo hi t)
  | [], p, _ => by
    refine Ev.ret fun k => ?_
    rw [spec_l1All.l0, if_neg (by simp)]
    rfl
  | h :: t, p, hn => by
    have hn' : p.length + t.length + 1 ≤ 35184372088832 := by simpa [Nat.add_assoc] using hn
    have hm := len_mid p h t
    rw [inAll_cons]
    cases c : decide (lo ≤ h) && decide (h ≤ hi) with
    | true =>
      have ih := spec_l1All_l0 lo hi t (p ++ [h]) (by simp; omega)
      rw [app_snoc, len_snoc] at ih
      rw [Bool.true_and]
      refine Ev.step (fun k => ?_) ih
      show spec_l1All.l0 (k + 1) lo hi (p ++ h :: t) ((p ++ h :: t).length : Int) (p.length : Int) = _
      rw [spec_l1All.l0, if_pos (by omega), if_pos (by omega), if_pos (by omega), rd_mid, ev_spec_l1In, c, Option.bind_some, if_pos rfl, w64 (by omega) (by omega)]
    | false =>
      rw [Bool.false_and]
      refine Ev.ret fun k => ?_
      rw [spec_l1All.l0, if_pos (by omega), if_pos (by omega), if_pos (by omega), rd_mid, ev_spec_l1In, c]
      rfl
theorem ev_spec_l1All (l : List Int) (lo hi : Int) (hl : l.length ≤ 35184372088832) : Ev (fun k => spec_l1All.f k l lo hi) (inAll lo hi l) :=
  spec_l1All_l0 lo hi l [] (by simpa using hl)

theorem ev_impl_between (a b c : Int) : impl_between.f a b c = some (decide (b ≤ a) && decide (a ≤ c)) := by
  unfold impl_between.f
  by_cases h : a ≥ b
  · rw [if_pos h]; simp [show b ≤ a from h]
  · rw [if_neg h]; simp [show ¬ b ≤ a from h]

theorem slices_IndexFunc_l0 (q : Int → Bool) : ∀ (t p : List Int), p.length + t.length ≤ 35184372088832 →
    ∃ r : Int, decide (r ≥ 0) = t.any q ∧ Ev (fun k => slices_IndexFunc_int_int.l0 q k (p ++ t) ((p ++ t).length : Int) (p.length : Int)) r
  | [], p, _ => by
    refine ⟨-1, by simp, Ev.ret fun k => ?_⟩
    rw [slices_IndexFunc_int_int.l0, if_neg (by simp)]
  | h :: t, p, hn => by
    have hn' : p.length + t.length + 1 ≤ 35184372088832 := by simpa [Nat.add_assoc] using hn
    have hm := len_mid p h t
    cases c : q h with
    | true =>
      refine ⟨p.length, by simp [c], Ev.ret fun k => ?_⟩
      rw [slices_IndexFunc_int_int.l0, if_pos (by omega), if_pos (by omega), if_pos (by omega), rd_mid, c, Option.bind_some, if_pos rfl]
    | false =>
      obtain ⟨r, hr, ih⟩ := slices_IndexFunc_l0 q t (p ++ [h]) (by simp; omega)
      rw [app_snoc, len_snoc] at ih
      refine ⟨r, by simpa [c] using hr, Ev.step (fun k => ?_) ih⟩
      show slices_IndexFunc_int_int.l0 q (k + 1) (p ++ h :: t) ((p ++ h :: t).length : Int) (p.length : Int) = _
      rw [slices_IndexFunc_int_int.l0, if_pos (by omega), if_pos (by omega), if_pos (by omega), rd_mid, c, Option.bind_some, if_neg (by simp), w64 (by omega) (by omega)]
theorem ev_containsFunc (q : Int → Bool) (l : List Int) (hl : l.length ≤ 35184372088832) : Ev (fun k => slices_ContainsFunc_int_int.f q k l) (l.any q) := by
  obtain ⟨r, hr, h⟩ := slices_IndexFunc_l0 q l [] (by simpa using hl)
  rw [← hr]
  exact Ev.congr (fun k => rfl) (Ev.bind h (Ev.now _))

theorem ev_impl_areBetween (l : List Int) (lo hi : Int) (hl : l.length ≤ 35184372088832) : Ev (fun k => impl_areBetween.f k l lo hi) (inAll lo hi l) := by
  have e : (!(l.any (impl_areBetween_1.p lo hi))) = inAll lo hi l := by
    have hp : ∀ n, impl_areBetween_1.p lo hi n = !(decide (lo ≤ n) && decide (n ≤ hi)) := fun n => by
      simp [impl_areBetween_1.p, ev_impl_between]
    unfold inAll
    induction l with
    | nil => rfl
    | cons x t ih =>
      rw [List.any_cons, List.all_cons, Bool.not_or, ih (by simp at hl; omega), hp, Bool.not_not]
  rw [← e]
  exact Ev.congr (fun k => rfl) (Ev.bind (ev_containsFunc (impl_areBetween_1.p lo hi) l hl) (Ev.now _))

/-- Lengths of long cars. -/
def lens (l : List Int) : Bool := (decide (1 ≤ (l.length : Int)) && decide ((l.length : Int) ≤ 8)) && (inAll 1 12 l && decide (l.sum ≤ 12))
theorem lens_iff (l : List Int) : lens l = true ↔ (1 ≤ l.length ∧ l.length ≤ 8) ∧ (∀ x ∈ l, 1 ≤ x ∧ x ≤ 12) ∧ l.sum ≤ 12 := by
  simp only [lens, Bool.and_eq_true, decide_eq_true_eq, inAll_iff]
  constructor
  · rintro ⟨⟨h1, h2⟩, h3, h4⟩
    exact ⟨⟨by omega, by omega⟩, h3, h4⟩
  · rintro ⟨⟨h1, h2⟩, h3, h4⟩
    exact ⟨⟨by omega, by omega⟩, h3, h4⟩
theorem ev_spec_loLengths (l : List Int) : Ev (fun k => spec_loLengths.f k l) (lens l) := by
  cases c : decide (1 ≤ (l.length : Int)) && decide ((l.length : Int) ≤ 8) with
  | false =>
    refine Ev.congr (fun k => ?_) (Ev.now _)
    show spec_loLengths.f k l = _
    rw [spec_loLengths.f, ev_spec_l1In, c]
    simp only [lens, c]
    rfl
  | true =>
    have cc : 1 ≤ (l.length : Int) ∧ (l.length : Int) ≤ 8 := by simpa using c
    refine Ev.congr (fun k => by rw [spec_loLengths.f, ev_spec_l1In, c, Option.bind_some, if_pos rfl]) ?_
    refine Ev.bind (ev_spec_l1All l 1 12 (by omega)) ?_
    cases d : inAll 1 12 l with
    | false =>
      have e : lens l = false := by simp [lens, d]
      rw [e]
      exact Ev.congr (fun k => by rw [if_neg (by simp)]) (Ev.now _)
    | true =>
      have e : lens l = decide (l.sum ≤ 12) := by simp only [lens, c, d, Bool.true_and]
      rw [e]
      have hb := (inAll_iff 1 12 l).1 d
      refine Ev.congr (fun k => by rw [if_pos rfl]) ?_
      exact Ev.bind (ev_spec_paSum l (by omega) (fun x hx => by have := hb x hx; omega)) (Ev.now _)
theorem ev_impl_areLengths (l : List Int) : Ev (fun k => impl_areLengths.f k l) (lens l) := by
  cases c : decide (1 ≤ (l.length : Int)) && decide ((l.length : Int) ≤ 8) with
  | false =>
    refine Ev.congr (fun k => ?_) (Ev.now _)
    show impl_areLengths.f k l = _
    rw [impl_areLengths.f, ev_impl_between, c]
    simp only [lens, c]
    rfl
  | true =>
    have cc : 1 ≤ (l.length : Int) ∧ (l.length : Int) ≤ 8 := by simpa using c
    refine Ev.congr (fun k => by rw [impl_areLengths.f, ev_impl_between, c, Option.bind_some, if_pos rfl]) ?_
    refine Ev.bind (ev_impl_areBetween l 1 12 (by omega)) ?_
    cases d : inAll 1 12 l with
    | false =>
      have e : lens l = false := by simp [lens, d]
      rw [e]
      exact Ev.congr (fun k => by rw [if_neg (by simp)]) (Ev.now _)
    | true =>
      have e : lens l = decide (l.sum ≤ 12) := by simp only [lens, c, d, Bool.true_and]
      rw [e]
      have hb := (inAll_iff 1 12 l).1 d
      refine Ev.congr (fun k => by rw [if_pos rfl]) ?_
      exact Ev.bind (ev_impl_total l (by omega) (fun x hx => by have := hb x hx; omega)) (Ev.now _)

/-- The product, so many factors on. -/
def prodL (l : List Int) : Nat → Nat → Int → Int
  | 0, _, a => a
  | d + 1, i, a => prodL l d (i + 1) (wrap64 (a * (wrap64 ((wrap64 ((wrap64 ((l.take i).sum + (l.length : Int))) - (i : Int))) + 1))))
theorem spec_CountLong_l0 (l : List Int) (h : lens l = true) : ∀ (d i : Nat) (a : Int), i + d = l.length → Ev (fun k => spec_CountLong.l0 k l (l.length : Int) a (i : Int)) (prodL l d i a, true)
  | 0, i, a, hd => by
    have hm := (lens_iff l).1 h
    refine Ev.ret fun k => ?_
    rw [spec_CountLong.l0, if_neg (by omega), prodL]
  | d + 1, i, a, hd => by
    have hm := (lens_iff l).1 h
    have ih := spec_CountLong_l0 l h d (i + 1) (wrap64 (a * (wrap64 ((wrap64 ((wrap64 ((l.take i).sum + (l.length : Int))) - (i : Int))) + 1)))) (by omega)
    rw [show ((i + 1 : Nat) : Int) = (i : Int) + 1 by omega] at ih
    rw [prodL]
    refine Ev.step (f := fun k => (spec_paSum.f k (l.take i)).bind fun t => spec_CountLong.l0 k l (l.length : Int) (wrap64 (a * (wrap64 ((wrap64 ((wrap64 (t + (l.length : Int))) - (i : Int))) + 1)))) (wrap64 ((i : Int) + 1))) (fun k => ?_) (Ev.bind (ev_spec_paSum (l.take i) (by simp; omega) (fun x hx => by have := hm.2.1 x (List.mem_of_mem_take hx); omega)) ?_)
    · rw [spec_CountLong.l0, if_pos (by omega), if_pos (by omega), if_pos (by omega), Int.toNat_natCast]
    · rw [w64 (x := (i : Int) + 1) (by omega) (by omega)]
      exact ih
theorem impl_CountLong_l0 (l : List Int) (h : lens l = true) : ∀ (d i : Nat) (a : Int), i + d = l.length → Ev (fun k => impl_CountLong.l0 k l a (l.length : Int) (i : Int)) (prodL l d i a, true)
  | 0, i, a, hd => by
    have hm := (lens_iff l).1 h
    refine Ev.ret fun k => ?_
    rw [impl_CountLong.l0, if_neg (by omega), prodL]
  | d + 1, i, a, hd => by
    have hm := (lens_iff l).1 h
    have ih := impl_CountLong_l0 l h d (i + 1) (wrap64 (a * (wrap64 ((wrap64 ((wrap64 ((l.take i).sum + (l.length : Int))) - (i : Int))) + 1)))) (by omega)
    rw [show ((i + 1 : Nat) : Int) = (i : Int) + 1 by omega] at ih
    rw [prodL]
    refine Ev.step (f := fun k => (impl_total.f k (l.take i)).bind fun t => impl_CountLong.l0 k l (wrap64 (a * (wrap64 ((wrap64 ((wrap64 (t + (l.length : Int))) - (i : Int))) + 1)))) (l.length : Int) (wrap64 ((i : Int) + 1))) (fun k => ?_) (Ev.bind (ev_impl_total (l.take i) (by simp; omega) (fun x hx => by have := hm.2.1 x (List.mem_of_mem_take hx); omega)) ?_)
    · rw [impl_CountLong.l0, if_pos (by omega), if_pos (by omega), if_pos (by omega), Int.toNat_natCast]
    · rw [w64 (x := (i : Int) + 1) (by omega) (by omega)]
      exact ih
theorem countLong_both (l : List Int) (hl : l.length ≤ 35184372088832) : ∃ r : Int × Bool, Ev (fun k => spec_CountLong.f k l) r ∧ Ev (fun k => impl_CountLong.f k l) r := by
  cases c : lens l with
  | false =>
    refine ⟨(0, false), ?_, ?_⟩
    · refine Ev.congr (fun k => rfl) (Ev.bind (ev_spec_loLengths l) ?_)
      rw [c]; exact Ev.now _
    · refine Ev.congr (fun k => rfl) (Ev.bind (ev_impl_areLengths l) ?_)
      rw [c]; exact Ev.now _
  | true =>
    have hm := (lens_iff l).1 c
    refine ⟨(prodL l (l.length - 1) 1 1, true), ?_, ?_⟩
    · refine Ev.congr (fun k => rfl) (Ev.bind (ev_spec_loLengths l) ?_)
      rw [c]
      exact Ev.congr (fun k => by rw [if_pos rfl]; rfl) (spec_CountLong_l0 l c (l.length - 1) 1 1 (by omega))
    · refine Ev.congr (fun k => rfl) (Ev.bind (ev_impl_areLengths l) ?_)
      rw [c]
      exact Ev.congr (fun k => by rw [if_pos rfl]; rfl) (impl_CountLong_l0 l c (l.length - 1) 1 1 (by omega))

theorem FnExactCountLong : laws_FnExactCountLong.Pure := by
  intro l0 _ _ _
  by_cases c0 : (l0.length : Int) > 1048576
  · refine ⟨0, ?_⟩
    rw [laws_FnExactCountLong.f, if_pos c0]
  have hl0 : l0.length ≤ 35184372088832 := by omega
  obtain ⟨r, hs, hi⟩ := countLong_both l0 hl0
  refine Ev.rounds ?_
  refine Ev.congr (fun k => by rw [laws_FnExactCountLong.f, if_neg c0]) ?_
  refine Ev.bind (ev_toIntS l0 hl0) ?_
  refine Ev.bind (hs) ?_
  refine Ev.bind (ev_toIntS l0 hl0) ?_
  refine Ev.bind (hi) ?_
  refine Ev.congr (fun k => by rw [if_pos rfl, bne_self_eq_false]) ?_
  refine Ev.step (fun k => by rw [laws_FnExactCountLong.j0, if_neg (by simp)]) ?_
  refine Ev.bind (ev_toIntS l0 hl0) ?_
  refine Ev.bind (ev_eqIntS l0 hl0) ?_
  refine Ev.congr (fun k => by rw [if_pos rfl]) ?_
  exact Ev.now true

end Go.Proofs.Ytljggaekcojpnaa.Pure
