/- InversionPairs of the program and of the reference agree on every list, the argument stays, and nothing is shared. -/
import Derived.Test.YtmollfkakalagaaWSized
import Derived.Test.YtmollfkakalagaaPFnExactInversionPairsx
namespace Go.Proofs.Ytmollfkakalagaa.PrintWords
open Go.ChangeShapes Go.WideShapes
/-- The word by the name that the printed row asks for. -/
theorem sized_ints {H : Type} {enc : TypeId × Value → H} {P : Program} {W : World} {base : Nat} {spare : Nat → Bool} {held : Bool} {t e : TypeId} {k : IntKind} {a : Option Addr} {len cap : Nat} {d : DataW H} {ps : List MemPlace} {ts : List TypeId} {ds : List (DataW H)} {j : Nat}
    (hsz : (DataW.weightsEach P ts ds).all (· ≤ reachBytes) = true) (ht : ts[j]? = some t) (hd : ds[j]? = some d) (hu : P.underlying t = some (.slice e)) (he : P.underlying e = some (.int k)) (hc : P.cellsOf e = 1) {B : Nat} (hB : P.bytesOf e = B)
    (h : DataW.Trod enc P W base spare held t (.slice a len cap) d ps) : len * B ≤ 140737488351232 :=
  Go.Proofs.YtmollfkakalagaaW.PrintWords.sized_ints hsz ht hd hu he hc hB h
end Go.Proofs.Ytmollfkakalagaa.PrintWords
namespace Go.Proofs.Ytmollfkakalagaa.Pure
open Go.RowKit Go.Proofs.Ytmollfkakalagaa.PFnExactInversionPairs Go.Proofs.YtmollfkakalagaaW.PrintWords Go.Proofs.YtmollfkakalagaaW.PrintLast
set_option linter.unusedVariables false
set_option linter.unusedSimpArgs false

theorem w64 {x : Int} (h0 : -9223372036854775808 ≤ x) (h1 : x ≤ 9223372036854775807) : wrap64 x = x := by
  unfold wrap64
  omega
theorem rd_mid (p : List Int) (h : Int) (t : List Int) : rd (p ++ h :: t) (p.length : Int) = h := by
  unfold rd
  simp
theorem rd_nat (l : List Int) (i : Nat) : rd l (i : Int) = l.getD i 0 := by
  unfold rd
  simp
theorem Ev.ret {α : Type} {g : Nat → Option α} {r : α} (h : ∀ k, g (k + 1) = some r) : Ev g r :=
  Ev.step (f := fun _ => some r) h (Ev.now r)

/-- One step of a walk along a list: what stands behind the place. -/
theorem len_snoc (p : List Int) (h : Int) : (((p ++ [h]).length : Nat) : Int) = (p.length : Int) + 1 := by simp
theorem app_snoc (p : List Int) (h : Int) (t : List Int) : (p ++ [h]) ++ t = p ++ h :: t := by simp
theorem len_mid (p : List Int) (h : Int) (t : List Int) : ((p ++ h :: t).length : Int) = (p.length : Int) + t.length + 1 := by simp; omega

/-- All numbers lie from lo to hi. -/
def inAll (lo hi : Int) (l : List Int) : Bool := l.all fun n => decide (lo ≤ n) && decide (n ≤ hi)
theorem inAll_iff (lo hi : Int) (l : List Int) : inAll lo hi l = true ↔ ∀ x ∈ l, lo ≤ x ∧ x ≤ hi := by
  simp [inAll, List.all_eq_true]
theorem inAll_cons (lo hi x : Int) (l : List Int) : inAll lo hi (x :: l) = ((decide (lo ≤ x) && decide (x ≤ hi)) && inAll lo hi l) := by
  simp [inAll]

/-- Parents lead to the root in so many steps at most. -/
def climb (par : List Int) : Nat → Int → Bool
  | 0, a => decide (a ≤ 0)
  | m + 1, a => if a > 0 then climb par m (rd par (a - 1)) else true
theorem climb_more (par : List Int) : ∀ (m : Nat) (a : Int), climb par m a = true → climb par (m + 1) a = true
  | 0, a, h => by
    simp only [climb, decide_eq_true_eq] at h
    simp only [climb]
    rw [if_neg (by omega)]
  | m + 1, a, h => by
    rw [climb]
    by_cases c : a > 0
    · rw [if_pos c]
      rw [climb, if_pos c] at h
      exact climb_more par m _ h
    · rw [if_neg c]
/-- The node so many steps above. -/
def up (par : List Int) : Nat → Int → Int
  | 0, a => a
  | m + 1, a => up par m (rd par (a - 1))
theorem climb_up (par : List Int) : ∀ (m : Nat) (a : Int), climb par m a = true ↔ ∃ j, j ≤ m ∧ up par j a ≤ 0
  | 0, a => by
    simp only [climb, decide_eq_true_eq]
    constructor
    · exact fun h => ⟨0, Nat.le_refl _, h⟩
    · rintro ⟨j, hj, h⟩
      obtain rfl : j = 0 := by omega
      exact h
  | m + 1, a => by
    rw [climb]
    by_cases c : a > 0
    · rw [if_pos c, climb_up par m]
      constructor
      · rintro ⟨j, hj, h⟩
        exact ⟨j + 1, by omega, h⟩
      · rintro ⟨j, hj, h⟩
        cases j with
        | zero => exact absurd h (by simp only [up]; omega)
        | succ j => exact ⟨j, by omega, h⟩
    · rw [if_neg c]
      exact ⟨fun _ => ⟨0, by omega, by simp only [up]; omega⟩, fun _ => rfl⟩
theorem up_add (par : List Int) : ∀ (i j : Nat) (a : Int), up par (i + j) a = up par j (up par i a)
  | 0, j, a => by rw [Nat.zero_add]; rfl
  | i + 1, j, a => by
    rw [Nat.add_right_comm]
    exact up_add par i j (rd par (a - 1))
/-- Of n + 1 numbers from 1 to n two are alike. -/
theorem two_alike : ∀ (n : Nat) (f : Nat → Int), (∀ i, i ≤ n → 1 ≤ f i ∧ f i ≤ n) → ∃ i j, i < j ∧ j ≤ n ∧ f i = f j
  | 0, f, h => by have := h 0 (by omega); omega
  | n + 1, f, h => by
    by_cases c : ∃ i, i ≤ n ∧ f i = f (n + 1)
    · obtain ⟨i, hi, e⟩ := c
      exact ⟨i, n + 1, by omega, by omega, e⟩
    · -- the last one's value is left out
      let g : Nat → Int := fun i => if f i > f (n + 1) then f i - 1 else f i
      have hg : ∀ i, i ≤ n → 1 ≤ g i ∧ g i ≤ n := by
        intro i hi
        have h1 := h i (by omega)
        have h2 := h (n + 1) (by omega)
        have h3 : f i ≠ f (n + 1) := fun e => c ⟨i, hi, e⟩
        show 1 ≤ (if f i > f (n + 1) then f i - 1 else f i) ∧ (if f i > f (n + 1) then f i - 1 else f i) ≤ n
        split <;> omega
      obtain ⟨i, j, hij, hj, e⟩ := two_alike n g hg
      have h3 : f i ≠ f (n + 1) := fun e => c ⟨i, by omega, e⟩
      have h4 : f j ≠ f (n + 1) := fun e => c ⟨j, by omega, e⟩
      refine ⟨i, j, hij, by omega, ?_⟩
      have e' : (if f i > f (n + 1) then f i - 1 else f i) = (if f j > f (n + 1) then f j - 1 else f j) := e
      split at e' <;> split at e' <;> omega
/-- What is reached in n + 1 steps is reached in n. -/
theorem climb_less (par : List Int) (hp : ∀ x ∈ par, 0 ≤ x ∧ x ≤ par.length) (a : Int) (ha0 : 0 ≤ a) (ha : a ≤ par.length) (h : climb par (par.length + 1) a = true) : climb par par.length a = true := by
  rw [climb_up] at h ⊢
  obtain ⟨j, hj, hu⟩ := h
  by_cases c : ∃ i, i ≤ par.length ∧ up par i a ≤ 0
  · exact c
  · exfalso
    have hpos : ∀ i, i ≤ par.length → 1 ≤ up par i a := fun i hi => by
      have : ¬ up par i a ≤ 0 := fun e => c ⟨i, hi, e⟩
      omega
    have hle : ∀ i, i ≤ par.length → up par i a ≤ par.length := by
      intro i
      induction i with
      | zero => intro _; exact ha
      | succ i ih =>
        intro hi
        have h1 := hpos i (by omega)
        have h2 := ih (by omega)
        rw [up_add par i 1]
        have hr : rd par (up par i a - 1) ∈ par := by
          unfold rd
          rw [List.getD_eq_getElem?_getD, List.getElem?_eq_getElem (by omega)]
          exact List.getElem_mem _
        exact (hp _ hr).2
    obtain ⟨i, k, hik, hk, e⟩ := two_alike par.length (fun i => up par i a) (fun i hi => ⟨hpos i hi, hle i hi⟩)
    have e : up par i a = up par k a := e
    -- j = n + 1: the same place stood earlier
    have hj' : j = par.length + 1 := by
      rcases Nat.lt_or_ge par.length j with h1 | h1
      · omega
      · exact absurd ⟨j, h1, hu⟩ c
    have e2 : up par j a = up par (i + (j - k)) a := by
      rw [show j = k + (j - k) by omega, up_add par k, up_add par i, ← e]
      congr 1
      omega
    have := hpos (i + (j - k)) (by omega)
    omega
/-- A tree: parents lead to the root from each node. -/
def isTr (par : List Int) : Bool := decide (par.length ≤ 8) && inAll 0 par.length par && (List.range par.length).all fun i => climb par par.length ((i : Int) + 1)

theorem ev_spec_l1In (a b c : Int) : spec_l1In.f a b c = some (decide (b ≤ a) && decide (a ≤ c)) := by
  unfold spec_l1In.f
  by_cases h : a ≥ b
  · rw [if_pos h]; simp [show b ≤ a from h]
  · rw [if_neg h]; simp [show ¬ b ≤ a from h]

theorem spec_l1All_l0 (lo hi : Int) : ∀ (t p : List Int), p.length + t.length ≤ 35184372088832 →
    Ev (fun k => spec_l1All.l0 k lo hi (p ++ t) ((p ++ t).length : Int) (p.length : Int)) (inAll lo hi t)
  | [], p, _ => by
    refine Ev.ret fun k => ?_
    rw [spec_l1All.l0, if_neg (by simp)]
    rfl
  | h :: t, p, hn => by
    have hn' : p.length + t.length + 1 ≤ 35184372088832 := by simpa [Nat.add_assoc] using hn
    have hm := len_mid p h t
    rw [inAll_cons]
    cases c : decide (lo ≤ h) && decide (h ≤ hi) with
    | true =>
      have ih := spec_l1All_l0 lo hi t (p ++ [h]) (by simp; omega)
      rw [app_snoc, len_snoc] at ih
      rw [Bool.true_and]
      refine Ev.step (fun k => ?_) ih
      show spec_l1All.l0 (k + 1) lo hi (p ++ h :: t) ((p ++ h :: t).length : Int) (p.length : Int) = _
      rw [spec_l1All.l0, if_pos (by omega), if_pos (by omega), if_pos (by omega), rd_mid, ev_spec_l1In, c, Option.bind_some, if_pos rfl, w64 (by omega) (by omega)]
    | false =>
      rw [Bool.false_and]
      refine Ev.ret fun k => ?_
      rw [spec_l1All.l0, if_pos (by omega), if_pos (by omega), if_pos (by omega), rd_mid, ev_spec_l1In, c]
      rfl
theorem ev_spec_l1All (l : List Int) (lo hi : Int) (hl : l.length ≤ 35184372088832) : Ev (fun k => spec_l1All.f k l lo hi) (inAll lo hi l) :=
  spec_l1All_l0 lo hi l [] (by simpa using hl)

theorem spec_trGood_l1 (par : List Int) (n : Int) (hn : n = par.length) (hn8 : par.length ≤ 8) (hp : ∀ x ∈ par, 0 ≤ x ∧ x ≤ par.length) (w i : Int) (r : Bool) (r' : Bool) : ∀ (m : Nat) (a s : Int), 0 ≤ a → a ≤ n → 0 ≤ s → s + m = n →
    Ev (fun k => spec_trGood.l0 k par n w (wrap64 (i + 1))) r → (r' = (climb par m a && r)) → Ev (fun k => spec_trGood.l1 k par n a s w i) r'
  | 0, a, s, h0, h1, hs, hm, h, e => by
    subst e
    simp only [climb]
    by_cases c : a > 0
    · rw [decide_eq_false (by omega), Bool.false_and]
      refine Ev.ret fun k => ?_
      rw [spec_trGood.l1, if_pos c, if_pos (by omega)]
    · rw [decide_eq_true (by omega), Bool.true_and]
      refine Ev.step (fun k => ?_) h
      show spec_trGood.l1 (k + 1) par n a s w i = _
      rw [spec_trGood.l1, if_neg c]
  | m + 1, a, s, h0, h1, hs, hm, h, e => by
    subst e
    by_cases c : a > 0
    · rw [climb, if_pos c]
      have hr : rd par (a - 1) ∈ par := by
        unfold rd
        rw [List.getD_eq_getElem?_getD, List.getElem?_eq_getElem (by omega)]
        exact List.getElem_mem _
      have hb := hp _ hr
      refine Ev.step (fun k => ?_) (spec_trGood_l1 par n hn hn8 hp w i r _ m (rd par (a - 1)) (s + 1) hb.1 (by omega) (by omega) (by omega) h rfl)
      show spec_trGood.l1 (k + 1) par n a s w i = _
      rw [spec_trGood.l1, if_pos c, if_neg (by omega), w64 (x := a - 1) (by omega) (by omega), if_pos (by omega), if_pos (by omega), w64 (by omega) (by omega)]
    · rw [climb, if_neg c, Bool.true_and]
      refine Ev.step (fun k => ?_) h
      show spec_trGood.l1 (k + 1) par n a s w i = _
      rw [spec_trGood.l1, if_neg c]
theorem spec_trGood_l0 (par : List Int) (hn8 : par.length ≤ 8) (hp : ∀ x ∈ par, 0 ≤ x ∧ x ≤ par.length) : ∀ (d i : Nat), i + d = par.length →
    Ev (fun k => spec_trGood.l0 k par (par.length : Int) (par.length : Int) (i : Int)) ((List.range' i d).all fun j => climb par par.length ((j : Int) + 1))
  | 0, i, hi => by
    refine Ev.ret fun k => ?_
    rw [spec_trGood.l0, if_neg (by omega)]
    rfl
  | d + 1, i, hi => by
    have ih := spec_trGood_l0 par hn8 hp d (i + 1) (by omega)
    refine Ev.step (fun k => ?_) (spec_trGood_l1 par (par.length : Int) rfl hn8 hp (par.length : Int) (i : Int) ((List.range' (i + 1) d).all fun j => climb par par.length ((j : Int) + 1)) _ par.length ((i : Int) + 1) 0 (by omega) (by omega) (by omega) (by omega) ?_ ?_)
    · show spec_trGood.l0 (k + 1) par (par.length : Int) (par.length : Int) (i : Int) = _
      rw [spec_trGood.l0, if_pos (by omega), w64 (by omega) (by omega)]
    · rw [w64 (by omega) (by omega)]
      exact ih
    · rw [List.range'_succ, List.all_cons]
theorem ev_spec_trGood (par : List Int) (hl : par.length ≤ 35184372088832) : Ev (fun k => spec_trGood.f k par) (isTr par) := by
  by_cases c8 : par.length ≤ 8
  · cases c : inAll 0 par.length par with
    | false =>
      have e : isTr par = false := by simp [isTr, c]
      rw [e]
      refine Ev.congr (fun k => by rw [spec_trGood.f, if_neg (by omega)]) ?_
      refine Ev.bind (ev_spec_l1All par 0 par.length hl) ?_
      rw [c]
      exact Ev.ret fun k => by rw [spec_trGood.j0]; rfl
    | true =>
      have hp := (inAll_iff _ _ _).1 c
      have e : isTr par = (List.range' 0 par.length).all fun j => climb par par.length ((j : Int) + 1) := by
        simp [isTr, c, c8, List.range_eq_range']
      rw [e]
      refine Ev.congr (fun k => by rw [spec_trGood.f, if_neg (by omega)]) ?_
      refine Ev.bind (ev_spec_l1All par 0 par.length hl) ?_
      rw [c]
      refine Ev.step (fun k => by rw [spec_trGood.j0, if_neg (by simp)]) ?_
      exact spec_trGood_l0 par c8 hp par.length 0 (by omega)
  · have e : isTr par = false := by simp [isTr, c8]
    rw [e]
    refine Ev.congr (fun k => by rw [spec_trGood.f, if_pos (by omega)]) ?_
    exact Ev.ret fun k => by rw [spec_trGood.j0, if_pos rfl]

theorem slices_IndexFunc_l0 (q : Int → Bool) : ∀ (t p : List Int), p.length + t.length ≤ 35184372088832 →
    ∃ r : Int, decide (r ≥ 0) = t.any q ∧ Ev (fun k => slices_IndexFunc_int_int.l0 q k (p ++ t) ((p ++ t).length : Int) (p.length : Int)) r
  | [], p, _ => by
    refine ⟨-1, by simp, Ev.ret fun k => ?_⟩
    rw [slices_IndexFunc_int_int.l0, if_neg (by simp)]
  | h :: t, p, hn => by
    have hn' : p.length + t.length + 1 ≤ 35184372088832 := by simpa [Nat.add_assoc] using hn
    have hm := len_mid p h t
    cases c : q h with
    | true =>
      refine ⟨p.length, by simp [c], Ev.ret fun k => ?_⟩
      rw [slices_IndexFunc_int_int.l0, if_pos (by omega), if_pos (by omega), if_pos (by omega), rd_mid, c, Option.bind_some, if_pos rfl]
    | false =>
      obtain ⟨r, hr, ih⟩ := slices_IndexFunc_l0 q t (p ++ [h]) (by simp; omega)
      rw [app_snoc, len_snoc] at ih
      refine ⟨r, by simpa [c] using hr, Ev.step (fun k => ?_) ih⟩
      show slices_IndexFunc_int_int.l0 q (k + 1) (p ++ h :: t) ((p ++ h :: t).length : Int) (p.length : Int) = _
      rw [slices_IndexFunc_int_int.l0, if_pos (by omega), if_pos (by omega), if_pos (by omega), rd_mid, c, Option.bind_some, if_neg (by simp), w64 (by omega) (by omega)]
theorem ev_containsFunc (q : Int → Bool) (l : List Int) (hl : l.length ≤ 35184372088832) : Ev (fun k => slices_ContainsFunc_int_int.f q k l) (l.any q) := by
  obtain ⟨r, hr, h⟩ := slices_IndexFunc_l0 q l [] (by simpa using hl)
  rw [← hr]
  exact Ev.congr (fun k => rfl) (Ev.bind h (Ev.now _))

theorem ev_impl_between (a b c : Int) : impl_between.f a b c = some (decide (b ≤ a) && decide (a ≤ c)) := by
  unfold impl_between.f
  by_cases h : a ≥ b
  · rw [if_pos h]; simp [show b ≤ a from h]
  · rw [if_neg h]; simp [show ¬ b ≤ a from h]

theorem ev_impl_areBetween (l : List Int) (lo hi : Int) (hl : l.length ≤ 35184372088832) : Ev (fun k => impl_areBetween.f k l lo hi) (inAll lo hi l) := by
  have e : (!(l.any (impl_areBetween_1.p lo hi))) = inAll lo hi l := by
    have hp : ∀ n, impl_areBetween_1.p lo hi n = !(decide (lo ≤ n) && decide (n ≤ hi)) := fun n => by
      simp [impl_areBetween_1.p, ev_impl_between]
    unfold inAll
    induction l with
    | nil => rfl
    | cons x t ih =>
      rw [List.any_cons, List.all_cons, Bool.not_or, ih (by simp at hl; omega), hp, Bool.not_not]
  rw [← e]
  exact Ev.congr (fun k => rfl) (Ev.bind (ev_containsFunc (impl_areBetween_1.p lo hi) l hl) (Ev.now _))

theorem ev_impl_isCars (a : Int) : impl_isCars.f a = some (decide (0 ≤ a) && decide (a ≤ 8)) := by
  unfold impl_isCars.f
  rw [ev_impl_between]
  rfl

theorem impl_isTree_l1 (par : List Int) (n : Int) (hn : n = par.length) (hn8 : par.length ≤ 8) (hp : ∀ x ∈ par, 0 ≤ x ∧ x ≤ par.length) (w i : Int) (r : Bool) (r' : Bool) : ∀ (m : Nat) (a s : Int), 0 ≤ a → a ≤ n → 0 ≤ s → s + m = n + 1 →
    Ev (fun k => impl_isTree.l0 k par n w (wrap64 (i + 1))) r → (r' = (climb par m a && r)) → Ev (fun k => impl_isTree.l1 k par n a s w i) r'
  | 0, a, s, h0, h1, hs, hm, h, e => by
    subst e
    simp only [climb]
    by_cases c : a > 0
    · rw [decide_eq_false (by omega), Bool.false_and]
      refine Ev.ret fun k => ?_
      rw [impl_isTree.l1, if_pos c, if_pos (by omega)]
    · rw [decide_eq_true (by omega), Bool.true_and]
      refine Ev.step (fun k => ?_) h
      show impl_isTree.l1 (k + 1) par n a s w i = _
      rw [impl_isTree.l1, if_neg c]
  | m + 1, a, s, h0, h1, hs, hm, h, e => by
    subst e
    by_cases c : a > 0
    · rw [climb, if_pos c]
      have hr : rd par (a - 1) ∈ par := by
        unfold rd
        rw [List.getD_eq_getElem?_getD, List.getElem?_eq_getElem (by omega)]
        exact List.getElem_mem _
      have hb := hp _ hr
      refine Ev.step (fun k => ?_) (impl_isTree_l1 par n hn hn8 hp w i r _ m (rd par (a - 1)) (s + 1) hb.1 (by omega) (by omega) (by omega) h rfl)
      show impl_isTree.l1 (k + 1) par n a s w i = _
      rw [impl_isTree.l1, if_pos c, if_neg (by omega), w64 (x := a - 1) (by omega) (by omega), if_pos (by omega), if_pos (by omega), w64 (by omega) (by omega)]
    · rw [climb, if_neg c, Bool.true_and]
      refine Ev.step (fun k => ?_) h
      show impl_isTree.l1 (k + 1) par n a s w i = _
      rw [impl_isTree.l1, if_neg c]
theorem impl_isTree_l0 (par : List Int) (hn8 : par.length ≤ 8) (hp : ∀ x ∈ par, 0 ≤ x ∧ x ≤ par.length) : ∀ (d i : Nat), i + d = par.length →
    Ev (fun k => impl_isTree.l0 k par (par.length : Int) (par.length : Int) (i : Int)) ((List.range' i d).all fun j => climb par par.length ((j : Int) + 1))
  | 0, i, hi => by
    refine Ev.ret fun k => ?_
    rw [impl_isTree.l0, if_neg (by omega)]
    rfl
  | d + 1, i, hi => by
    have ih := impl_isTree_l0 par hn8 hp d (i + 1) (by omega)
    refine Ev.step (fun k => ?_) (impl_isTree_l1 par (par.length : Int) rfl hn8 hp (par.length : Int) (i : Int) ((List.range' (i + 1) d).all fun j => climb par par.length ((j : Int) + 1)) _ (par.length + 1) ((i : Int) + 1) 0 (by omega) (by omega) (by omega) (by omega) ?_ ?_)
    · show impl_isTree.l0 (k + 1) par (par.length : Int) (par.length : Int) (i : Int) = _
      rw [impl_isTree.l0, if_pos (by omega), w64 (by omega) (by omega)]
    · rw [w64 (by omega) (by omega)]
      exact ih
    · rw [List.range'_succ, List.all_cons]
      congr 1
      rw [Bool.eq_iff_iff]
      exact ⟨climb_more par _ _, climb_less par hp _ (by omega) (by omega)⟩
theorem ev_impl_isTree (par : List Int) (hl : par.length ≤ 35184372088832) : Ev (fun k => impl_isTree.f k par) (isTr par) := by
  by_cases c8 : par.length ≤ 8
  · have d8 : (decide ((0 : Int) ≤ par.length) && decide ((par.length : Int) ≤ 8)) = true := by
      rw [Bool.and_eq_true, decide_eq_true_eq, decide_eq_true_eq]; omega
    cases c : inAll 0 par.length par with
    | false =>
      have e : isTr par = false := by simp [isTr, c]
      rw [e]
      refine Ev.congr (fun k => by rw [impl_isTree.f, ev_impl_isCars, d8, Option.bind_some, if_pos rfl]) ?_
      refine Ev.bind (ev_impl_areBetween par 0 par.length hl) ?_
      rw [c]
      exact Ev.ret fun k => by rw [impl_isTree.j0]; rfl
    | true =>
      have hp := (inAll_iff _ _ _).1 c
      have e : isTr par = (List.range' 0 par.length).all fun j => climb par par.length ((j : Int) + 1) := by
        simp [isTr, c, c8, List.range_eq_range']
      rw [e]
      refine Ev.congr (fun k => by rw [impl_isTree.f, ev_impl_isCars, d8, Option.bind_some, if_pos rfl]) ?_
      refine Ev.bind (ev_impl_areBetween par 0 par.length hl) ?_
      rw [c]
      refine Ev.step (fun k => by rw [impl_isTree.j0, if_neg (by simp)]) ?_
      exact impl_isTree_l0 par c8 hp par.length 0 (by omega)
  · have e : isTr par = false := by simp [isTr, c8]
    have d8 : (decide ((0 : Int) ≤ par.length) && decide ((par.length : Int) ≤ 8)) = false := by
      rw [Bool.and_eq_false_iff]; right; exact decide_eq_false (by omega)
    rw [e]
    refine Ev.congr (fun k => by rw [impl_isTree.f, ev_impl_isCars, d8, Option.bind_some, if_neg (by simp)]) ?_
    exact Ev.ret fun k => by rw [impl_isTree.j0, if_pos rfl]

/-- Rising, with equal ones. -/
def Up (l : List Int) : Prop := l.Pairwise (· ≤ ·)
/-- A number put where it belongs. -/
def put (x : Int) : List Int → List Int
  | [] => [x]
  | h :: t => if x ≤ h then x :: h :: t else h :: put x t
/-- A list in order. -/
def srt : List Int → List Int
  | [] => []
  | h :: t => put h (srt t)
theorem put_perm (x : Int) : ∀ l : List Int, (put x l).Perm (x :: l)
  | [] => .refl _
  | h :: t => by
    rw [put]
    split
    · exact .refl _
    · exact ((put_perm x t).cons h).trans (.swap x h t)
theorem put_up (x : Int) : ∀ l : List Int, Up l → Up (put x l)
  | [], _ => by simp [put, Up]
  | h :: t, hl => by
    have h1 := List.pairwise_cons.1 hl
    rw [put]
    split
    · refine List.pairwise_cons.2 ⟨fun y hy => ?_, hl⟩
      rcases List.mem_cons.1 hy with e | e
      · omega
      · have := h1.1 y e; omega
    · refine List.pairwise_cons.2 ⟨fun y hy => ?_, put_up x t h1.2⟩
      rcases List.mem_cons.1 ((put_perm x t).mem_iff.1 hy) with e | e
      · omega
      · exact h1.1 y e
theorem srt_perm : ∀ l : List Int, (srt l).Perm l
  | [] => .refl _
  | h :: t => (put_perm h (srt t)).trans ((srt_perm t).cons h)
theorem srt_up : ∀ l : List Int, Up (srt l)
  | [] => by simp [srt, Up]
  | h :: t => put_up h _ (srt_up t)
theorem up_unique : ∀ (a b : List Int), Up a → Up b → a.Perm b → a = b
  | [], b, _, _, h => by simpa using h.length_eq.symm
  | x :: a, [], _, _, h => by simpa using h.length_eq
  | x :: a, y :: b, ha, hb, h => by
    have h1 := List.pairwise_cons.1 ha
    have h2 := List.pairwise_cons.1 hb
    have e : x = y := by
      have hx : x ∈ y :: b := h.mem_iff.1 (by simp)
      have hy : y ∈ x :: a := h.mem_iff.2 (by simp)
      rcases List.mem_cons.1 hx with e | e
      · exact e
      · rcases List.mem_cons.1 hy with e' | e'
        · exact e'.symm
        · have := h1.1 y e'
          have := h2.1 x e
          omega
    subst e
    rw [up_unique a b h1.2 h2.2 (List.perm_cons x |>.1 h)]

/-- How many steps lead to the root, of so many at most. -/
def hgt (par : List Int) : Nat → Int → Nat
  | 0, _ => 0
  | m + 1, a => if a > 0 then hgt par m (rd par (a - 1)) + 1 else 0
theorem hgt_more (par : List Int) : ∀ (m : Nat) (a : Int), climb par m a = true → hgt par (m + 1) a = hgt par m a
  | 0, a, h => by
    simp only [climb, decide_eq_true_eq] at h
    simp only [hgt]
    rw [if_neg (by omega)]
  | m + 1, a, h => by
    rw [climb] at h
    show (if a > 0 then hgt par (m + 1) (rd par (a - 1)) + 1 else 0) = (if a > 0 then hgt par m (rd par (a - 1)) + 1 else 0)
    by_cases c : a > 0
    · rw [if_pos c] at h
      rw [if_pos c, if_pos c, hgt_more par m _ h]
    · rw [if_neg c, if_neg c]
/-- The depth of a node. -/
def dep (par : List Int) (a : Int) : Nat := hgt par par.length a
theorem isTr_iff (par : List Int) : isTr par = true ↔ par.length ≤ 8 ∧ (∀ x ∈ par, 0 ≤ x ∧ x ≤ par.length) ∧ ∀ a : Int, 1 ≤ a → a ≤ par.length → climb par par.length a = true := by
  simp only [isTr, Bool.and_eq_true, decide_eq_true_eq, inAll_iff, List.all_eq_true, List.mem_range]
  constructor
  · rintro ⟨⟨h1, h2⟩, h3⟩
    refine ⟨h1, h2, fun a ha hb => ?_⟩
    have := h3 (a - 1).toNat (by omega)
    rwa [show (((a - 1).toNat : Nat) : Int) + 1 = a by omega] at this
  · rintro ⟨h1, h2, h3⟩
    exact ⟨⟨h1, h2⟩, fun i hi => h3 _ (by omega) (by omega)⟩
theorem rd_mem (l : List Int) (i : Int) (h0 : 0 ≤ i) (h1 : i < l.length) : rd l i ∈ l := by
  unfold rd
  rw [List.getD_eq_getElem?_getD, List.getElem?_eq_getElem (by omega)]
  exact List.getElem_mem _
/-- In a tree a node is one deeper than its parent. -/
theorem dep_step (par : List Int) (ht : isTr par = true) (a : Int) (h0 : 1 ≤ a) (h1 : a ≤ par.length) : dep par a = dep par (rd par (a - 1)) + 1 := by
  obtain ⟨_, h2, h3⟩ := (isTr_iff par).1 ht
  have hc := h3 a h0 h1
  unfold dep
  obtain ⟨m, hm⟩ : ∃ m, par.length = m + 1 := ⟨par.length - 1, by omega⟩
  rw [hm] at hc ⊢
  rw [climb, if_pos (by omega)] at hc
  rw [hgt, if_pos (by omega), hgt_more par m _ hc]

/-- What is above a node, of so many steps at most. -/
def abv (par : List Int) : Nat → Int → List Int
  | 0, _ => []
  | m + 1, a => if a > 0 then rd par (a - 1) :: abv par m (rd par (a - 1)) else []
theorem abv_length (par : List Int) : ∀ (m : Nat) (a : Int), (abv par m a).length ≤ m
  | 0, a => by simp [abv]
  | m + 1, a => by
    rw [abv]
    have := abv_length par m (rd par (a - 1))
    split <;> simp <;> omega
theorem abv_range (par : List Int) (hp : ∀ x ∈ par, 0 ≤ x ∧ x ≤ par.length) : ∀ (m : Nat) (a : Int), 0 ≤ a → a ≤ par.length → ∀ x ∈ abv par m a, 0 ≤ x ∧ x ≤ par.length
  | 0, a, _, _, x, hx => by simp [abv] at hx
  | m + 1, a, h0, h1, x, hx => by
    rw [abv] at hx
    split at hx
    · have hr := hp _ (rd_mem par (a - 1) (by omega) (by omega))
      rcases List.mem_cons.1 hx with e | e
      · rw [e]; exact hr
      · exact abv_range par hp m _ hr.1 hr.2 x e
    · simp at hx
/-- All that is above a node. -/
def above (par : List Int) (a : Int) : List Int := abv par par.length a

theorem rise_unique : ∀ (a b : List Int), a.Pairwise (· < ·) → b.Pairwise (· < ·) → (∀ x, x ∈ a ↔ x ∈ b) → a = b
  | [], [], _, _, _ => rfl
  | [], y :: b, _, _, h => by have := (h y).2 (by simp); simp at this
  | x :: a, [], _, _, h => by have := (h x).1 (by simp); simp at this
  | x :: a, y :: b, ha, hb, h => by
    have h1 := List.pairwise_cons.1 ha
    have h2 := List.pairwise_cons.1 hb
    have e : x = y := by
      rcases List.mem_cons.1 ((h x).1 (by simp)) with e | e
      · exact e
      · rcases List.mem_cons.1 ((h y).2 (by simp)) with e' | e'
        · exact e'.symm
        · have := h1.1 y e'
          have := h2.1 x e
          omega
    subst e
    rw [rise_unique a b h1.2 h2.2 fun z => ?_]
    constructor
    · intro hz
      rcases List.mem_cons.1 ((h z).1 (by simp [hz])) with e | e
      · have := h1.1 z hz; omega
      · exact e
    · intro hz
      rcases List.mem_cons.1 ((h z).2 (by simp [hz])) with e | e
      · have := h2.1 z hz; omega
      · exact e
theorem srt_rising (l : List Int) (h : l.Nodup) : (srt l).Pairwise (· < ·) := by
  have h1 := srt_up l
  have h2 : (srt l).Nodup := (srt_perm l).nodup_iff.2 h
  refine List.pairwise_iff_getElem.2 fun i j hi hj hij => ?_
  have h3 := List.pairwise_iff_getElem.1 h1 i j hi hj hij
  have h4 := List.pairwise_iff_getElem.1 h2 i j hi hj hij
  omega

theorem spec_trAbove_l0 (par : List Int) (hp : ∀ x ∈ par, 0 ≤ x ∧ x ≤ par.length) (hl : par.length ≤ 1000) : ∀ (m : Nat) (a : Int) (out : List Int), 0 ≤ a → a ≤ par.length → climb par m a = true → out.length + m ≤ 5000 →
    Ev (fun k => spec_trAbove.l0 k par a out) (out ++ abv par m a)
  | 0, a, out, h0, h1, hc, ho => by
    simp only [climb, decide_eq_true_eq] at hc
    refine Ev.ret fun k => ?_
    rw [spec_trAbove.l0, if_neg (by omega), abv, List.append_nil]
  | m + 1, a, out, h0, h1, hc, ho => by
    rw [abv]
    by_cases c : a > 0
    · rw [climb, if_pos c] at hc
      have hr := hp _ (rd_mem par (a - 1) (by omega) (by omega))
      have ih := spec_trAbove_l0 par hp hl m (rd par (a - 1)) (out ++ [rd par (a - 1)]) hr.1 hr.2 hc (by simp; omega)
      have e : out ++ (rd par (a - 1) :: abv par m (rd par (a - 1))) = out ++ [rd par (a - 1)] ++ abv par m (rd par (a - 1)) := by simp
      rw [if_pos c, e]
      refine Ev.step (fun k => ?_) ih
      show spec_trAbove.l0 (k + 1) par a out = _
      rw [spec_trAbove.l0, if_pos c, w64 (by omega) (by omega), if_pos (by omega), if_pos (by omega), if_pos (by omega)]
    · rw [if_neg c, List.append_nil]
      refine Ev.ret fun k => ?_
      rw [spec_trAbove.l0, if_neg c]
theorem ev_spec_trAbove (par : List Int) (ht : isTr par = true) (a : Int) (h0 : 1 ≤ a) (h1 : a ≤ par.length) : Ev (fun k => spec_trAbove.f k par a) (above par a) := by
  obtain ⟨h8, h2, h3⟩ := (isTr_iff par).1 ht
  exact spec_trAbove_l0 par h2 (by omega) par.length a [] (by omega) h1 (h3 a h0 h1) (by simp; omega)

theorem impl_above_l0 (par : List Int) (hp : ∀ x ∈ par, 0 ≤ x ∧ x ≤ par.length) (hl : par.length ≤ 1000) : ∀ (m : Nat) (a : Int) (out : List Int), 0 ≤ a → a ≤ par.length → climb par m a = true → out.length + m ≤ 5000 →
    Ev (fun k => impl_above.l0 k par a out) (out ++ abv par m a)
  | 0, a, out, h0, h1, hc, ho => by
    simp only [climb, decide_eq_true_eq] at hc
    refine Ev.ret fun k => ?_
    rw [impl_above.l0, if_neg (by omega), abv, List.append_nil]
  | m + 1, a, out, h0, h1, hc, ho => by
    rw [abv]
    by_cases c : a > 0
    · rw [climb, if_pos c] at hc
      have hr := hp _ (rd_mem par (a - 1) (by omega) (by omega))
      have ih := impl_above_l0 par hp hl m (rd par (a - 1)) (out ++ [rd par (a - 1)]) hr.1 hr.2 hc (by simp; omega)
      have e : out ++ (rd par (a - 1) :: abv par m (rd par (a - 1))) = out ++ [rd par (a - 1)] ++ abv par m (rd par (a - 1)) := by simp
      rw [if_pos c, e]
      refine Ev.step (fun k => ?_) ih
      show impl_above.l0 (k + 1) par a out = _
      rw [impl_above.l0, if_pos c, w64 (by omega) (by omega), if_pos (by omega), if_pos (by omega), if_pos (by omega)]
    · rw [if_neg c, List.append_nil]
      refine Ev.ret fun k => ?_
      rw [impl_above.l0, if_neg c]
theorem ev_impl_above (par : List Int) (ht : isTr par = true) (a : Int) (h0 : 1 ≤ a) (h1 : a ≤ par.length) : Ev (fun k => impl_above.f k par a) (above par a) := by
  obtain ⟨h8, h2, h3⟩ := (isTr_iff par).1 ht
  exact impl_above_l0 par h2 (by omega) par.length a [] (by omega) h1 (h3 a h0 h1) (by simp; omega)

theorem spec_l1Has_l0 (x : Int) : ∀ (t p : List Int), p.length + t.length ≤ 35184372088832 →
    Ev (fun k => spec_l1Has.l0 k x (p ++ t) ((p ++ t).length : Int) (p.length : Int)) (decide (x ∈ t))
  | [], p, _ => by
    refine Ev.ret fun k => ?_
    rw [spec_l1Has.l0, if_neg (by simp)]
    simp
  | h :: t, p, hn => by
    have hn' : p.length + t.length + 1 ≤ 35184372088832 := by simpa [Nat.add_assoc] using hn
    have hm := len_mid p h t
    by_cases c : h = x
    · rw [decide_eq_true (by simp [c] : x ∈ h :: t)]
      refine Ev.ret fun k => ?_
      rw [spec_l1Has.l0, if_pos (by omega), if_pos (by omega), if_pos (by omega), rd_mid, if_pos c]
    · have ih := spec_l1Has_l0 x t (p ++ [h]) (by simp; omega)
      rw [app_snoc, len_snoc] at ih
      have e : decide (x ∈ h :: t) = decide (x ∈ t) := decide_eq_decide.2 (by simp [Ne.symm c])
      rw [e]
      refine Ev.step (fun k => ?_) ih
      show spec_l1Has.l0 (k + 1) x (p ++ h :: t) ((p ++ h :: t).length : Int) (p.length : Int) = _
      rw [spec_l1Has.l0, if_pos (by omega), if_pos (by omega), if_pos (by omega), rd_mid, if_neg c, w64 (by omega) (by omega)]
theorem ev_spec_l1Has (l : List Int) (x : Int) (hl : l.length ≤ 35184372088832) : Ev (fun k => spec_l1Has.f k l x) (decide (x ∈ l)) :=
  spec_l1Has_l0 x l [] (by simpa using hl)

theorem mergeSort_srt (l : List Int) : (l.mergeSort fun x y => decide (x ≤ y)) = srt l := by
  refine up_unique _ _ ?_ (srt_up l) ((List.mergeSort_perm l _).trans (srt_perm l).symm)
  have h := List.pairwise_mergeSort (le := fun x y : Int => decide (x ≤ y)) (fun a b c h1 h2 => by simp at h1 h2 ⊢; omega) (fun a b => by simp; omega) l
  exact h.imp fun hab => by simpa using hab
theorem ev_impl_sortedL (l : List Int) (hl : l.length ≤ 10000000) : Ev (fun k => impl_sorted.f k l) (srt l) := by
  refine Ev.congr (fun k => ?_) (Ev.now (srt l))
  show impl_sorted.f k l = _
  rw [impl_sorted.f, if_pos hl, slices_Sort_int_int.f, if_pos (by omega), mergeSort_srt]

theorem ev_impl_sorted (l : List Int) (hl : l.length ≤ 12) : Ev (fun k => impl_sorted.f k l) (srt l) := ev_impl_sortedL l (by omega)

theorem dep_zero (par : List Int) : dep par 0 = 0 := by
  unfold dep
  cases par.length <;> simp [hgt]
theorem abv_dep (par : List Int) (ht : isTr par = true) : ∀ (m : Nat) (a : Int), 0 ≤ a → a ≤ par.length → (∀ x ∈ abv par m a, dep par x < dep par a) ∧ (abv par m a).Nodup
  | 0, a, _, _ => by simp [abv]
  | m + 1, a, h0, h1 => by
    obtain ⟨_, h2, _⟩ := (isTr_iff par).1 ht
    rw [abv]
    by_cases c : a > 0
    · rw [if_pos c]
      have hr := h2 _ (rd_mem par (a - 1) (by omega) (by omega))
      have hd := dep_step par ht a (by omega) h1
      have ih := abv_dep par ht m (rd par (a - 1)) hr.1 hr.2
      refine ⟨fun x hx => ?_, List.nodup_cons.2 ⟨fun hm => ?_, ih.2⟩⟩
      · rcases List.mem_cons.1 hx with e | e
        · rw [e]; omega
        · have := ih.1 x e; omega
      · have := ih.1 _ hm; omega
    · rw [if_neg c]; simp
/-- The numbers from one on that are in a list. -/
def rowsJ (ab : List Int) : Nat → Int → List Int
  | 0, _ => []
  | d + 1, j => if j ∈ ab then j :: rowsJ ab d (j + 1) else rowsJ ab d (j + 1)
theorem rowsJ_mem (ab : List Int) (x : Int) : ∀ (d : Nat) (j : Int), x ∈ rowsJ ab d j ↔ x ∈ ab ∧ j ≤ x ∧ x < j + d
  | 0, j => by
    simp only [rowsJ, List.not_mem_nil, false_iff]
    omega
  | d + 1, j => by
    have ih := rowsJ_mem ab x d (j + 1)
    rw [rowsJ]
    split
    · rename_i c
      rw [List.mem_cons, ih]
      constructor
      · rintro (e | ⟨h1, h2, h3⟩)
        · exact ⟨e ▸ c, by omega, by omega⟩
        · exact ⟨h1, by omega, by omega⟩
      · rintro ⟨h1, h2, h3⟩
        by_cases e : x = j
        · exact .inl e
        · exact .inr ⟨h1, by omega, by omega⟩
    · rename_i c
      rw [ih]
      constructor
      · rintro ⟨h1, h2, h3⟩
        exact ⟨h1, by omega, by omega⟩
      · rintro ⟨h1, h2, h3⟩
        have : x ≠ j := fun e => c (e ▸ h1)
        exact ⟨h1, by omega, by omega⟩
theorem rowsJ_rising (ab : List Int) : ∀ (d : Nat) (j : Int), (rowsJ ab d j).Pairwise (· < ·)
  | 0, j => by simp [rowsJ]
  | d + 1, j => by
    rw [rowsJ]
    split
    · refine List.pairwise_cons.2 ⟨fun x hx => ?_, rowsJ_rising ab d (j + 1)⟩
      have := ((rowsJ_mem ab x d (j + 1)).1 hx).2.1
      omega
    · exact rowsJ_rising ab d (j + 1)
theorem rowsJ_length (ab : List Int) : ∀ (d : Nat) (j : Int), (rowsJ ab d j).length ≤ d
  | 0, j => by simp [rowsJ]
  | d + 1, j => by
    have := rowsJ_length ab d (j + 1)
    rw [rowsJ]
    split <;> simp <;> omega
/-- The pairs of one node. -/
def rowOf (par : List Int) (a : Nat) : List (List Int) := (rowsJ (above par a) (par.length - a) ((a : Int) + 1)).map fun j => [(a : Int), j]
theorem rowOf_length (par : List Int) (a : Nat) : (rowOf par a).length ≤ par.length := by
  have := rowsJ_length (above par a) (par.length - a) ((a : Int) + 1)
  rw [rowOf, List.length_map]
  omega
/-- All pairs from one node on. -/
def rowsS (par : List Int) : Nat → Nat → List (List Int) → List (List Int)
  | 0, _, out => out
  | d + 1, a, out => rowsS par d (a + 1) (out ++ rowOf par a)
theorem rows_alike (par : List Int) (ht : isTr par = true) (a : Nat) (h0 : 1 ≤ a) (h1 : a ≤ par.length) : (srt (above par a)).filter (fun x => decide (x > (a : Int))) = rowsJ (above par a) (par.length - a) ((a : Int) + 1) := by
  obtain ⟨h8, h2, _⟩ := (isTr_iff par).1 ht
  have hn := (abv_dep par ht par.length a (by omega) (by omega)).2
  refine rise_unique _ _ ((srt_rising _ hn).filter _) (rowsJ_rising _ _ _) fun x => ?_
  rw [List.mem_filter, rowsJ_mem, (srt_perm _).mem_iff, decide_eq_true_eq]
  constructor
  · rintro ⟨h3, h4⟩
    have := abv_range par h2 par.length a (by omega) (by omega) x h3
    exact ⟨h3, by omega, by omega⟩
  · rintro ⟨h3, h4, h5⟩
    exact ⟨h3, by omega⟩
theorem spec_trPairs_l1 (par ab : List Int) (hp : par.length ≤ 8) (hab : ab.length ≤ 1000) (a : Nat) (ha : a ≤ 100) (r : List (List Int)) : ∀ (d : Nat) (j : Int) (out : List (List Int)), 0 ≤ j → j + d = (par.length : Int) + 1 → out.length + d ≤ 10000 →
    Ev (fun k => spec_trPairs.l0 k par (out ++ (rowsJ ab d j).map fun j => [(a : Int), j]) ((a : Int) + 1)) r →
    Ev (fun k => spec_trPairs.l1 k par out (a : Int) ab j) r
  | 0, j, out, h0, hj, ho, H => by
    refine Ev.step (fun k => ?_) H
    show spec_trPairs.l1 (k + 1) par out (a : Int) ab j = _
    rw [spec_trPairs.l1, if_neg (by omega), w64 (by omega) (by omega), rowsJ, List.map_nil, List.append_nil]
  | d + 1, j, out, h0, hj, ho, H => by
    refine Ev.step (f := fun k => (spec_l1Has.f k ab j).bind fun t => if t = true then (if out.length < 5864062014805 then spec_trPairs.l1 k par (out ++ [([(a : Int), j] : List Int)]) (a : Int) ab (wrap64 (j + 1)) else none) else spec_trPairs.l1 k par out (a : Int) ab (wrap64 (j + 1))) (fun k => ?_) ?_
    · rw [spec_trPairs.l1, if_pos (by omega)]
    refine Ev.bind (ev_spec_l1Has ab j (by omega)) ?_
    by_cases c : j ∈ ab
    · rw [rowsJ, if_pos c] at H
      have e : out ++ (j :: rowsJ ab d (j + 1)).map (fun j => [(a : Int), j]) = (out ++ [[(a : Int), j]]) ++ (rowsJ ab d (j + 1)).map (fun j => [(a : Int), j]) := by simp
      rw [e] at H
      have ih := spec_trPairs_l1 par ab hp hab a ha r d (j + 1) (out ++ [[(a : Int), j]]) (by omega) (by omega) (by simp; omega) H
      exact Ev.congr (fun k => by rw [if_pos (by simpa using c), if_pos (by omega), w64 (by omega) (by omega)]) ih
    · rw [rowsJ, if_neg c] at H
      have ih := spec_trPairs_l1 par ab hp hab a ha r d (j + 1) out (by omega) (by omega) (by omega) H
      exact Ev.congr (fun k => by rw [if_neg (by simpa using c), w64 (by omega) (by omega)]) ih
theorem spec_trPairs_l0 (par : List Int) (ht : isTr par = true) : ∀ (d a : Nat) (out : List (List Int)), 1 ≤ a → a + d = par.length + 1 → out.length ≤ 10 * a →
    Ev (fun k => spec_trPairs.l0 k par out (a : Int)) (rowsS par d a out)
  | 0, a, out, h0, h1, ho => by
    refine Ev.ret fun k => ?_
    rw [spec_trPairs.l0, if_neg (by omega), rowsS]
  | d + 1, a, out, h0, h1, ho => by
    obtain ⟨h8, h2, _⟩ := (isTr_iff par).1 ht
    have hr := rowOf_length par a
    have ih := spec_trPairs_l0 par ht d (a + 1) (out ++ rowOf par a) (by omega) (by omega) (by rw [List.length_append]; omega)
    rw [show ((a + 1 : Nat) : Int) = (a : Int) + 1 by omega] at ih
    have hab := abv_length par par.length a
    refine Ev.step (f := fun k => (spec_trAbove.f k par a).bind fun t => spec_trPairs.l1 k par out (a : Int) t (wrap64 ((a : Int) + 1))) (fun k => ?_) ?_
    · rw [spec_trPairs.l0, if_pos (by omega)]
    refine Ev.bind (ev_spec_trAbove par ht a (by omega) (by omega)) ?_
    rw [w64 (by omega) (by omega), rowsS]
    exact spec_trPairs_l1 par (above par a) h8 (by unfold above; omega) a (by omega) _ (par.length - a) ((a : Int) + 1) out (by omega) (by omega) (by omega) ih
theorem ev_spec_trPairs (par : List Int) (ht : isTr par = true) : Ev (fun k => spec_trPairs.f k par) (rowsS par par.length 1 []) :=
  spec_trPairs_l0 par ht par.length 1 [] (by omega) (by omega) (by simp)
theorem impl_inversions_l1 (par : List Int) (hp : par.length ≤ 8) (v : Nat) (hv : v ≤ 100) (r : List (List Int)) : ∀ (t p : List Int) (out : List (List Int)), p.length + t.length ≤ 1000 → out.length ≤ 1000 + p.length →
    Ev (fun k => impl_inversions.l0 k par (out ++ (t.filter fun x => decide (x > (v : Int) + 1)).map fun j => [(v : Int) + 1, j]) (par.length : Int) ((v : Int) + 1)) r →
    Ev (fun k => impl_inversions.l1 k par out (v : Int) (par.length : Int) (v : Int) (p ++ t) ((p ++ t).length : Int) (p.length : Int)) r
  | [], p, out, hn, ho, H => by
    refine Ev.step (fun k => ?_) H
    show impl_inversions.l1 (k + 1) par out (v : Int) (par.length : Int) (v : Int) (p ++ []) ((p ++ []).length : Int) (p.length : Int) = _
    rw [impl_inversions.l1, if_neg (by simp), w64 (by omega) (by omega)]
    simp
  | x :: t, p, out, hn, ho, H => by
    have hn' : p.length + t.length + 1 ≤ 1000 := by simpa [Nat.add_assoc] using hn
    have hm := len_mid p x t
    by_cases c : x > (v : Int) + 1
    · rw [List.filter_cons_of_pos (by simpa using c)] at H
      have e : out ++ (x :: t.filter fun x => decide (x > (v : Int) + 1)).map (fun j => [(v : Int) + 1, j]) = (out ++ [[(v : Int) + 1, x]]) ++ (t.filter fun x => decide (x > (v : Int) + 1)).map (fun j => [(v : Int) + 1, j]) := by simp
      rw [e] at H
      have ih := impl_inversions_l1 par hp v hv r t (p ++ [x]) (out ++ [[(v : Int) + 1, x]]) (by simp; omega) (by simp; omega) H
      rw [app_snoc p x t, len_snoc p x] at ih
      refine Ev.step (fun k => ?_) ih
      show impl_inversions.l1 (k + 1) par out (v : Int) (par.length : Int) (v : Int) (p ++ x :: t) ((p ++ x :: t).length : Int) (p.length : Int) = _
      rw [impl_inversions.l1, if_pos (by omega), if_pos (by omega), if_pos (by omega), rd_mid, w64 (by omega) (by omega), if_pos c, if_pos (by omega), w64 (by omega) (by omega)]
    · rw [List.filter_cons_of_neg (by simpa using c)] at H
      have ih := impl_inversions_l1 par hp v hv r t (p ++ [x]) out (by simp; omega) (by simp; omega) H
      rw [app_snoc p x t, len_snoc p x] at ih
      refine Ev.step (fun k => ?_) ih
      show impl_inversions.l1 (k + 1) par out (v : Int) (par.length : Int) (v : Int) (p ++ x :: t) ((p ++ x :: t).length : Int) (p.length : Int) = _
      rw [impl_inversions.l1, if_pos (by omega), if_pos (by omega), if_pos (by omega), rd_mid, w64 (by omega) (by omega), if_neg c, w64 (by omega) (by omega)]
theorem impl_inversions_l0 (par : List Int) (ht : isTr par = true) : ∀ (d v : Nat) (out : List (List Int)), v + d = par.length → out.length ≤ 10 * (v + 1) →
    Ev (fun k => impl_inversions.l0 k par out (par.length : Int) (v : Int)) (rowsS par d (v + 1) out)
  | 0, v, out, h1, ho => by
    refine Ev.ret fun k => ?_
    rw [impl_inversions.l0, if_neg (by omega), rowsS]
  | d + 1, v, out, h1, ho => by
    obtain ⟨h8, h2, _⟩ := (isTr_iff par).1 ht
    have hr := rowOf_length par (v + 1)
    have ih := impl_inversions_l0 par ht d (v + 1) (out ++ rowOf par (v + 1)) (by omega) (by rw [List.length_append]; omega)
    have ev : ((v + 1 : Nat) : Int) = (v : Int) + 1 := by omega
    rw [ev] at ih
    have hab : (above par ((v : Int) + 1)).length ≤ par.length := abv_length par par.length ((v : Int) + 1)
    have hsl := (srt_perm (above par ((v : Int) + 1))).length_eq
    have hra := rows_alike par ht (v + 1) (by omega) (by omega)
    refine Ev.step (f := fun k => (impl_above.f k par ((v : Int) + 1)).bind fun t => (impl_sorted.f k t).bind fun t => impl_inversions.l1 k par out (v : Int) (par.length : Int) (v : Int) t (t.length : Int) 0) (fun k => ?_) ?_
    · rw [impl_inversions.l0, if_pos (by omega), w64 (by omega) (by omega)]
    refine Ev.bind (ev_impl_above par ht ((v : Int) + 1) (by omega) (by omega)) ?_
    refine Ev.bind (ev_impl_sorted _ (by omega)) ?_
    refine impl_inversions_l1 par h8 v (by omega) _ (srt (above par ((v : Int) + 1))) [] out (by simp; omega) (by simp; omega) ?_
    rw [rowOf, ev] at ih
    rw [ev] at hra
    rw [hra, rowsS, rowOf, ev]
    exact ih
theorem ev_impl_inversions (par : List Int) (ht : isTr par = true) : Ev (fun k => impl_inversions.f k par) (rowsS par par.length 1 []) :=
  impl_inversions_l0 par ht par.length 0 [] (by omega) (by simp)

/-- A pair of a tree: a node and a greater one above it. -/
def okPair (par : List Int) (p : List Int) : Prop := ∃ i j : Int, p = [i, j] ∧ 1 ≤ i ∧ i ≤ par.length ∧ i < j ∧ j ∈ above par i
theorem rowsS_ok (par : List Int) : ∀ (d a : Nat) (out : List (List Int)), 1 ≤ a → a + d = par.length + 1 → (∀ p ∈ out, okPair par p) → ∀ p ∈ rowsS par d a out, okPair par p
  | 0, a, out, _, _, h => h
  | d + 1, a, out, h0, h1, h => rowsS_ok par d (a + 1) _ (by omega) (by omega) fun p hp => by
    rcases List.mem_append.1 hp with h2 | h2
    · exact h p h2
    · obtain ⟨j, hj, rfl⟩ := List.mem_map.1 h2
      obtain ⟨h3, h4, h5⟩ := (rowsJ_mem _ _ _ _).1 hj
      exact ⟨a, j, rfl, by omega, by omega, by omega, h3⟩
theorem rowsS_length (par : List Int) : ∀ (d a : Nat) (out : List (List Int)), (rowsS par d a out).length ≤ out.length + d * par.length
  | 0, a, out => by simp [rowsS]
  | d + 1, a, out => by
    have h := rowsS_length par d (a + 1) (out ++ rowOf par a)
    have h2 := rowOf_length par a
    rw [List.length_append] at h
    rw [rowsS, Nat.add_mul]
    omega

theorem toIntS_l0 : ∀ (t p : List Int), p.length + t.length ≤ 35184372088832 →
    Ev (fun k => laws_toIntS.l0 k (p ++ t) (p ++ List.replicate t.length 0) (p.length : Int)) (p ++ t)
  | [], p, _ => by
    refine Ev.ret fun k => ?_
    rw [laws_toIntS.l0, if_neg (by simp)]
    simp
  | h :: t, p, hn => by
    have hn' : p.length + t.length + 1 ≤ 35184372088832 := by simpa [Nat.add_assoc] using hn
    have ih := toIntS_l0 t (p ++ [h]) (by simp; omega)
    have e1 : (p ++ [h]) ++ t = p ++ h :: t := by simp
    have e2 : (((p ++ [h]).length : Nat) : Int) = (p.length : Int) + 1 := by simp
    rw [e1, e2] at ih
    refine Ev.step (fun k => ?_) ih
    show laws_toIntS.l0 (k + 1) (p ++ h :: t) (p ++ List.replicate (h :: t).length 0) (p.length : Int) = _
    rw [laws_toIntS.l0, if_pos (by simp; omega), if_pos (by omega), if_pos (by simp; omega), rd_mid, w64 (by omega) (by omega)]
    congr 1
    simp [List.replicate_succ, List.set_append]
theorem ev_toIntS (l : List Int) (h : l.length ≤ 35184372088832) : Ev (fun k => laws_toIntS.f k l) l := by
  have z := toIntS_l0 l [] (by simpa using h)
  refine Ev.congr (fun k => ?_) z
  show laws_toIntS.f k l = _
  rw [laws_toIntS.f, if_pos (by omega), if_pos (by simpa using h)]
  simp

theorem eqIntS_l0 : ∀ (t p : List Int), p.length + t.length ≤ 35184372088832 →
    Ev (fun k => laws_eqIntS.l0 k (p ++ t) (p ++ t) (p.length : Int)) true
  | [], p, _ => by
    refine Ev.ret fun k => ?_
    rw [laws_eqIntS.l0, if_neg (by simp)]
  | h :: t, p, hn => by
    have hn' : p.length + t.length + 1 ≤ 35184372088832 := by simpa [Nat.add_assoc] using hn
    have ih := eqIntS_l0 t (p ++ [h]) (by simp; omega)
    have e1 : (p ++ [h]) ++ t = p ++ h :: t := by simp
    have e2 : (((p ++ [h]).length : Nat) : Int) = (p.length : Int) + 1 := by simp
    rw [e1, e2] at ih
    refine Ev.step (fun k => ?_) ih
    show laws_eqIntS.l0 (k + 1) (p ++ h :: t) (p ++ h :: t) (p.length : Int) = _
    rw [laws_eqIntS.l0, if_pos (by simp; omega), if_pos (by omega), if_pos (by simp; omega), rd_mid, if_pos rfl, w64 (by omega) (by omega)]
theorem ev_eqIntS (l : List Int) (h : l.length ≤ 35184372088832) : Ev (fun k => laws_eqIntS.f k l l) true := by
  have z := eqIntS_l0 l [] (by simpa using h)
  refine Ev.congr (fun k => ?_) z
  show laws_eqIntS.f k l l = _
  rw [laws_eqIntS.f, if_pos rfl]
  rfl

/-- n numbers from one on. -/
def marks (k : Int) : Nat → List Int
  | 0 => []
  | n + 1 => k :: marks (k + 1) n
theorem marks_length : ∀ (n : Nat) (k : Int), (marks k n).length = n
  | 0, _ => rfl
  | n + 1, k => by simp [marks, marks_length n]
theorem markIntS_l0 : ∀ (t p : List Int) (k : Int), 0 ≤ k → k + t.length ≤ 4611686018427387904 → p.length + t.length ≤ 35184372088832 →
    Ev (fun n => laws_markIntS.l0 n (p ++ t) k (p.length : Int)) (k + t.length, p ++ marks k t.length)
  | [], p, k, _, _, _ => by
    refine Ev.ret fun n => ?_
    rw [laws_markIntS.l0, if_neg (by simp)]
    simp [marks]
  | h :: t, p, k, h0, hk, hn => by
    have hn' : p.length + t.length + 1 ≤ 35184372088832 := by simpa [Nat.add_assoc] using hn
    have hk' : k + (t.length : Int) + 1 ≤ 4611686018427387904 := by simp at hk; omega
    have ih := markIntS_l0 t (p ++ [k]) (k + 1) (by omega) (by omega) (by simp; omega)
    have e1 : (p ++ [k]) ++ t = p ++ k :: t := by simp
    have e2 : (((p ++ [k]).length : Nat) : Int) = (p.length : Int) + 1 := by simp
    rw [e1, e2] at ih
    have e3 : ((k + ((h :: t).length : Int), p ++ marks k (h :: t).length) : Int × List Int) = (k + 1 + (t.length : Int), p ++ [k] ++ marks (k + 1) t.length) := by
      simp [marks]; omega
    rw [e3]
    refine Ev.step (fun n => ?_) ih
    show laws_markIntS.l0 (n + 1) (p ++ h :: t) k (p.length : Int) = _
    rw [laws_markIntS.l0, if_pos (by simp; omega), if_pos (by omega), w64 (by omega) (by omega), w64 (by omega) (by omega)]
    congr 1
    simp [List.set_append]
theorem ev_markIntS (l : List Int) (k : Int) (h0 : 0 ≤ k) (hk : k ≤ 4000000000000000000) (hl : l.length ≤ 35184372088832) : Ev (fun n => laws_markIntS.f n l k) (k + l.length, marks k l.length) :=
  markIntS_l0 l [] k h0 (by omega) (by simpa using hl)
theorem heldIntS_l0 : ∀ (m : Nat) (p : List Int) (k : Int), 0 ≤ k → k + m ≤ 4611686018427387904 → p.length + m ≤ 35184372088832 →
    Ev (fun n => laws_heldIntS.l0 n (p ++ marks k m) k (p.length : Int)) (k + m)
  | 0, p, k, _, _, _ => by
    refine Ev.ret fun n => ?_
    rw [laws_heldIntS.l0, if_neg (by simp [marks])]
    simp
  | m + 1, p, k, h0, hk, hn => by
    have ih := heldIntS_l0 m (p ++ [k]) (k + 1) (by omega) (by omega) (by simp; omega)
    have e1 : (p ++ [k]) ++ marks (k + 1) m = p ++ k :: marks (k + 1) m := by simp
    have e2 : (((p ++ [k]).length : Nat) : Int) = (p.length : Int) + 1 := by simp
    rw [e1, e2] at ih
    have e3 : k + ((m + 1 : Nat) : Int) = k + 1 + (m : Int) := by omega
    rw [e3]
    refine Ev.step (fun n => ?_) ih
    show laws_heldIntS.l0 (n + 1) (p ++ k :: marks (k + 1) m) k (p.length : Int) = _
    rw [laws_heldIntS.l0, if_pos (by simp; omega), if_pos (by omega), rd_mid, if_pos rfl, w64 (by omega) (by omega), w64 (by omega) (by omega)]
theorem ev_heldIntS (k : Int) (m : Nat) (h0 : 0 ≤ k) (hk : k ≤ 4000000000000000000) (hm : m ≤ 35184372088832) : Ev (fun n => laws_heldIntS.f n (marks k m) k) (k + m) :=
  heldIntS_l0 m [] k h0 (by omega) (by simpa using hm)

theorem rd_L1_mid (p : List (List Int)) (h : List Int) (t : List (List Int)) : rd_L1 (p ++ h :: t) (p.length : Int) = h := by
  unfold rd_L1
  simp
theorem eqIntSS_l0 : ∀ (t p : List (List Int)), p.length + t.length ≤ 1000000 → (∀ x ∈ t, x.length ≤ 1000000) → Ev (fun k => laws_eqIntSS.l0 k (p ++ t) (p ++ t) (p.length : Int)) true
  | [], p, _, _ => Ev.ret fun k => by rw [laws_eqIntSS.l0, if_neg (by simp)]
  | h :: t, p, hn, hx => by
    have hn' : p.length + t.length + 1 ≤ 1000000 := by simpa [Nat.add_assoc] using hn
    have ih := eqIntSS_l0 t (p ++ [h]) (by simp; omega) (fun x hm => hx x (List.mem_cons_of_mem _ hm))
    have e1 : (p ++ [h]) ++ t = p ++ h :: t := by simp
    have e2 : (((p ++ [h]).length : Nat) : Int) = (p.length : Int) + 1 := by simp
    have hm : ((p ++ h :: t).length : Int) = (p.length : Int) + t.length + 1 := by simp; omega
    rw [e1, e2] at ih
    refine Ev.step (fun k => by rw [laws_eqIntSS.l0, if_pos (by omega), if_pos (by omega), if_pos (by omega), rd_L1_mid]) (Ev.bind (ev_eqIntS h (by have := hx h (List.mem_cons_self ..); omega)) ?_)
    exact Ev.congr (fun k => by rw [if_pos rfl, w64 (by omega) (by omega)]) ih
theorem ev_eqIntSS (l : List (List Int)) (hl : l.length ≤ 1000000) (hx : ∀ x ∈ l, x.length ≤ 1000000) : Ev (fun k => laws_eqIntSS.f k l l) true :=
  Ev.congr (fun k => by rw [laws_eqIntSS.f, if_pos rfl]; rfl) (eqIntSS_l0 l [] (by simpa using hl) hx)
/-- All rows' lengths. -/
def totSS : List (List Int) → Int
  | [] => 0
  | x :: t => (x.length : Int) + totSS t
/-- The rows, counted through. -/
def marksSS : Int → List (List Int) → List (List Int)
  | _, [] => []
  | q, x :: t => marks q x.length :: marksSS (q + x.length) t
theorem totSS_range : ∀ l : List (List Int), (∀ x ∈ l, x.length ≤ 1000000) → 0 ≤ totSS l ∧ totSS l ≤ 1000000 * l.length
  | [], _ => by simp [totSS]
  | x :: t, h => by
    have ih := totSS_range t (fun y hy => h y (List.mem_cons_of_mem _ hy))
    have hx := h x (List.mem_cons_self ..)
    rw [totSS, List.length_cons]
    omega
theorem marksSS_length : ∀ (l : List (List Int)) (q : Int), (marksSS q l).length = l.length
  | [], _ => rfl
  | x :: t, q => by rw [marksSS, List.length_cons, List.length_cons, marksSS_length t]
theorem ev_markIntSS_g : ∀ (l : List (List Int)) (q : Int), 0 ≤ q → q + 1000000 * l.length ≤ 3000000000000 → (∀ x ∈ l, x.length ≤ 1000000) → Ev (fun k => laws_markIntSS.g k l q) (q + totSS l, marksSS q l)
  | [], q, _, _, _ => by
    refine Ev.congr (fun k => by rw [laws_markIntSS.g]) ?_
    rw [totSS, marksSS, Int.add_zero]
    exact Ev.now _
  | x :: t, q, h0, h1, hx => by
    have h2 := hx x (List.mem_cons_self ..)
    rw [List.length_cons] at h1
    have ih := ev_markIntSS_g t (q + x.length) (by omega) (by omega) (fun y hy => hx y (List.mem_cons_of_mem _ hy))
    refine Ev.congr (fun k => by rw [laws_markIntSS.g]) (Ev.bind (ev_markIntS x q h0 (by omega) (by omega)) (Ev.bind ih ?_))
    rw [totSS, marksSS, ← Int.add_assoc]
    exact Ev.now _
theorem ev_markIntSS (l : List (List Int)) (hl : l.length ≤ 1000000) (hx : ∀ x ∈ l, x.length ≤ 1000000) : Ev (fun k => laws_markIntSS.f k l 1) (1 + totSS l, marksSS 1 l) :=
  Ev.congr (fun k => by rw [laws_markIntSS.f, if_pos hl]) (ev_markIntSS_g l 1 (by omega) (by omega) hx)
theorem heldIntSS_l0 : ∀ (t : List (List Int)) (p : List (List Int)) (q : Int), 0 ≤ q → q + 1000000 * t.length ≤ 3000000000000 → p.length + t.length ≤ 1000000 → (∀ x ∈ t, x.length ≤ 1000000) → Ev (fun k => laws_heldIntSS.l0 k (p ++ marksSS q t) q (p.length : Int)) (q + totSS t)
  | [], p, q, _, _, _, _ => by
    refine Ev.ret fun k => ?_
    rw [laws_heldIntSS.l0, if_neg (by simp [marksSS]), totSS, Int.add_zero]
  | x :: t, p, q, h0, h1, hn, hx => by
    have h2 := hx x (List.mem_cons_self ..)
    rw [List.length_cons] at h1 hn
    have ih := heldIntSS_l0 t (p ++ [marks q x.length]) (q + x.length) (by omega) (by omega) (by simp; omega) (fun y hy => hx y (List.mem_cons_of_mem _ hy))
    have e1 : (p ++ [marks q x.length]) ++ marksSS (q + x.length) t = p ++ marks q x.length :: marksSS (q + x.length) t := by simp
    have e2 : (((p ++ [marks q x.length]).length : Nat) : Int) = (p.length : Int) + 1 := by simp
    have hm : ((p ++ marks q x.length :: marksSS (q + x.length) t).length : Int) = (p.length : Int) + t.length + 1 := by simp [marksSS_length]; omega
    rw [e1, e2] at ih
    rw [totSS, marksSS, ← Int.add_assoc]
    refine Ev.step (fun k => by rw [laws_heldIntSS.l0, if_pos (by omega), if_pos (by omega), rd_L1_mid]) (Ev.bind (ev_heldIntS q x.length h0 (by omega) (by omega)) ?_)
    exact Ev.congr (fun k => by rw [if_neg (by omega), w64 (by omega) (by omega)]) ih
theorem ev_heldIntSS (l : List (List Int)) (hl : l.length ≤ 1000000) (hx : ∀ x ∈ l, x.length ≤ 1000000) : Ev (fun k => laws_heldIntSS.f k (marksSS 1 l) 1) (1 + totSS l) :=
  Ev.congr (fun k => by rw [laws_heldIntSS.f]; rfl) (heldIntSS_l0 l [] 1 (by omega) (by omega) (by simpa using hl) hx)

theorem inversionPairs_both (l : List Int) (hl : l.length ≤ 35184372088832) : ∃ r : List (List Int) × Bool, r.1.length ≤ 1000000 ∧ (∀ x ∈ r.1, x.length ≤ 1000000) ∧ Ev (fun k => spec_InversionPairs.f k l) r ∧ Ev (fun k => impl_InversionPairs.f k l) r := by
  have hi := ev_impl_isTree l hl
  have hs := ev_spec_trGood l hl
  cases c : isTr l with
  | false =>
    rw [c] at hi hs
    refine ⟨([], false), by simp, by simp, ?_, ?_⟩
    · exact Ev.congr (fun k => rfl) (Ev.bind hs (Ev.now _))
    · exact Ev.congr (fun k => rfl) (Ev.bind hi (Ev.now _))
  | true =>
    rw [c] at hi hs
    obtain ⟨h8, _⟩ := (isTr_iff l).1 c
    have hok := rowsS_ok l l.length 1 [] (by omega) (by omega) (by simp)
    have hrl := rowsS_length l l.length 1 []
    have hsq : l.length * l.length ≤ 8 * 8 := Nat.mul_le_mul h8 h8
    refine ⟨(rowsS l l.length 1 [], true), by simp at hrl ⊢; omega, fun x hx => by obtain ⟨i, j, e, _⟩ := hok x hx; rw [e]; simp, ?_, ?_⟩
    · exact Ev.congr (fun k => rfl) (Ev.bind hs (Ev.congr (fun k => if_pos rfl) (Ev.bind (ev_spec_trPairs l c) (Ev.now _))))
    · exact Ev.congr (fun k => rfl) (Ev.bind hi (Ev.congr (fun k => if_pos rfl) (Ev.bind (ev_impl_inversions l c) (Ev.now _))))
theorem FnExactInversionPairs : laws_FnExactInversionPairs.Pure := by
  intro l hl hl8 _
  by_cases hbig : (l.length : Int) > 1048576
  · exact ⟨0, by rw [laws_FnExactInversionPairs.f, if_pos (.inl hbig)]⟩
  obtain ⟨⟨s, b⟩, h1, h2, ⟨k1, e1⟩, ⟨k2, e2⟩⟩ := inversionPairs_both l (by omega)
  obtain ⟨k3, e3⟩ := ev_toIntS l (by omega)
  obtain ⟨k4, e4⟩ := ev_eqIntS l (by omega)
  obtain ⟨k5, e5⟩ := ev_eqIntSS s h1 h2
  obtain ⟨k6, e6⟩ := ev_markIntS l 1 (by omega) (by omega) (by omega)
  obtain ⟨k7, e7⟩ := ev_markIntSS s h1 h2
  obtain ⟨k8, e8⟩ := ev_heldIntSS s h1 h2
  have ht := (totSS_range s h2).1
  refine ⟨k1 + k2 + k3 + k4 + k5 + k6 + k7 + k8, ?_⟩
  rw [laws_FnExactInversionPairs.f, if_pos]
  exact .inr ⟨s, b, _, _, _, _, e1 _ (by omega), e2 _ (by omega), e3 _ (by omega), e4 _ (by omega), e5 _ (by omega), e6 _ (by omega), by omega, e7 _ (by omega), e8 _ (by omega), by omega⟩

end Go.Proofs.Ytmollfkakalagaa.Pure
