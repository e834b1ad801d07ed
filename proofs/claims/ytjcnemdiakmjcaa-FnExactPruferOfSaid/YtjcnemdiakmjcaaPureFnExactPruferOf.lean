/- PruferOf of the program and of the reference agree on every list, the argument stays, and nothing is shared. -/
import Derived.Test.YtjcnemdiakmjcaaWSized
import Derived.Test.YtjcnemdiakmjcaaPFnExactPruferOfx
namespace Go.Proofs.Ytjcnemdiakmjcaa.PrintWords
open Go.ChangeShapes Go.WideShapes
/-- The word by the name that the printed row asks for. -/
theorem sized_ints {H : Type} {enc : TypeId × Value → H} {P : Program} {W : World} {base : Nat} {spare : Nat → Bool} {held : Bool} {t e : TypeId} {k : IntKind} {a : Option Addr} {len cap : Nat} {d : DataW H} {ps : List MemPlace} {ts : List TypeId} {ds : List (DataW H)} {j : Nat}
    (hsz : (DataW.weightsEach P ts ds).all (· ≤ reachBytes) = true) (ht : ts[j]? = some t) (hd : ds[j]? = some d) (hu : P.underlying t = some (.slice e)) (he : P.underlying e = some (.int k)) (hc : P.cellsOf e = 1) {B : Nat} (hB : P.bytesOf e = B)
    (h : DataW.Trod enc P W base spare held t (.slice a len cap) d ps) : len * B ≤ 140737488351232 :=
  Go.Proofs.YtjcnemdiakmjcaaW.PrintWords.sized_ints hsz ht hd hu he hc hB h
end Go.Proofs.Ytjcnemdiakmjcaa.PrintWords
namespace Go.Proofs.Ytjcnemdiakmjcaa.Pure
open Go.RowKit Go.Proofs.Ytjcnemdiakmjcaa.PFnExactPruferOf Go.Proofs.YtjcnemdiakmjcaaW.PrintWords Go.Proofs.YtjcnemdiakmjcaaW.PrintLast
set_option linter.unusedVariables false
set_option linter.unusedSimpArgs false

theorem w64 {x : Int} (h0 : -9223372036854775808 ≤ x) (h1 : x ≤ 9223372036854775807) : wrap64 x = x := by
  unfold wrap64
  omega
theorem rd_mid (p : List Int) (h : Int) (t : List Int) : rd (p ++ h :: t) (p.length : Int) = h := by
  unfold rd
  simp
theorem rd_nat (l : List Int) (i : Nat) : rd l (i : Int) = l.getD i 0 := by
  unfold rd
  simp
theorem Ev.ret {α : Type} {g : Nat → Option α} {r : α} (h : ∀ k, g (k + 1) = some r) : Ev g r :=
  Ev.step (f := fun _ => some r) h (Ev.now r)

theorem toIntS_l0 : ∀ (t p : List Int), p.length + t.length ≤ 35184372088832 →
    Ev (fun k => laws_toIntS.l0 k (p ++ t) (p ++ List.replicate t.length 0) (p.length : Int)) (p ++ t)
  | [], p, _ => by
    refine Ev.ret fun k => ?_
    rw [laws_toIntS.l0, if_neg (by simp)]
    simp
  | h :: t, p, hn => by
    have hn' : p.length + t.length + 1 ≤ 35184372088832 := by simpa [Nat.add_assoc] using hn
    have ih := toIntS_l0 t (p ++ [h]) (by simp; omega)
    have e1 : (p ++ [h]) ++ t = p ++ h :: t := by simp
    have e2 : (((p ++ [h]).length : Nat) : Int) = (p.length : Int) + 1 := by simp
    rw [e1, e2] at ih
    refine Ev.step (fun k => ?_) ih
    show laws_toIntS.l0 (k + 1) (p ++ h :: t) (p ++ List.replicate (h :: t).length 0) (p.length : Int) = _
    rw [laws_toIntS.l0, if_pos (by simp; omega), if_pos (by omega), if_pos (by simp; omega), rd_mid, w64 (by omega) (by omega)]
    congr 1
    simp [List.replicate_succ, List.set_append]
theorem ev_toIntS (l : List Int) (h : l.length ≤ 35184372088832) : Ev (fun k => laws_toIntS.f k l) l := by
  have z := toIntS_l0 l [] (by simpa using h)
  refine Ev.congr (fun k => ?_) z
  show laws_toIntS.f k l = _
  rw [laws_toIntS.f, if_pos (by omega), if_pos (by simpa using h)]
  simp

theorem eqIntS_l0 : ∀ (t p : List Int), p.length + t.length ≤ 35184372088832 →
    Ev (fun k => laws_eqIntS.l0 k (p ++ t) (p ++ t) (p.length : Int)) true
  | [], p, _ => by
    refine Ev.ret fun k => ?_
    rw [laws_eqIntS.l0, if_neg (by simp)]
  | h :: t, p, hn => by
    have hn' : p.length + t.length + 1 ≤ 35184372088832 := by simpa [Nat.add_assoc] using hn
    have ih := eqIntS_l0 t (p ++ [h]) (by simp; omega)
    have e1 : (p ++ [h]) ++ t = p ++ h :: t := by simp
    have e2 : (((p ++ [h]).length : Nat) : Int) = (p.length : Int) + 1 := by simp
    rw [e1, e2] at ih
    refine Ev.step (fun k => ?_) ih
    show laws_eqIntS.l0 (k + 1) (p ++ h :: t) (p ++ h :: t) (p.length : Int) = _
    rw [laws_eqIntS.l0, if_pos (by simp; omega), if_pos (by omega), if_pos (by simp; omega), rd_mid, if_pos rfl, w64 (by omega) (by omega)]
theorem ev_eqIntS (l : List Int) (h : l.length ≤ 35184372088832) : Ev (fun k => laws_eqIntS.f k l l) true := by
  have z := eqIntS_l0 l [] (by simpa using h)
  refine Ev.congr (fun k => ?_) z
  show laws_eqIntS.f k l l = _
  rw [laws_eqIntS.f, if_pos rfl]
  rfl

/-- n numbers from one on. -/
def marks (k : Int) : Nat → List Int
  | 0 => []
  | n + 1 => k :: marks (k + 1) n
theorem marks_length : ∀ (n : Nat) (k : Int), (marks k n).length = n
  | 0, _ => rfl
  | n + 1, k => by simp [marks, marks_length n]
theorem markIntS_l0 : ∀ (t p : List Int) (k : Int), 0 ≤ k → k + t.length ≤ 4611686018427387904 → p.length + t.length ≤ 35184372088832 →
    Ev (fun n => laws_markIntS.l0 n (p ++ t) k (p.length : Int)) (k + t.length, p ++ marks k t.length)
  | [], p, k, _, _, _ => by
    refine Ev.ret fun n => ?_
    rw [laws_markIntS.l0, if_neg (by simp)]
    simp [marks]
  | h :: t, p, k, h0, hk, hn => by
    have hn' : p.length + t.length + 1 ≤ 35184372088832 := by simpa [Nat.add_assoc] using hn
    have hk' : k + (t.length : Int) + 1 ≤ 4611686018427387904 := by simp at hk; omega
    have ih := markIntS_l0 t (p ++ [k]) (k + 1) (by omega) (by omega) (by simp; omega)
    have e1 : (p ++ [k]) ++ t = p ++ k :: t := by simp
    have e2 : (((p ++ [k]).length : Nat) : Int) = (p.length : Int) + 1 := by simp
    rw [e1, e2] at ih
    have e3 : ((k + ((h :: t).length : Int), p ++ marks k (h :: t).length) : Int × List Int) = (k + 1 + (t.length : Int), p ++ [k] ++ marks (k + 1) t.length) := by
      simp [marks]; omega
    rw [e3]
    refine Ev.step (fun n => ?_) ih
    show laws_markIntS.l0 (n + 1) (p ++ h :: t) k (p.length : Int) = _
    rw [laws_markIntS.l0, if_pos (by simp; omega), if_pos (by omega), w64 (by omega) (by omega), w64 (by omega) (by omega)]
    congr 1
    simp [List.set_append]
theorem ev_markIntS (l : List Int) (k : Int) (h0 : 0 ≤ k) (hk : k ≤ 4000000000000000000) (hl : l.length ≤ 35184372088832) : Ev (fun n => laws_markIntS.f n l k) (k + l.length, marks k l.length) :=
  markIntS_l0 l [] k h0 (by omega) (by simpa using hl)
theorem heldIntS_l0 : ∀ (m : Nat) (p : List Int) (k : Int), 0 ≤ k → k + m ≤ 4611686018427387904 → p.length + m ≤ 35184372088832 →
    Ev (fun n => laws_heldIntS.l0 n (p ++ marks k m) k (p.length : Int)) (k + m)
  | 0, p, k, _, _, _ => by
    refine Ev.ret fun n => ?_
    rw [laws_heldIntS.l0, if_neg (by simp [marks])]
    simp
  | m + 1, p, k, h0, hk, hn => by
    have ih := heldIntS_l0 m (p ++ [k]) (k + 1) (by omega) (by omega) (by simp; omega)
    have e1 : (p ++ [k]) ++ marks (k + 1) m = p ++ k :: marks (k + 1) m := by simp
    have e2 : (((p ++ [k]).length : Nat) : Int) = (p.length : Int) + 1 := by simp
    rw [e1, e2] at ih
    have e3 : k + ((m + 1 : Nat) : Int) = k + 1 + (m : Int) := by omega
    rw [e3]
    refine Ev.step (fun n => ?_) ih
    show laws_heldIntS.l0 (n + 1) (p ++ k :: marks (k + 1) m) k (p.length : Int) = _
    rw [laws_heldIntS.l0, if_pos (by simp; omega), if_pos (by omega), rd_mid, if_pos rfl, w64 (by omega) (by omega), w64 (by omega) (by omega)]
theorem ev_heldIntS (k : Int) (m : Nat) (h0 : 0 ≤ k) (hk : k ≤ 4000000000000000000) (hm : m ≤ 35184372088832) : Ev (fun n => laws_heldIntS.f n (marks k m) k) (k + m) :=
  heldIntS_l0 m [] k h0 (by omega) (by simpa using hm)

/-- One step of a walk along a list: what stands behind the place. -/
theorem len_snoc (p : List Int) (h : Int) : (((p ++ [h]).length : Nat) : Int) = (p.length : Int) + 1 := by simp
theorem app_snoc (p : List Int) (h : Int) (t : List Int) : (p ++ [h]) ++ t = p ++ h :: t := by simp
theorem len_mid (p : List Int) (h : Int) (t : List Int) : ((p ++ h :: t).length : Int) = (p.length : Int) + t.length + 1 := by simp; omega

/-- All numbers lie from lo to hi. -/
def inAll (lo hi : Int) (l : List Int) : Bool := l.all fun n => decide (lo ≤ n) && decide (n ≤ hi)
theorem inAll_iff (lo hi : Int) (l : List Int) : inAll lo hi l = true ↔ ∀ x ∈ l, lo ≤ x ∧ x ≤ hi := by
  simp [inAll, List.all_eq_true]
theorem inAll_cons (lo hi x : Int) (l : List Int) : inAll lo hi (x :: l) = ((decide (lo ≤ x) && decide (x ≤ hi)) && inAll lo hi l) := by
  simp [inAll]

/-- Parents lead to the root in so many steps at most. -/
def climb (par : List Int) : Nat → Int → Bool
  | 0, a => decide (a ≤ 0)
  | m + 1, a => if a > 0 then climb par m (rd par (a - 1)) else true
theorem climb_more (par : List Int) : ∀ (m : Nat) (a : Int), climb par m a = true → climb par (m + 1) a = true
  | 0, a, h => by
    simp only [climb, decide_eq_true_eq] at h
    simp only [climb]
    rw [if_neg (by omega)]
  | m + 1, a, h => by
    rw [climb]
    by_cases c : a > 0
    · rw [if_pos c]
      rw [climb, if_pos c] at h
      exact climb_more par m _ h
    · rw [if_neg c]
/-- The node so many steps above. -/
def up (par : List Int) : Nat → Int → Int
  | 0, a => a
  | m + 1, a => up par m (rd par (a - 1))
theorem climb_up (par : List Int) : ∀ (m : Nat) (a : Int), climb par m a = true ↔ ∃ j, j ≤ m ∧ up par j a ≤ 0
  | 0, a => by
    simp only [climb, decide_eq_true_eq]
    constructor
    · exact fun h => ⟨0, Nat.le_refl _, h⟩
    · rintro ⟨j, hj, h⟩
      obtain rfl : j = 0 := by omega
      exact h
  | m + 1, a => by
    rw [climb]
    by_cases c : a > 0
    · rw [if_pos c, climb_up par m]
      constructor
      · rintro ⟨j, hj, h⟩
        exact ⟨j + 1, by omega, h⟩
      · rintro ⟨j, hj, h⟩
        cases j with
        | zero => exact absurd h (by simp only [up]; omega)
        | succ j => exact ⟨j, by omega, h⟩
    · rw [if_neg c]
      exact ⟨fun _ => ⟨0, by omega, by simp only [up]; omega⟩, fun _ => rfl⟩
theorem up_add (par : List Int) : ∀ (i j : Nat) (a : Int), up par (i + j) a = up par j (up par i a)
  | 0, j, a => by rw [Nat.zero_add]; rfl
  | i + 1, j, a => by
    rw [Nat.add_right_comm]
    exact up_add par i j (rd par (a - 1))
/-- Of n + 1 numbers from 1 to n two are alike. -/
theorem two_alike : ∀ (n : Nat) (f : Nat → Int), (∀ i, i ≤ n → 1 ≤ f i ∧ f i ≤ n) → ∃ i j, i < j ∧ j ≤ n ∧ f i = f j
  | 0, f, h => by have := h 0 (by omega); omega
  | n + 1, f, h => by
    by_cases c : ∃ i, i ≤ n ∧ f i = f (n + 1)
    · obtain ⟨i, hi, e⟩ := c
      exact ⟨i, n + 1, by omega, by omega, e⟩
    · -- the last one's value is left out
      let g : Nat → Int := fun i => if f i > f (n + 1) then f i - 1 else f i
      have hg : ∀ i, i ≤ n → 1 ≤ g i ∧ g i ≤ n := by
        intro i hi
        have h1 := h i (by omega)
        have h2 := h (n + 1) (by omega)
        have h3 : f i ≠ f (n + 1) := fun e => c ⟨i, hi, e⟩
        show 1 ≤ (if f i > f (n + 1) then f i - 1 else f i) ∧ (if f i > f (n + 1) then f i - 1 else f i) ≤ n
        split <;> omega
      obtain ⟨i, j, hij, hj, e⟩ := two_alike n g hg
      have h3 : f i ≠ f (n + 1) := fun e => c ⟨i, by omega, e⟩
      have h4 : f j ≠ f (n + 1) := fun e => c ⟨j, by omega, e⟩
      refine ⟨i, j, hij, by omega, ?_⟩
      have e' : (if f i > f (n + 1) then f i - 1 else f i) = (if f j > f (n + 1) then f j - 1 else f j) := e
      split at e' <;> split at e' <;> omega
/-- What is reached in n + 1 steps is reached in n. -/
theorem climb_less (par : List Int) (hp : ∀ x ∈ par, 0 ≤ x ∧ x ≤ par.length) (a : Int) (ha0 : 0 ≤ a) (ha : a ≤ par.length) (h : climb par (par.length + 1) a = true) : climb par par.length a = true := by
  rw [climb_up] at h ⊢
  obtain ⟨j, hj, hu⟩ := h
  by_cases c : ∃ i, i ≤ par.length ∧ up par i a ≤ 0
  · exact c
  · exfalso
    have hpos : ∀ i, i ≤ par.length → 1 ≤ up par i a := fun i hi => by
      have : ¬ up par i a ≤ 0 := fun e => c ⟨i, hi, e⟩
      omega
    have hle : ∀ i, i ≤ par.length → up par i a ≤ par.length := by
      intro i
      induction i with
      | zero => intro _; exact ha
      | succ i ih =>
        intro hi
        have h1 := hpos i (by omega)
        have h2 := ih (by omega)
        rw [up_add par i 1]
        have hr : rd par (up par i a - 1) ∈ par := by
          unfold rd
          rw [List.getD_eq_getElem?_getD, List.getElem?_eq_getElem (by omega)]
          exact List.getElem_mem _
        exact (hp _ hr).2
    obtain ⟨i, k, hik, hk, e⟩ := two_alike par.length (fun i => up par i a) (fun i hi => ⟨hpos i hi, hle i hi⟩)
    have e : up par i a = up par k a := e
    -- j = n + 1: the same place stood earlier
    have hj' : j = par.length + 1 := by
      rcases Nat.lt_or_ge par.length j with h1 | h1
      · omega
      · exact absurd ⟨j, h1, hu⟩ c
    have e2 : up par j a = up par (i + (j - k)) a := by
      rw [show j = k + (j - k) by omega, up_add par k, up_add par i, ← e]
      congr 1
      omega
    have := hpos (i + (j - k)) (by omega)
    omega
/-- A tree: parents lead to the root from each node. -/
def isTr (par : List Int) : Bool := decide (par.length ≤ 8) && inAll 0 par.length par && (List.range par.length).all fun i => climb par par.length ((i : Int) + 1)

theorem ev_spec_l1In (a b c : Int) : spec_l1In.f a b c = some (decide (b ≤ a) && decide (a ≤ c)) := by
  unfold spec_l1In.f
  by_cases h : a ≥ b
  · rw [if_pos h]; simp [show b ≤ a from h]
  · rw [if_neg h]; simp [show ¬ b ≤ a from h]

theorem spec_l1All_l0 (lo hi : Int) : ∀ (t p : List Int), p.length + t.length ≤ 35184372088832 →
    Ev (fun k => spec_l1All.l0 k lo hi (p ++ t) ((p ++ t).length : Int) (p.length : Int)) (inAll lo hi t)
  | [], p, _ => by
    refine Ev.ret fun k => ?_
    rw [spec_l1All.l0, if_neg (by simp)]
    rfl
  | h :: t, p, hn => by
    have hn' : p.length + t.length + 1 ≤ 35184372088832 := by simpa [Nat.add_assoc] using hn
    have hm := len_mid p h t
    rw [inAll_cons]
    cases c : decide (lo ≤ h) && decide (h ≤ hi) with
    | true =>
      have ih := spec_l1All_l0 lo hi t (p ++ [h]) (by simp; omega)
      rw [app_snoc, len_snoc] at ih
      rw [Bool.true_and]
      refine Ev.step (fun k => ?_) ih
      show spec_l1All.l0 (k + 1) lo hi (p ++ h :: t) ((p ++ h :: t).length : Int) (p.length : Int) = _
      rw [spec_l1All.l0, if_pos (by omega), if_pos (by omega), if_pos (by omega), rd_mid, ev_spec_l1In, c, Option.bind_some, if_pos rfl, w64 (by omega) (by omega)]
    | false =>
      rw [Bool.false_and]
      refine Ev.ret fun k => ?_
      rw [spec_l1All.l0, if_pos (by omega), if_pos (by omega), if_pos (by omega), rd_mid, ev_spec_l1In, c]
      rfl
theorem ev_spec_l1All (l : List Int) (lo hi : Int) (hl : l.length ≤ 35184372088832) : Ev (fun k => spec_l1All.f k l lo hi) (inAll lo hi l) :=
  spec_l1All_l0 lo hi l [] (by simpa using hl)

theorem spec_trGood_l1 (par : List Int) (n : Int) (hn : n = par.length) (hn8 : par.length ≤ 8) (hp : ∀ x ∈ par, 0 ≤ x ∧ x ≤ par.length) (w i : Int) (r : Bool) (r' : Bool) : ∀ (m : Nat) (a s : Int), 0 ≤ a → a ≤ n → 0 ≤ s → s + m = n →
    Ev (fun k => spec_trGood.l0 k par n w (wrap64 (i + 1))) r → (r' = (climb par m a && r)) → Ev (fun k => spec_trGood.l1 k par n a s w i) r'
  | 0, a, s, h0, h1, hs, hm, h, e => by
    subst e
    simp only [climb]
    by_cases c : a > 0
    · rw [decide_eq_false (by omega), Bool.false_and]
      refine Ev.ret fun k => ?_
      rw [spec_trGood.l1, if_pos c, if_pos (by omega)]
    · rw [decide_eq_true (by omega), Bool.true_and]
      refine Ev.step (fun k => ?_) h
      show spec_trGood.l1 (k + 1) par n a s w i = _
      rw [spec_trGood.l1, if_neg c]
  | m + 1, a, s, h0, h1, hs, hm, h, e => by
    subst e
    by_cases c : a > 0
    · rw [climb, if_pos c]
      have hr : rd par (a - 1) ∈ par := by
        unfold rd
        rw [List.getD_eq_getElem?_getD, List.getElem?_eq_getElem (by omega)]
        exact List.getElem_mem _
      have hb := hp _ hr
      refine Ev.step (fun k => ?_) (spec_trGood_l1 par n hn hn8 hp w i r _ m (rd par (a - 1)) (s + 1) hb.1 (by omega) (by omega) (by omega) h rfl)
      show spec_trGood.l1 (k + 1) par n a s w i = _
      rw [spec_trGood.l1, if_pos c, if_neg (by omega), w64 (x := a - 1) (by omega) (by omega), if_pos (by omega), if_pos (by omega), w64 (by omega) (by omega)]
    · rw [climb, if_neg c, Bool.true_and]
      refine Ev.step (fun k => ?_) h
      show spec_trGood.l1 (k + 1) par n a s w i = _
      rw [spec_trGood.l1, if_neg c]
theorem spec_trGood_l0 (par : List Int) (hn8 : par.length ≤ 8) (hp : ∀ x ∈ par, 0 ≤ x ∧ x ≤ par.length) : ∀ (d i : Nat), i + d = par.length →
    Ev (fun k => spec_trGood.l0 k par (par.length : Int) (par.length : Int) (i : Int)) ((List.range' i d).all fun j => climb par par.length ((j : Int) + 1))
  | 0, i, hi => by
    refine Ev.ret fun k => ?_
    rw [spec_trGood.l0, if_neg (by omega)]
    rfl
  | d + 1, i, hi => by
    have ih := spec_trGood_l0 par hn8 hp d (i + 1) (by omega)
    refine Ev.step (fun k => ?_) (spec_trGood_l1 par (par.length : Int) rfl hn8 hp (par.length : Int) (i : Int) ((List.range' (i + 1) d).all fun j => climb par par.length ((j : Int) + 1)) _ par.length ((i : Int) + 1) 0 (by omega) (by omega) (by omega) (by omega) ?_ ?_)
    · show spec_trGood.l0 (k + 1) par (par.length : Int) (par.length : Int) (i : Int) = _
      rw [spec_trGood.l0, if_pos (by omega), w64 (by omega) (by omega)]
    · rw [w64 (by omega) (by omega)]
      exact ih
    · rw [List.range'_succ, List.all_cons]
theorem ev_spec_trGood (par : List Int) (hl : par.length ≤ 35184372088832) : Ev (fun k => spec_trGood.f k par) (isTr par) := by
  by_cases c8 : par.length ≤ 8
  · cases c : inAll 0 par.length par with
    | false =>
      have e : isTr par = false := by simp [isTr, c]
      rw [e]
      refine Ev.congr (fun k => by rw [spec_trGood.f, if_neg (by omega)]) ?_
      refine Ev.bind (ev_spec_l1All par 0 par.length hl) ?_
      rw [c]
      exact Ev.ret fun k => by rw [spec_trGood.j0]; rfl
    | true =>
      have hp := (inAll_iff _ _ _).1 c
      have e : isTr par = (List.range' 0 par.length).all fun j => climb par par.length ((j : Int) + 1) := by
        simp [isTr, c, c8, List.range_eq_range']
      rw [e]
      refine Ev.congr (fun k => by rw [spec_trGood.f, if_neg (by omega)]) ?_
      refine Ev.bind (ev_spec_l1All par 0 par.length hl) ?_
      rw [c]
      refine Ev.step (fun k => by rw [spec_trGood.j0, if_neg (by simp)]) ?_
      exact spec_trGood_l0 par c8 hp par.length 0 (by omega)
  · have e : isTr par = false := by simp [isTr, c8]
    rw [e]
    refine Ev.congr (fun k => by rw [spec_trGood.f, if_pos (by omega)]) ?_
    exact Ev.ret fun k => by rw [spec_trGood.j0, if_pos rfl]

theorem slices_IndexFunc_l0 (q : Int → Bool) : ∀ (t p : List Int), p.length + t.length ≤ 35184372088832 →
    ∃ r : Int, decide (r ≥ 0) = t.any q ∧ Ev (fun k => slices_IndexFunc_int_int.l0 q k (p ++ t) ((p ++ t).length : Int) (p.length : Int)) r
  | [], p, _ => by
    refine ⟨-1, by simp, Ev.ret fun k => ?_⟩
    rw [slices_IndexFunc_int_int.l0, if_neg (by simp)]
  | h :: t, p, hn => by
    have hn' : p.length + t.length + 1 ≤ 35184372088832 := by simpa [Nat.add_assoc] using hn
    have hm := len_mid p h t
    cases c : q h with
    | true =>
      refine ⟨p.length, by simp [c], Ev.ret fun k => ?_⟩
      rw [slices_IndexFunc_int_int.l0, if_pos (by omega), if_pos (by omega), if_pos (by omega), rd_mid, c, Option.bind_some, if_pos rfl]
    | false =>
      obtain ⟨r, hr, ih⟩ := slices_IndexFunc_l0 q t (p ++ [h]) (by simp; omega)
      rw [app_snoc, len_snoc] at ih
      refine ⟨r, by simpa [c] using hr, Ev.step (fun k => ?_) ih⟩
      show slices_IndexFunc_int_int.l0 q (k + 1) (p ++ h :: t) ((p ++ h :: t).length : Int) (p.length : Int) = _
      rw [slices_IndexFunc_int_int.l0, if_pos (by omega), if_pos (by omega), if_pos (by omega), rd_mid, c, Option.bind_some, if_neg (by simp), w64 (by omega) (by omega)]
theorem ev_containsFunc (q : Int → Bool) (l : List Int) (hl : l.length ≤ 35184372088832) : Ev (fun k => slices_ContainsFunc_int_int.f q k l) (l.any q) := by
  obtain ⟨r, hr, h⟩ := slices_IndexFunc_l0 q l [] (by simpa using hl)
  rw [← hr]
  exact Ev.congr (fun k => rfl) (Ev.bind h (Ev.now _))

theorem ev_impl_between (a b c : Int) : impl_between.f a b c = some (decide (b ≤ a) && decide (a ≤ c)) := by
  unfold impl_between.f
  by_cases h : a ≥ b
  · rw [if_pos h]; simp [show b ≤ a from h]
  · rw [if_neg h]; simp [show ¬ b ≤ a from h]

theorem ev_impl_areBetween (l : List Int) (lo hi : Int) (hl : l.length ≤ 35184372088832) : Ev (fun k => impl_areBetween.f k l lo hi) (inAll lo hi l) := by
  have e : (!(l.any (impl_areBetween_1.p lo hi))) = inAll lo hi l := by
    have hp : ∀ n, impl_areBetween_1.p lo hi n = !(decide (lo ≤ n) && decide (n ≤ hi)) := fun n => by
      simp [impl_areBetween_1.p, ev_impl_between]
    unfold inAll
    induction l with
    | nil => rfl
    | cons x t ih =>
      rw [List.any_cons, List.all_cons, Bool.not_or, ih (by simp at hl; omega), hp, Bool.not_not]
  rw [← e]
  exact Ev.congr (fun k => rfl) (Ev.bind (ev_containsFunc (impl_areBetween_1.p lo hi) l hl) (Ev.now _))

theorem ev_impl_isCars (a : Int) : impl_isCars.f a = some (decide (0 ≤ a) && decide (a ≤ 8)) := by
  unfold impl_isCars.f
  rw [ev_impl_between]
  rfl

theorem impl_isTree_l1 (par : List Int) (n : Int) (hn : n = par.length) (hn8 : par.length ≤ 8) (hp : ∀ x ∈ par, 0 ≤ x ∧ x ≤ par.length) (w i : Int) (r : Bool) (r' : Bool) : ∀ (m : Nat) (a s : Int), 0 ≤ a → a ≤ n → 0 ≤ s → s + m = n + 1 →
    Ev (fun k => impl_isTree.l0 k par n w (wrap64 (i + 1))) r → (r' = (climb par m a && r)) → Ev (fun k => impl_isTree.l1 k par n a s w i) r'
  | 0, a, s, h0, h1, hs, hm, h, e => by
    subst e
    simp only [climb]
    by_cases c : a > 0
    · rw [decide_eq_false (by omega), Bool.false_and]
      refine Ev.ret fun k => ?_
      rw [impl_isTree.l1, if_pos c, if_pos (by omega)]
    · rw [decide_eq_true (by omega), Bool.true_and]
      refine Ev.step (fun k => ?_) h
      show impl_isTree.l1 (k + 1) par n a s w i = _
      rw [impl_isTree.l1, if_neg c]
  | m + 1, a, s, h0, h1, hs, hm, h, e => by
    subst e
    by_cases c : a > 0
    · rw [climb, if_pos c]
      have hr : rd par (a - 1) ∈ par := by
        unfold rd
        rw [List.getD_eq_getElem?_getD, List.getElem?_eq_getElem (by omega)]
        exact List.getElem_mem _
      have hb := hp _ hr
      refine Ev.step (fun k => ?_) (impl_isTree_l1 par n hn hn8 hp w i r _ m (rd par (a - 1)) (s + 1) hb.1 (by omega) (by omega) (by omega) h rfl)
      show impl_isTree.l1 (k + 1) par n a s w i = _
      rw [impl_isTree.l1, if_pos c, if_neg (by omega), w64 (x := a - 1) (by omega) (by omega), if_pos (by omega), if_pos (by omega), w64 (by omega) (by omega)]
    · rw [climb, if_neg c, Bool.true_and]
      refine Ev.step (fun k => ?_) h
      show impl_isTree.l1 (k + 1) par n a s w i = _
      rw [impl_isTree.l1, if_neg c]
theorem impl_isTree_l0 (par : List Int) (hn8 : par.length ≤ 8) (hp : ∀ x ∈ par, 0 ≤ x ∧ x ≤ par.length) : ∀ (d i : Nat), i + d = par.length →
    Ev (fun k => impl_isTree.l0 k par (par.length : Int) (par.length : Int) (i : Int)) ((List.range' i d).all fun j => climb par par.length ((j : Int) + 1))
  | 0, i, hi => by
    refine Ev.ret fun k => ?_
    rw [impl_isTree.l0, if_neg (by omega)]
    rfl
  | d + 1, i, hi => by
    have ih := impl_isTree_l0 par hn8 hp d (i + 1) (by omega)
    refine Ev.step (fun k => ?_) (impl_isTree_l1 par (par.length : Int) rfl hn8 hp (par.length : Int) (i : Int) ((List.range' (i + 1) d).all fun j => climb par par.length ((j : Int) + 1)) _ (par.length + 1) ((i : Int) + 1) 0 (by omega) (by omega) (by omega) (by omega) ?_ ?_)
    · show impl_isTree.l0 (k + 1) par (par.length : Int) (par.length : Int) (i : Int) = _
      rw [impl_isTree.l0, if_pos (by omega), w64 (by omega) (by omega)]
    · rw [w64 (by omega) (by omega)]
      exact ih
    · rw [List.range'_succ, List.all_cons]
      congr 1
      rw [Bool.eq_iff_iff]
      exact ⟨climb_more par _ _, climb_less par hp _ (by omega) (by omega)⟩
theorem ev_impl_isTree (par : List Int) (hl : par.length ≤ 35184372088832) : Ev (fun k => impl_isTree.f k par) (isTr par) := by
  by_cases c8 : par.length ≤ 8
  · have d8 : (decide ((0 : Int) ≤ par.length) && decide ((par.length : Int) ≤ 8)) = true := by
      rw [Bool.and_eq_true, decide_eq_true_eq, decide_eq_true_eq]; omega
    cases c : inAll 0 par.length par with
    | false =>
      have e : isTr par = false := by simp [isTr, c]
      rw [e]
      refine Ev.congr (fun k => by rw [impl_isTree.f, ev_impl_isCars, d8, Option.bind_some, if_pos rfl]) ?_
      refine Ev.bind (ev_impl_areBetween par 0 par.length hl) ?_
      rw [c]
      exact Ev.ret fun k => by rw [impl_isTree.j0]; rfl
    | true =>
      have hp := (inAll_iff _ _ _).1 c
      have e : isTr par = (List.range' 0 par.length).all fun j => climb par par.length ((j : Int) + 1) := by
        simp [isTr, c, c8, List.range_eq_range']
      rw [e]
      refine Ev.congr (fun k => by rw [impl_isTree.f, ev_impl_isCars, d8, Option.bind_some, if_pos rfl]) ?_
      refine Ev.bind (ev_impl_areBetween par 0 par.length hl) ?_
      rw [c]
      refine Ev.step (fun k => by rw [impl_isTree.j0, if_neg (by simp)]) ?_
      exact impl_isTree_l0 par c8 hp par.length 0 (by omega)
  · have e : isTr par = false := by simp [isTr, c8]
    have d8 : (decide ((0 : Int) ≤ par.length) && decide ((par.length : Int) ≤ 8)) = false := by
      rw [Bool.and_eq_false_iff]; right; exact decide_eq_false (by omega)
    rw [e]
    refine Ev.congr (fun k => by rw [impl_isTree.f, ev_impl_isCars, d8, Option.bind_some, if_neg (by simp)]) ?_
    exact Ev.ret fun k => by rw [impl_isTree.j0, if_pos rfl]

/-- How many numbers are so. -/
def cnt (q : Int → Bool) : List Int → Int
  | [] => 0
  | h :: t => (if q h = true then 1 else 0) + cnt q t
theorem cnt_range (q : Int → Bool) : ∀ l : List Int, 0 ≤ cnt q l ∧ cnt q l ≤ l.length
  | [] => by simp [cnt]
  | h :: t => by
    have := cnt_range q t
    have e : ((h :: t).length : Int) = (t.length : Int) + 1 := by simp
    simp only [cnt]
    rw [e]
    split <;> omega
theorem cnt_append (q : Int → Bool) : ∀ a b : List Int, cnt q (a ++ b) = cnt q a + cnt q b
  | [], b => by simp [cnt]
  | h :: t, b => by simp only [List.cons_append, cnt, cnt_append q t b]; omega

/-- The places of the numbers that are so. -/
def places (q : Int → Bool) : List Int → Int → List Int
  | [], _ => []
  | h :: t, i => if q h = true then i :: places q t (i + 1) else places q t (i + 1)
theorem places_length (q : Int → Bool) : ∀ (l : List Int) (i : Int), ((places q l i).length : Int) = cnt q l
  | [], i => by simp [places, cnt]
  | h :: t, i => by
    rw [places, cnt]
    have := places_length q t (i + 1)
    split
    · simp; omega
    · omega
theorem places_mem (q : Int → Bool) (x : Int) : ∀ (l : List Int) (i : Int), x ∈ places q l i ↔ ∃ j : Nat, ∃ v, l[j]? = some v ∧ q v = true ∧ x = i + j
  | [], i => by simp [places]
  | h :: t, i => by
    rw [places]
    have ih := places_mem q x t (i + 1)
    constructor
    · intro hx
      have : x = i ∧ q h = true ∨ x ∈ places q t (i + 1) := by
        split at hx
        · rename_i c
          rcases List.mem_cons.1 hx with h1 | h1
          · exact .inl ⟨h1, c⟩
          · exact .inr h1
        · exact .inr hx
      rcases this with ⟨h1, h2⟩ | h1
      · exact ⟨0, h, by simp, h2, by omega⟩
      · obtain ⟨j, v, h2, h3, h4⟩ := ih.1 h1
        exact ⟨j + 1, v, by simpa using h2, h3, by omega⟩
    · rintro ⟨j, v, h2, h3, h4⟩
      cases j with
      | zero =>
        have e : h = v := by simpa using h2
        rw [e, if_pos h3]
        exact List.mem_cons.2 (.inl (by omega))
      | succ j =>
        have h1 : x ∈ places q t (i + 1) := ih.2 ⟨j, v, by simpa using h2, h3, by omega⟩
        split
        · exact List.mem_cons_of_mem _ h1
        · exact h1
theorem places_rising (q : Int → Bool) : ∀ (l : List Int) (i : Int), (places q l i).Pairwise (· < ·)
  | [], i => by simp [places]
  | h :: t, i => by
    rw [places]
    split
    · rw [List.pairwise_cons]
      refine ⟨fun x hx => ?_, places_rising q t (i + 1)⟩
      obtain ⟨j, v, _, _, e⟩ := (places_mem q x t (i + 1)).1 hx
      omega
    · exact places_rising q t (i + 1)

/-- The children of a node or the root. -/
def kids (par : List Int) (v : Int) : List Int := (places (fun p => decide (p = v)) par 0).map (· + 1)
theorem kids_length (par : List Int) (v : Int) : ((kids par v).length : Int) = cnt (fun p => decide (p = v)) par := by
  rw [kids, List.length_map, places_length]

/-- How many steps lead to the root, of so many at most. -/
def hgt (par : List Int) : Nat → Int → Nat
  | 0, _ => 0
  | m + 1, a => if a > 0 then hgt par m (rd par (a - 1)) + 1 else 0
theorem hgt_more (par : List Int) : ∀ (m : Nat) (a : Int), climb par m a = true → hgt par (m + 1) a = hgt par m a
  | 0, a, h => by
    simp only [climb, decide_eq_true_eq] at h
    simp only [hgt]
    rw [if_neg (by omega)]
  | m + 1, a, h => by
    rw [climb] at h
    show (if a > 0 then hgt par (m + 1) (rd par (a - 1)) + 1 else 0) = (if a > 0 then hgt par m (rd par (a - 1)) + 1 else 0)
    by_cases c : a > 0
    · rw [if_pos c] at h
      rw [if_pos c, if_pos c, hgt_more par m _ h]
    · rw [if_neg c, if_neg c]
/-- The depth of a node. -/
def dep (par : List Int) (a : Int) : Nat := hgt par par.length a
theorem isTr_iff (par : List Int) : isTr par = true ↔ par.length ≤ 8 ∧ (∀ x ∈ par, 0 ≤ x ∧ x ≤ par.length) ∧ ∀ a : Int, 1 ≤ a → a ≤ par.length → climb par par.length a = true := by
  simp only [isTr, Bool.and_eq_true, decide_eq_true_eq, inAll_iff, List.all_eq_true, List.mem_range]
  constructor
  · rintro ⟨⟨h1, h2⟩, h3⟩
    refine ⟨h1, h2, fun a ha hb => ?_⟩
    have := h3 (a - 1).toNat (by omega)
    rwa [show (((a - 1).toNat : Nat) : Int) + 1 = a by omega] at this
  · rintro ⟨h1, h2, h3⟩
    exact ⟨⟨h1, h2⟩, fun i hi => h3 _ (by omega) (by omega)⟩
theorem rd_mem (l : List Int) (i : Int) (h0 : 0 ≤ i) (h1 : i < l.length) : rd l i ∈ l := by
  unfold rd
  rw [List.getD_eq_getElem?_getD, List.getElem?_eq_getElem (by omega)]
  exact List.getElem_mem _
/-- In a tree a node is one deeper than its parent. -/
theorem dep_step (par : List Int) (ht : isTr par = true) (a : Int) (h0 : 1 ≤ a) (h1 : a ≤ par.length) : dep par a = dep par (rd par (a - 1)) + 1 := by
  obtain ⟨_, h2, h3⟩ := (isTr_iff par).1 ht
  have hc := h3 a h0 h1
  unfold dep
  obtain ⟨m, hm⟩ : ∃ m, par.length = m + 1 := ⟨par.length - 1, by omega⟩
  rw [hm] at hc ⊢
  rw [climb, if_pos (by omega)] at hc
  rw [hgt, if_pos (by omega), hgt_more par m _ hc]

theorem kids_mem (par : List Int) (v x : Int) : x ∈ kids par v ↔ 1 ≤ x ∧ x ≤ par.length ∧ rd par (x - 1) = v := by
  rw [kids, List.mem_map]
  constructor
  · rintro ⟨y, hy, rfl⟩
    obtain ⟨j, w, h1, h2, h3⟩ := (places_mem _ _ _ _).1 hy
    have h4 := (List.getElem?_eq_some_iff.1 h1).1
    refine ⟨by omega, by omega, ?_⟩
    have h5 : w = v := by simpa using h2
    unfold rd
    rw [show (y + 1 - 1).toNat = j by omega, List.getD_eq_getElem?_getD, h1, ← h5]
    rfl
  · rintro ⟨h1, h2, h3⟩
    refine ⟨x - 1, (places_mem _ _ _ _).2 ⟨(x - 1).toNat, v, ?_, by simp, by omega⟩, by omega⟩
    unfold rd at h3
    rw [List.getD_eq_getElem?_getD, List.getElem?_eq_getElem (by omega)] at h3
    rw [List.getElem?_eq_getElem (by omega)]
    exact congrArg some h3
theorem kids_nodup (par : List Int) (v : Int) : (kids par v).Nodup := by
  rw [kids]
  refine List.pairwise_map.2 ((places_rising (fun p => decide (p = v)) par 0).imp ?_)
  intro a b h
  omega
/-- Breadth order as far as it has come: k nodes' children stand in it. -/
structure InB (par ord : List Int) (k : Nat) : Prop where
  nd : ord.Nodup
  le : k ≤ ord.length
  zero : 0 ∈ ord
  range : ∀ v ∈ ord, 0 ≤ v ∧ v ≤ par.length
  has : ∀ v : Int, 1 ≤ v → v ≤ par.length → (v ∈ ord ↔ rd par (v - 1) ∈ ord.take k)
theorem nodup_at {l : List Int} (h : l.Nodup) {i j : Nat} (hi : i < j) (hj : j < l.length) : l[i]'(by omega) ≠ l[j] :=
  List.pairwise_iff_getElem.1 h i j (by omega) hj hi
theorem nodup_length (n : Nat) (l : List Int) (h : l.Nodup) (hr : ∀ v ∈ l, 0 ≤ v ∧ v ≤ n) : l.length ≤ n + 1 := by
  refine Classical.byContradiction fun c => ?_
  obtain ⟨i, j, hij, hj, e⟩ := two_alike (n + 1) (fun i => l.getD i 0 + 1) (fun i hi => by
    have hm : l.getD i 0 ∈ l := by
      rw [List.getD_eq_getElem?_getD, List.getElem?_eq_getElem (by omega)]
      exact List.getElem_mem _
    have := hr _ hm
    show 1 ≤ l.getD i 0 + 1 ∧ l.getD i 0 + 1 ≤ ((n + 1 : Nat) : Int)
    omega)
  have e2 : l.getD i 0 + 1 = l.getD j 0 + 1 := e
  rw [List.getD_eq_getElem?_getD, List.getD_eq_getElem?_getD, List.getElem?_eq_getElem (by omega), List.getElem?_eq_getElem (by omega)] at e2
  simp only [Option.getD_some] at e2
  exact nodup_at h hij (by omega) (by omega)
theorem InB.first (par : List Int) : InB par [0] 0 :=
  ⟨by simp, by simp, by simp, by simp, by intro v h1 h2; simp; omega⟩
theorem InB.length {par ord : List Int} {k : Nat} (h : InB par ord k) : ord.length ≤ par.length + 1 := nodup_length par.length ord h.nd h.range
theorem InB.step {par ord : List Int} {k : Nat} (h : InB par ord k) (hk : k < ord.length) : InB par (ord ++ kids par (rd ord k)) (k + 1) := by
  have hrk : rd ord (k : Int) = ord[k] := by
    unfold rd
    rw [Int.toNat_natCast, List.getD_eq_getElem?_getD, List.getElem?_eq_getElem hk]
    rfl
  have hnt : rd ord (k : Int) ∉ ord.take k := by
    rw [hrk]
    intro hm
    obtain ⟨i, hi, e⟩ := List.mem_iff_getElem.1 hm
    rw [List.getElem_take] at e
    have : i < k := by simp at hi; omega
    exact nodup_at h.nd this hk e
  have htk : (ord ++ kids par (rd ord k)).take (k + 1) = ord.take k ++ [rd ord (k : Int)] := by
    rw [List.take_append_of_le_length (by omega), hrk, List.take_append_getElem]
  refine ⟨?_, by simp; omega, List.mem_append_left _ h.zero, ?_, ?_⟩
  · refine List.nodup_append.2 ⟨h.nd, kids_nodup par _, ?_⟩
    intro a ha b hb e
    obtain ⟨h1, h2, h3⟩ := (kids_mem par _ b).1 hb
    rw [e] at ha
    have := (h.has b h1 h2).1 ha
    rw [h3] at this
    exact hnt this
  · intro v hv
    rcases List.mem_append.1 hv with h1 | h1
    · exact h.range v h1
    · obtain ⟨h2, h3, _⟩ := (kids_mem par _ v).1 h1
      omega
  · intro v h1 h2
    rw [htk, List.mem_append, List.mem_append, h.has v h1 h2, kids_mem, List.mem_singleton]
    constructor
    · rintro (h3 | ⟨_, _, h3⟩)
      · exact .inl h3
      · exact .inr h3
    · rintro (h3 | h3)
      · exact .inl h3
      · exact .inr ⟨h1, h2, h3⟩
theorem InB.all {par ord : List Int} (h : InB par ord ord.length) : ∀ (m : Nat) (v : Int), 0 ≤ v → v ≤ par.length → climb par m v = true → (∀ x ∈ par, 0 ≤ x ∧ x ≤ par.length) → v ∈ ord
  | 0, v, h0, h1, hc, _ => by
    simp only [climb, decide_eq_true_eq] at hc
    rw [show v = 0 by omega]
    exact h.zero
  | m + 1, v, h0, h1, hc, hp => by
    by_cases c : v > 0
    · rw [climb, if_pos c] at hc
      have hr := hp _ (rd_mem par (v - 1) (by omega) (by omega))
      have ih := InB.all h m (rd par (v - 1)) hr.1 hr.2 hc hp
      refine (h.has v (by omega) h1).2 ?_
      rw [List.take_length]
      exact ih
    · rw [show v = 0 by omega]
      exact h.zero
/-- Breadth order. -/
def bfs (par : List Int) : Nat → List Int → Nat → List Int
  | 0, ord, _ => ord
  | d + 1, ord, k => if k < ord.length then bfs par d (ord ++ kids par (rd ord k)) (k + 1) else ord
theorem bfs_in (par : List Int) : ∀ (d : Nat) (ord : List Int) (k : Nat), InB par ord k → par.length + 1 ≤ k + d → InB par (bfs par d ord k) (bfs par d ord k).length
  | 0, ord, k, h, hd => by
    have := h.length
    have := h.le
    rw [bfs]
    have e : k = ord.length := by omega
    rw [e] at h
    exact h
  | d + 1, ord, k, h, hd => by
    rw [bfs]
    by_cases c : k < ord.length
    · rw [if_pos c]
      exact bfs_in par d _ _ (h.step c) (by omega)
    · rw [if_neg c]
      have := h.le
      have e : k = ord.length := by omega
      rw [e] at h
      exact h
/-- The whole breadth order of a tree. -/
def breadthS (par : List Int) : List Int := bfs par (par.length + 1) [0] 0
theorem breadth_all (par : List Int) (ht : isTr par = true) (v : Int) (h0 : 0 ≤ v) (h1 : v ≤ par.length) : v ∈ breadthS par := by
  obtain ⟨_, h2, h3⟩ := (isTr_iff par).1 ht
  have h := bfs_in par (par.length + 1) [0] 0 (InB.first par) (by omega)
  by_cases c : v = 0
  · rw [c]; exact h.zero
  · exact h.all par.length v h0 h1 (h3 v (by omega) h1) h2
theorem breadth_length (par : List Int) : (breadthS par).length ≤ par.length + 1 :=
  (bfs_in par (par.length + 1) [0] 0 (InB.first par) (by omega)).length

/-- A number put into an increasing list, unless it is there. -/
def putS (n : Int) : List Int → List Int
  | [] => [n]
  | h :: t => if h < n then h :: putS n t else if h = n then h :: t else n :: h :: t
theorem putS_mem (n x : Int) : ∀ l : List Int, x ∈ putS n l ↔ x = n ∨ x ∈ l
  | [] => by simp [putS]
  | h :: t => by
    rw [putS]
    split
    · rw [List.mem_cons, putS_mem n x t, List.mem_cons]
      constructor
      · rintro (h1 | h1 | h1)
        · exact .inr (.inl h1)
        · exact .inl h1
        · exact .inr (.inr h1)
      · rintro (h1 | h1 | h1)
        · exact .inr (.inl h1)
        · exact .inl h1
        · exact .inr (.inr h1)
    · split
      · rename_i e
        rw [List.mem_cons, e]
        constructor
        · exact fun h1 => .inr h1
        · rintro (h1 | h1)
          · exact .inl h1
          · exact h1
      · simp [List.mem_cons]
theorem putS_length_le (n : Int) : ∀ l : List Int, (putS n l).length ≤ l.length + 1
  | [] => by simp [putS]
  | h :: t => by
    rw [putS]
    have := putS_length_le n t
    split
    · simp; omega
    · split <;> simp
theorem putS_length (n : Int) : ∀ l : List Int, n ∉ l → (putS n l).length = l.length + 1
  | [], _ => by simp [putS]
  | h :: t, hn => by
    rw [putS]
    split
    · have := putS_length n t (fun h1 => hn (by simp [h1]))
      simp [this]
    · rw [if_neg (fun e => hn (by simp [e]))]
      simp
theorem putS_rising (n : Int) : ∀ l : List Int, l.Pairwise (· < ·) → (putS n l).Pairwise (· < ·)
  | [], _ => by simp [putS]
  | h :: t, hp => by
    rw [List.pairwise_cons] at hp
    rw [putS]
    split
    · rename_i c
      rw [List.pairwise_cons]
      refine ⟨fun x hx => ?_, putS_rising n t hp.2⟩
      rcases (putS_mem n x t).1 hx with rfl | h1
      · exact c
      · exact hp.1 x h1
    · split
      · exact List.pairwise_cons.2 hp
      · rw [List.pairwise_cons]
        refine ⟨fun x hx => ?_, List.pairwise_cons.2 hp⟩
        rcases List.mem_cons.1 hx with rfl | h1
        · omega
        · have := hp.1 x h1; omega
/-- The nodes i + 1, i + 2, .. whose parent is the node, put into a list. -/
def nearFrom (node : Int) (out : List Int) : Int → List Int → List Int
  | _, [] => out
  | i, p :: t => nearFrom node (if p = node then putS (i + 1) out else out) (i + 1) t
theorem nearFrom_length_le (node : Int) : ∀ (t : List Int) (out : List Int) (i : Int), (nearFrom node out i t).length ≤ out.length + t.length
  | [], out, i => by simp [nearFrom]
  | p :: t, out, i => by
    rw [nearFrom]
    have h1 := nearFrom_length_le node t (if p = node then putS (i + 1) out else out) (i + 1)
    have h2 := putS_length_le (i + 1) out
    by_cases c : p = node
    · rw [if_pos c] at h1 ⊢; simp; omega
    · rw [if_neg c] at h1 ⊢; simp; omega
theorem nearFrom_length (node : Int) : ∀ (t : List Int) (out : List Int) (i : Int), (∀ j : Nat, t[j]? = some node → i + j + 1 ∉ out) →
    ((nearFrom node out i t).length : Int) = out.length + cnt (fun p => decide (p = node)) t
  | [], out, i, _ => by simp [nearFrom, cnt]
  | p :: t, out, i, h => by
    rw [nearFrom, cnt]
    by_cases c : p = node
    · have h0 : i + 1 ∉ out := by simpa using h 0 (by simp [c])
      rw [if_pos c, if_pos (by simp [c])]
      rw [nearFrom_length node t (putS (i + 1) out) (i + 1) (fun j hj => ?_), putS_length _ _ h0]
      · omega
      · rw [putS_mem]
        have h2 := h (j + 1) (by simpa using hj)
        rintro (h3 | h3)
        · omega
        · exact h2 (by rw [show i + ((j + 1 : Nat) : Int) + 1 = i + 1 + j + 1 by omega]; exact h3)
    · rw [if_neg c, if_neg (by simp [c])]
      rw [nearFrom_length node t out (i + 1) (fun j hj => ?_)]
      · omega
      · have h2 := h (j + 1) (by simpa using hj)
        rw [show i + ((j + 1 : Nat) : Int) + 1 = i + 1 + j + 1 by omega] at h2
        exact h2
theorem nearFrom_mem (node x : Int) : ∀ (t : List Int) (out : List Int) (i : Int), x ∈ nearFrom node out i t ↔ x ∈ out ∨ ∃ j : Nat, t[j]? = some node ∧ x = i + j + 1
  | [], out, i => by simp [nearFrom]
  | p :: t, out, i => by
    rw [nearFrom, nearFrom_mem node x t]
    constructor
    · rintro (h | ⟨j, hj, e⟩)
      · split at h
        · rename_i c
          rcases (putS_mem _ _ _).1 h with rfl | h1
          · exact .inr ⟨0, by simp [c], by simp⟩
          · exact .inl h1
        · exact .inl h
      · exact .inr ⟨j + 1, by simpa using hj, by omega⟩
    · rintro (h | ⟨j, hj, e⟩)
      · left
        split
        · exact (putS_mem _ _ _).2 (.inr h)
        · exact h
      · cases j with
        | zero =>
          left
          have c : p = node := by simpa using hj
          rw [if_pos c]
          exact (putS_mem _ _ _).2 (.inl (by omega))
        | succ j => exact .inr ⟨j, by simpa using hj, by omega⟩
theorem nearFrom_rising (node : Int) : ∀ (t : List Int) (out : List Int) (i : Int), out.Pairwise (· < ·) → (nearFrom node out i t).Pairwise (· < ·)
  | [], out, i, h => h
  | p :: t, out, i, h => by
    rw [nearFrom]
    refine nearFrom_rising node t _ (i + 1) ?_
    split
    · exact putS_rising _ _ h
    · exact h
/-- The neighbours of a node or the root. -/
def near (par : List Int) (node : Int) : List Int := nearFrom node (if node > 0 then [rd par (node - 1)] else []) 0 par

/-- In a tree a parent is no child. -/
theorem no_turn (par : List Int) (ht : isTr par = true) (node : Int) (h0 : 1 ≤ node) (h1 : node ≤ par.length) (j : Nat) (hj : par[j]? = some node) : rd par (node - 1) ≠ (j : Int) + 1 := by
  intro e
  have hjl : j < par.length := (List.getElem?_eq_some_iff.1 hj).1
  have d1 := dep_step par ht node h0 h1
  have d2 := dep_step par ht ((j : Int) + 1) (by omega) (by omega)
  have e2 : rd par ((j : Int) + 1 - 1) = node := by
    rw [show (j : Int) + 1 - 1 = (j : Int) by omega, rd_nat, List.getD_eq_getElem?_getD, hj]
    rfl
  rw [e] at d1
  rw [e2] at d2
  omega
theorem near_len (par : List Int) (ht : isTr par = true) (node : Int) (h0 : 0 ≤ node) (h1 : node ≤ par.length) :
    ((near par node).length : Int) = (if node > 0 then 1 else 0) + cnt (fun p => decide (p = node)) par := by
  unfold near
  by_cases c : node > 0
  · rw [if_pos c, if_pos c, nearFrom_length]
    · simp
    · intro j hj
      have := no_turn par ht node (by omega) h1 j hj
      simp
      omega
  · rw [if_neg c, if_neg c, nearFrom_length]
    · simp
    · simp
theorem cnt_zero (node : Int) : ∀ l : List Int, cnt (fun p => decide (p = node)) l = 0 ↔ node ∉ l
  | [] => by simp [cnt]
  | h :: t => by
    have ih := cnt_zero node t
    have := cnt_range (fun p => decide (p = node)) t
    rw [cnt]
    by_cases c : h = node
    · rw [if_pos (by simp [c])]
      constructor
      · intro e; omega
      · intro e; exact absurd (by simp [c]) e
    · rw [if_neg (by simp [c]), Int.zero_add, ih]
      simp [Ne.symm c]

/-- A node that stays and whose children are gone. -/
def leafB (par gone : List Int) (v : Int) : Bool := decide (v ∉ gone) && (kids par v).all fun c => decide (c ∈ gone)
theorem leafB_iff (par gone : List Int) (v : Int) : leafB par gone v = true ↔ v ∉ gone ∧ ∀ c, c ∈ kids par v → c ∈ gone := by
  simp only [leafB, Bool.and_eq_true, decide_eq_true_eq, List.all_eq_true]
/-- The largest leaf up to a node. -/
def pickD (par gone : List Int) : Nat → Int
  | 0 => 0
  | d + 1 => if leafB par gone ((d : Int) + 1) = true then (d : Int) + 1 else pickD par gone d
theorem pickD_spec (par gone : List Int) (u : Int) (hu : leafB par gone u = true) (h1 : 1 ≤ u) : ∀ d : Nat, u ≤ d → leafB par gone (pickD par gone d) = true ∧ 1 ≤ pickD par gone d ∧ pickD par gone d ≤ d
  | 0, h => by omega
  | d + 1, h => by
    rw [pickD]
    by_cases c : leafB par gone ((d : Int) + 1) = true
    · rw [if_pos c]
      exact ⟨c, by omega, by omega⟩
    · rw [if_neg c]
      have hd : u ≤ d := by
        refine Classical.byContradiction fun h2 => ?_
        have : u = (d : Int) + 1 := by omega
        rw [this] at hu
        exact absurd hu c
      obtain ⟨h3, h4, h5⟩ := pickD_spec par gone u hu h1 d hd
      exact ⟨h3, h4, by omega⟩
/-- What is gone is nodes, each once, with all their children. -/
structure Gone (par gone : List Int) : Prop where
  nd : gone.Nodup
  range : ∀ v ∈ gone, 1 ≤ v ∧ v ≤ par.length
  closed : ∀ v ∈ gone, ∀ c, c ∈ kids par v → c ∈ gone
theorem Gone.none (par : List Int) : Gone par [] := ⟨by simp, by simp, by simp⟩
theorem Gone.add {par gone : List Int} (h : Gone par gone) {v : Int} (hv : leafB par gone v = true) (h0 : 1 ≤ v) (h1 : v ≤ par.length) : Gone par (gone ++ [v]) := by
  obtain ⟨h2, h3⟩ := (leafB_iff par gone v).1 hv
  refine ⟨?_, ?_, ?_⟩
  · refine List.nodup_append.2 ⟨h.nd, by simp, ?_⟩
    intro a ha b hb e
    rw [List.mem_singleton] at hb
    exact h2 (by rw [← hb, ← e]; exact ha)
  · intro u hu
    rcases List.mem_append.1 hu with h4 | h4
    · exact h.range u h4
    · rw [List.mem_singleton] at h4
      omega
  · intro u hu c hc
    rcases List.mem_append.1 hu with h4 | h4
    · exact List.mem_append_left _ (h.closed u h4 c hc)
    · rw [List.mem_singleton] at h4
      exact List.mem_append_left _ (h3 c (by rw [← h4]; exact hc))
theorem all_in : ∀ (n : Nat) (g : List Int), (∀ v : Int, 1 ≤ v → v ≤ n → v ∈ g) → n ≤ g.length
  | 0, g, _ => Nat.zero_le _
  | n + 1, g, h => by
    have hm : ((n + 1 : Nat) : Int) ∈ g := h _ (by omega) (by omega)
    have ih := all_in n (g.erase ((n + 1 : Nat) : Int)) fun v h1 h2 => (List.mem_erase_of_ne (by omega)).2 (h v h1 (by omega))
    rw [List.length_erase_of_mem hm] at ih
    have := List.length_pos_of_mem hm
    omega
theorem hgt_le (par : List Int) : ∀ (m : Nat) (a : Int), hgt par m a ≤ m
  | 0, a => Nat.le_refl _
  | m + 1, a => by
    have := hgt_le par m (rd par (a - 1))
    rw [hgt]
    split <;> omega
theorem leaf_from (par gone : List Int) (ht : isTr par = true) : ∀ (m : Nat) (v : Int), 1 ≤ v → v ≤ par.length → v ∉ gone → par.length + 1 ≤ m + dep par v → ∃ u, leafB par gone u = true ∧ 1 ≤ u ∧ u ≤ par.length
  | 0, v, _, _, _, h => by
    have : dep par v ≤ par.length := hgt_le par par.length v
    omega
  | m + 1, v, h0, h1, hg, h => by
    by_cases c : leafB par gone v = true
    · exact ⟨v, c, h0, h1⟩
    · have : ∃ w, w ∈ kids par v ∧ w ∉ gone := by
        refine Classical.byContradiction fun hn => c ((leafB_iff par gone v).2 ⟨hg, fun w hw => ?_⟩)
        exact Classical.byContradiction fun h2 => hn ⟨w, hw, h2⟩
      obtain ⟨w, hw, hwg⟩ := this
      obtain ⟨h2, h3, h4⟩ := (kids_mem par v w).1 hw
      have hd := dep_step par ht w h2 h3
      rw [h4] at hd
      exact leaf_from par gone ht m w h2 h3 hwg (by omega)
theorem leaf_there (par gone : List Int) (ht : isTr par = true) (h : gone.length < par.length) : ∃ u, leafB par gone u = true ∧ 1 ≤ u ∧ u ≤ par.length := by
  have : ∃ v : Int, 1 ≤ v ∧ v ≤ par.length ∧ v ∉ gone := by
    refine Classical.byContradiction fun hn => ?_
    have := all_in par.length gone fun v h0 h1 => Classical.byContradiction fun h2 => hn ⟨v, h0, h1, h2⟩
    omega
  obtain ⟨v, h0, h1, h2⟩ := this
  exact leaf_from par gone ht (par.length + 1) v h0 h1 h2 (by omega)
/-- The word of a tree, so many steps on. -/
def prufS (par : List Int) : Nat → List Int → List Int → List Int
  | 0, _, word => word
  | s + 1, gone, word => prufS par s (gone ++ [pickD par gone par.length]) (word ++ [rd par (pickD par gone par.length - 1)])
theorem prufS_length (par : List Int) : ∀ (s : Nat) (gone word : List Int), (prufS par s gone word).length = word.length + s
  | 0, _, _ => rfl
  | s + 1, gone, word => by
    rw [prufS, prufS_length par s]
    simp
    omega

theorem near_mem (par : List Int) (v x : Int) (h0 : 1 ≤ v) : x ∈ near par v ↔ x = rd par (v - 1) ∨ x ∈ kids par v := by
  rw [near, if_pos (by omega), nearFrom_mem, List.mem_singleton, kids_mem]
  constructor
  · rintro (h | ⟨j, hj, e⟩)
    · exact .inl h
    · have := (List.getElem?_eq_some_iff.1 hj).1
      refine .inr ⟨by omega, by omega, ?_⟩
      unfold rd
      rw [show (x - 1).toNat = j by omega, List.getD_eq_getElem?_getD, hj]
      rfl
  · rintro (h | ⟨h1, h2, h3⟩)
    · exact .inl h
    · refine .inr ⟨(x - 1).toNat, ?_, by omega⟩
      unfold rd at h3
      rw [List.getD_eq_getElem?_getD, List.getElem?_eq_getElem (by omega)] at h3
      rw [List.getElem?_eq_getElem (by omega)]
      exact congrArg some h3
theorem near_rising (par : List Int) (v : Int) (h0 : 1 ≤ v) : (near par v).Pairwise (· < ·) := by
  rw [near, if_pos (by omega)]
  exact nearFrom_rising v par _ 0 (by simp)
/-- The neighbours that are left. -/
def leftOf (par gone : List Int) (v : Int) : List Int := (near par v).filter fun x => !decide (x ∈ gone)
theorem parent_stays {par gone : List Int} (h : Gone par gone) (v : Int) (h0 : 1 ≤ v) (h1 : v ≤ par.length) (hv : v ∉ gone) : rd par (v - 1) ∉ gone := by
  intro hm
  exact hv (h.closed _ hm v ((kids_mem par _ v).2 ⟨h0, h1, rfl⟩))
theorem leftOf_leaf {par gone : List Int} (h : Gone par gone) (v : Int) (h0 : 1 ≤ v) (h1 : v ≤ par.length) (hv : leafB par gone v = true) : leftOf par gone v = [rd par (v - 1)] := by
  obtain ⟨h2, h3⟩ := (leafB_iff par gone v).1 hv
  have hp := parent_stays h v h0 h1 h2
  have hmem : ∀ x, x ∈ leftOf par gone v ↔ x = rd par (v - 1) := fun x => by
    rw [leftOf, List.mem_filter, near_mem par v x h0]
    constructor
    · rintro ⟨h4 | h4, h5⟩
      · exact h4
      · have := h3 x h4
        simp [this] at h5
    · rintro rfl
      exact ⟨.inl rfl, by simpa using hp⟩
  have hr : (leftOf par gone v).Pairwise (· < ·) := (near_rising par v h0).filter _
  cases e : leftOf par gone v with
  | nil => have := (hmem (rd par (v - 1))).2 rfl; rw [e] at this; simp at this
  | cons a t =>
    rw [e] at hmem hr
    have ha : a = rd par (v - 1) := (hmem a).1 (by simp)
    cases t with
    | nil => rw [ha]
    | cons b t =>
      have hb : b = rd par (v - 1) := (hmem b).1 (by simp)
      have := (List.pairwise_cons.1 hr).1 b (by simp)
      omega
theorem leftOf_other {par gone : List Int} (ht : isTr par = true) (h : Gone par gone) (v : Int) (h0 : 1 ≤ v) (h1 : v ≤ par.length) (hv : leafB par gone v = false) (hg : v ∉ gone) : (leftOf par gone v).length ≠ 1 := by
  have hp := parent_stays h v h0 h1 hg
  have : ∃ w, w ∈ kids par v ∧ w ∉ gone := by
    refine Classical.byContradiction fun hn => ?_
    have : leafB par gone v = true := (leafB_iff par gone v).2 ⟨hg, fun w hw => Classical.byContradiction fun h2 => hn ⟨w, hw, h2⟩⟩
    rw [hv] at this
    cases this
  obtain ⟨w, hw, hwg⟩ := this
  have m1 : rd par (v - 1) ∈ leftOf par gone v := List.mem_filter.2 ⟨(near_mem par v _ h0).2 (.inl rfl), by simpa using hp⟩
  have m2 : w ∈ leftOf par gone v := List.mem_filter.2 ⟨(near_mem par v _ h0).2 (.inr hw), by simpa using hwg⟩
  obtain ⟨k1, k2, k3⟩ := (kids_mem par v w).1 hw
  have d1 := dep_step par ht v h0 h1
  have d2 := dep_step par ht w k1 k2
  rw [k3] at d2
  intro hl
  match e : leftOf par gone v, hl with
  | [a], _ =>
    rw [e, List.mem_singleton] at m1 m2
    rw [m1, ← m2] at d1
    omega

theorem spec_l1Put_l0 (n : Int) : ∀ (t p : List Int), p.length + t.length ≤ 1000 →
    Ev (fun k => spec_l1Put.l0 k (p ++ t) n (p.length : Int)) (p ++ putS n t)
  | [], p, hn => by
    have hn' : p.length ≤ 1000 := by simpa using hn
    refine Ev.ret fun k => ?_
    rw [spec_l1Put.l0, if_neg (by simp)]
    simp only [Option.bind_some]
    rw [if_pos (by omega), if_pos (by simp), if_pos (by simp; omega), if_pos (by simp; omega), if_pos (by simp; omega)]
    simp [putS]
  | h :: t, p, hn => by
    have hn' : p.length + t.length + 1 ≤ 1000 := by simpa [Nat.add_assoc] using hn
    have hm := len_mid p h t
    by_cases c : h < n
    · have ih := spec_l1Put_l0 n t (p ++ [h]) (by simp; omega)
      rw [app_snoc, len_snoc] at ih
      have e : p ++ putS n (h :: t) = p ++ [h] ++ putS n t := by rw [putS, if_pos c]; simp
      rw [e]
      refine Ev.step (fun k => ?_) ih
      show spec_l1Put.l0 (k + 1) (p ++ h :: t) n (p.length : Int) = _
      rw [spec_l1Put.l0, if_pos (by omega), if_pos (by omega), rd_mid, if_pos c, w64 (by omega) (by omega)]
    · refine Ev.ret fun k => ?_
      rw [spec_l1Put.l0, if_pos (by omega), if_pos (by omega), rd_mid, if_neg c, putS, if_neg c]
      by_cases d : h = n
      · rw [if_pos d, if_pos d]
      · rw [if_neg d, if_neg d]
        simp only [Option.bind_some]
        rw [if_pos (by omega), if_pos (by simp; omega), if_pos (by simp; omega), if_pos (by simp; omega)]
        simp
theorem ev_spec_l1Put (l : List Int) (n : Int) (hl : l.length ≤ 1000) : Ev (fun k => spec_l1Put.f k l n) (putS n l) :=
  spec_l1Put_l0 n l [] (by simpa using hl)
theorem spec_trNear_l0 (node : Int) : ∀ (t p out : List Int), p.length + t.length ≤ 400 → out.length + t.length ≤ 900 →
    Ev (fun k => spec_trNear.l0 k node out (p ++ t) ((p ++ t).length : Int) (p.length : Int)) (nearFrom node out p.length t)
  | [], p, out, _, _ => by
    refine Ev.ret fun k => ?_
    rw [spec_trNear.l0, if_neg (by simp)]
    rfl
  | h :: t, p, out, hn, ho => by
    have hn' : p.length + t.length + 1 ≤ 400 := by simpa [Nat.add_assoc] using hn
    have ho' : out.length + t.length + 1 ≤ 900 := by simpa [Nat.add_assoc] using ho
    have hm := len_mid p h t
    by_cases c : h = node
    · have hl := putS_length_le ((p.length : Int) + 1) out
      have ih := spec_trNear_l0 node t (p ++ [h]) (putS ((p.length : Int) + 1) out) (by simp; omega) (by omega)
      rw [app_snoc, len_snoc] at ih
      rw [nearFrom, if_pos c]
      refine Ev.step (f := fun k => (spec_l1Put.f k out ((p.length : Int) + 1)).bind fun z => spec_trNear.l0 k node z (p ++ h :: t) ((p ++ h :: t).length : Int) ((p.length : Int) + 1)) (fun k => ?_) (Ev.bind (ev_spec_l1Put out _ (by omega)) ih)
      rw [spec_trNear.l0, if_pos (by omega), if_pos (by omega), if_pos (by omega), rd_mid, if_pos c, w64 (by omega) (by omega)]
    · have ih := spec_trNear_l0 node t (p ++ [h]) out (by simp; omega) (by omega)
      rw [app_snoc, len_snoc] at ih
      rw [nearFrom, if_neg c]
      refine Ev.step (fun k => ?_) ih
      show spec_trNear.l0 (k + 1) node out (p ++ h :: t) ((p ++ h :: t).length : Int) (p.length : Int) = _
      rw [spec_trNear.l0, if_pos (by omega), if_pos (by omega), if_pos (by omega), rd_mid, if_neg c, w64 (by omega) (by omega)]
theorem ev_spec_trNear (par : List Int) (node : Int) (hl : par.length ≤ 400) (h0 : 0 ≤ node) (h1 : node ≤ par.length) : Ev (fun k => spec_trNear.f k par node) (near par node) := by
  by_cases c : node > 0
  · refine Ev.congr (fun k => by rw [spec_trNear.f, if_pos c, w64 (by omega) (by omega), if_pos (by omega), if_pos (by omega), if_pos (by simp)]) ?_
    refine Ev.step (fun k => by rw [spec_trNear.j0]) ?_
    have := spec_trNear_l0 node par [] [rd par (node - 1)] (by simpa using hl) (by simp; omega)
    rw [near, if_pos c]
    exact this
  · refine Ev.congr (fun k => by rw [spec_trNear.f, if_neg c]) ?_
    refine Ev.step (fun k => by rw [spec_trNear.j0]) ?_
    have := spec_trNear_l0 node par [] [] (by simpa using hl) (by simp; omega)
    rw [near, if_neg c]
    exact this

theorem spec_l1Has_l0 (x : Int) : ∀ (t p : List Int), p.length + t.length ≤ 35184372088832 →
    Ev (fun k => spec_l1Has.l0 k x (p ++ t) ((p ++ t).length : Int) (p.length : Int)) (decide (x ∈ t))
  | [], p, _ => by
    refine Ev.ret fun k => ?_
    rw [spec_l1Has.l0, if_neg (by simp)]
    simp
  | h :: t, p, hn => by
    have hn' : p.length + t.length + 1 ≤ 35184372088832 := by simpa [Nat.add_assoc] using hn
    have hm := len_mid p h t
    by_cases c : h = x
    · rw [decide_eq_true (by simp [c] : x ∈ h :: t)]
      refine Ev.ret fun k => ?_
      rw [spec_l1Has.l0, if_pos (by omega), if_pos (by omega), if_pos (by omega), rd_mid, if_pos c]
    · have ih := spec_l1Has_l0 x t (p ++ [h]) (by simp; omega)
      rw [app_snoc, len_snoc] at ih
      have e : decide (x ∈ h :: t) = decide (x ∈ t) := decide_eq_decide.2 (by simp [Ne.symm c])
      rw [e]
      refine Ev.step (fun k => ?_) ih
      show spec_l1Has.l0 (k + 1) x (p ++ h :: t) ((p ++ h :: t).length : Int) (p.length : Int) = _
      rw [spec_l1Has.l0, if_pos (by omega), if_pos (by omega), if_pos (by omega), rd_mid, if_neg c, w64 (by omega) (by omega)]
theorem ev_spec_l1Has (l : List Int) (x : Int) (hl : l.length ≤ 35184372088832) : Ev (fun k => spec_l1Has.f k l x) (decide (x ∈ l)) :=
  spec_l1Has_l0 x l [] (by simpa using hl)

theorem spec_trLeft_l0 (gone : List Int) (hg : gone.length ≤ 1000) : ∀ (t p out : List Int), p.length + t.length ≤ 1000 → out.length ≤ p.length →
    Ev (fun k => spec_trLeft.l0 k gone out (p ++ t) ((p ++ t).length : Int) (p.length : Int)) (out ++ t.filter fun x => !decide (x ∈ gone))
  | [], p, out, _, _ => by
    refine Ev.ret fun k => ?_
    rw [spec_trLeft.l0, if_neg (by simp)]
    simp
  | h :: t, p, out, hn, ho => by
    have hn' : p.length + t.length + 1 ≤ 1000 := by simpa [Nat.add_assoc] using hn
    have hm := len_mid p h t
    refine Ev.step (f := fun k => (spec_l1Has.f k gone h).bind fun z => if z = true then spec_trLeft.l0 k gone out (p ++ h :: t) ((p ++ h :: t).length : Int) ((p.length : Int) + 1) else if out.length < 17592186044416 then spec_trLeft.l0 k gone (out ++ [h]) (p ++ h :: t) ((p ++ h :: t).length : Int) ((p.length : Int) + 1) else none) (fun k => ?_) (Ev.bind (ev_spec_l1Has gone h (by omega)) ?_)
    · rw [spec_trLeft.l0, if_pos (by omega), if_pos (by omega), if_pos (by omega), rd_mid, w64 (by omega) (by omega)]
    · by_cases c : h ∈ gone
      · have ih := spec_trLeft_l0 gone hg t (p ++ [h]) out (by simp; omega) (by simp; omega)
        rw [app_snoc p h t, len_snoc p h] at ih
        rw [List.filter_cons_of_neg (by simpa using c)]
        exact Ev.congr (fun k => by rw [if_pos (by simpa using c)]) ih
      · have ih := spec_trLeft_l0 gone hg t (p ++ [h]) (out ++ [h]) (by simp; omega) (by simp; omega)
        rw [app_snoc p h t, len_snoc p h] at ih
        rw [List.filter_cons_of_pos (by simpa using c)]
        have e : out ++ h :: t.filter (fun x => !decide (x ∈ gone)) = out ++ [h] ++ t.filter (fun x => !decide (x ∈ gone)) := by simp
        rw [e]
        exact Ev.congr (fun k => by rw [if_neg (by simpa using c), if_pos (by omega)]) ih
theorem near_length_le (par : List Int) (v : Int) : (near par v).length ≤ par.length + 1 := by
  have := nearFrom_length_le v par (if v > 0 then [rd par (v - 1)] else []) 0
  rw [near]
  split at this <;> rename_i c
  · rw [if_pos c]; simp at this; omega
  · rw [if_neg c]; simp at this; omega
theorem spec_trPrufer_l1 (par gone word : List Int) (ht : isTr par = true) (h : Gone par gone) (hgl : gone.length ≤ 100) (hwl : word.length ≤ 100) (u : Int) (hu : leafB par gone u = true) (h1 : 1 ≤ u) (r : List Int) : ∀ d : Nat, u ≤ d → d ≤ par.length →
    Ev (fun k => spec_trPrufer.l0 k par (word ++ [rd par (pickD par gone d - 1)]) (gone ++ [pickD par gone d])) r →
    Ev (fun k => spec_trPrufer.l1 k par word gone (d : Int)) r
  | 0, hd, _, _ => by omega
  | d + 1, hd, hdn, H => by
    obtain ⟨h8, _, _⟩ := (isTr_iff par).1 ht
    have ed : ((d + 1 : Nat) : Int) = (d : Int) + 1 := by omega
    have hnl := near_length_le par ((d : Int) + 1)
    rw [ed]
    refine Ev.step (f := fun k => (spec_trNear.f k par ((d : Int) + 1)).bind fun t170 => (spec_trLeft.f k t170 gone).bind fun t173 => (spec_l1Has.f k gone ((d : Int) + 1)).bind fun t176 => if t176 = true then spec_trPrufer.l1 k par word gone (wrap64 ((d : Int) + 1 - 1)) else if (t173.length : Int) = 1 then (if 0 < (t173.length : Int) then (if word.length < 17592186044416 then (if gone.length < 17592186044416 then spec_trPrufer.l0 k par (word ++ [rd t173 0]) (gone ++ [(d : Int) + 1]) else none) else none) else none) else spec_trPrufer.l1 k par word gone (wrap64 ((d : Int) + 1 - 1))) (fun k => ?_) ?_
    · rw [spec_trPrufer.l1, if_pos (by omega)]
    refine Ev.bind (ev_spec_trNear par ((d : Int) + 1) (by omega) (by omega) (by omega)) ?_
    refine Ev.bind (spec_trLeft_l0 gone (by omega) (near par ((d : Int) + 1)) [] [] (by simp; omega) (by simp)) ?_
    refine Ev.bind (ev_spec_l1Has gone ((d : Int) + 1) (by omega)) ?_
    rw [w64 (by omega) (by omega), show (d : Int) + 1 - 1 = (d : Int) by omega, List.nil_append]
    cases c : leafB par gone ((d : Int) + 1) with
    | true =>
      rw [pickD, if_pos c] at H
      have h2 := ((leafB_iff par gone _).1 c).1
      have h3 := leftOf_leaf h ((d : Int) + 1) (by omega) (by omega) c
      unfold leftOf at h3
      rw [h3]
      refine Ev.congr (fun k => ?_) H
      show (if decide (((d : Int) + 1) ∈ gone) = true then _ else _) = _
      rw [if_neg (by simpa using h2), if_pos (by simp), if_pos (by simp), if_pos (by omega), if_pos (by omega)]
      rfl
    | false =>
      rw [pickD, if_neg (by simp [c])] at H
      have hud : u ≤ d := by
        refine Classical.byContradiction fun h2 => ?_
        have : u = (d : Int) + 1 := by omega
        rw [this, c] at hu
        cases hu
      have ih := spec_trPrufer_l1 par gone word ht h hgl hwl u hu h1 r d hud (by omega) H
      by_cases g : ((d : Int) + 1) ∈ gone
      · exact Ev.congr (fun k => by rw [if_pos (by simpa using g)]) ih
      · have h3 := leftOf_other ht h ((d : Int) + 1) (by omega) (by omega) c g
        unfold leftOf at h3
        exact Ev.congr (fun k => by rw [if_neg (by simpa using g), if_neg (by omega)]) ih
theorem spec_trPrufer_l0 (par : List Int) (ht : isTr par = true) (hne : 1 ≤ par.length) : ∀ (s : Nat) (gone word : List Int), Gone par gone → gone.length = word.length → word.length + s = par.length - 1 →
    Ev (fun k => spec_trPrufer.l0 k par word gone) (prufS par s gone word)
  | 0, gone, word, h, hl, hs => by
    obtain ⟨h8, _, _⟩ := (isTr_iff par).1 ht
    refine Ev.ret fun k => ?_
    rw [spec_trPrufer.l0, w64 (by omega) (by omega), if_neg (by omega), prufS]
  | s + 1, gone, word, h, hl, hs => by
    obtain ⟨h8, _, _⟩ := (isTr_iff par).1 ht
    obtain ⟨u, hu, h1, h2⟩ := leaf_there par gone ht (by omega)
    obtain ⟨p1, p2, p3⟩ := pickD_spec par gone u hu h1 par.length h2
    have ih := spec_trPrufer_l0 par ht hne s (gone ++ [pickD par gone par.length]) (word ++ [rd par (pickD par gone par.length - 1)]) (h.add p1 p2 p3) (by simp [hl]) (by simp; omega)
    rw [prufS]
    refine Ev.step (f := fun k => spec_trPrufer.l1 k par word gone (par.length : Int)) (fun k => ?_) ?_
    · rw [spec_trPrufer.l0, w64 (by omega) (by omega), if_pos (by omega)]
    · exact spec_trPrufer_l1 par gone word ht h (by omega) (by omega) u hu h1 _ par.length h2 (Nat.le_refl _) ih
theorem ev_spec_trPrufer (par : List Int) (ht : isTr par = true) (hne : 1 ≤ par.length) : Ev (fun k => spec_trPrufer.f k par) (prufS par (par.length - 1) [] []) :=
  spec_trPrufer_l0 par ht hne (par.length - 1) [] [] (Gone.none par) rfl (by simp)

/-- Where a number first stands; -1 if it doesn't. -/
def idxOf (x : Int) : List Int → Int → Int
  | [], _ => -1
  | h :: t, i => if x = h then i else idxOf x t (i + 1)
theorem idxOf_spec (x : Int) : ∀ (l : List Int) (i : Int), 0 ≤ i → (x ∈ l → i ≤ idxOf x l i ∧ idxOf x l i < i + l.length ∧ rd l (idxOf x l i - i) = x) ∧ (x ∉ l → idxOf x l i = -1)
  | [], i, _ => by simp [idxOf]
  | h :: t, i, hi => by
    have ih := idxOf_spec x t (i + 1) (by omega)
    have e : ((h :: t).length : Int) = (t.length : Int) + 1 := by simp
    by_cases c : x = h
    · refine ⟨fun _ => ?_, fun hn => absurd (by simp [c]) hn⟩
      rw [idxOf, if_pos c, e]
      refine ⟨by omega, by omega, ?_⟩
      rw [Int.sub_self, c]
      rfl
    · rw [idxOf, if_neg c, e]
      refine ⟨fun hm => ?_, fun hn => ih.2 (fun hm => hn (by simp [hm]))⟩
      obtain ⟨h1, h2, h3⟩ := ih.1 (by simpa [c] using hm)
      refine ⟨by omega, by omega, ?_⟩
      have h4 : rd (h :: t) (idxOf x t (i + 1) - i) = rd t (idxOf x t (i + 1) - (i + 1)) := by
        unfold rd
        rw [show (idxOf x t (i + 1) - i).toNat = (idxOf x t (i + 1) - (i + 1)).toNat + 1 by omega, List.getD_cons_succ]
      rw [h4, h3]
theorem slices_Index_l0 (x : Int) : ∀ (t p : List Int), p.length + t.length ≤ 35184372088832 →
    Ev (fun k => slices_Index_int_int.l0 k (p ++ t) x ((p ++ t).length : Int) (p.length : Int)) (idxOf x t p.length)
  | [], p, _ => by
    refine Ev.ret fun k => ?_
    rw [slices_Index_int_int.l0, if_neg (by simp)]
    rfl
  | h :: t, p, hn => by
    have hn' : p.length + t.length + 1 ≤ 35184372088832 := by simpa [Nat.add_assoc] using hn
    have hm := len_mid p h t
    by_cases c : x = h
    · rw [idxOf, if_pos c]
      refine Ev.ret fun k => ?_
      rw [slices_Index_int_int.l0, if_pos (by omega), if_pos (by omega), if_pos (by omega), rd_mid, if_pos c]
    · have ih := slices_Index_l0 x t (p ++ [h]) (by simp; omega)
      rw [app_snoc, len_snoc] at ih
      rw [idxOf, if_neg c]
      refine Ev.step (fun k => ?_) ih
      show slices_Index_int_int.l0 (k + 1) (p ++ h :: t) x ((p ++ h :: t).length : Int) (p.length : Int) = _
      rw [slices_Index_int_int.l0, if_pos (by omega), if_pos (by omega), if_pos (by omega), rd_mid, if_neg c, w64 (by omega) (by omega)]
theorem ev_slices_Index (l : List Int) (x : Int) (hl : l.length ≤ 35184372088832) : Ev (fun k => slices_Index_int_int.f k l x) (idxOf x l 0) :=
  slices_Index_l0 x l [] (by simpa using hl)

theorem ev_slices_Contains (l : List Int) (x : Int) (hl : l.length ≤ 35184372088832) : Ev (fun k => slices_Contains_int_int.f k l x) (decide (x ∈ l)) := by
  have e : decide (idxOf x l 0 ≥ 0) = decide (x ∈ l) := by
    have h := idxOf_spec x l 0 (by omega)
    refine decide_eq_decide.2 ⟨fun h1 => ?_, fun h1 => (h.1 h1).1⟩
    by_cases c : x ∈ l
    · exact c
    · rw [h.2 c] at h1; omega
  rw [← e]
  exact Ev.congr (fun k => rfl) (Ev.bind (ev_slices_Index l x hl) (Ev.now _))

theorem ev_slices_Clone (l : List Int) (h : l.length < 17592186044416) : slices_Clone_int_int.f l = some l := by
  unfold slices_Clone_int_int.f
  simp only [Option.bind_some]
  rw [if_pos (by simp; omega)]
  simp

/-- What is left: parents of nodes that stay, -1 for those that are gone. -/
def Lf (par gone left : List Int) : Prop := left.length = par.length ∧ ∀ v : Int, 1 ≤ v → v ≤ par.length → rd left (v - 1) = if v ∈ gone then -1 else rd par (v - 1)
theorem rd_set (l : List Int) (i j : Nat) (x : Int) (hi : i < l.length) : rd (l.set i x) (j : Int) = if j = i then x else rd l (j : Int) := by
  rw [rd_nat, rd_nat, List.getD_eq_getElem?_getD, List.getD_eq_getElem?_getD]
  by_cases c : j = i
  · rw [if_pos c, c, List.getElem?_set_self hi]; rfl
  · rw [if_neg c, List.getElem?_set_ne (fun e => c e.symm)]
theorem Lf.add {par gone left : List Int} (h : Lf par gone left) (v : Int) (h0 : 1 ≤ v) (h1 : v ≤ par.length) : Lf par (gone ++ [v]) (left.set (v - 1).toNat (-1)) := by
  refine ⟨by simp [h.1], fun u h2 h3 => ?_⟩
  have hl := h.1
  have := rd_set left (v - 1).toNat (u - 1).toNat (-1) (by omega)
  rw [show (((u - 1).toNat : Nat) : Int) = u - 1 by omega] at this
  rw [this, h.2 u h2 h3]
  by_cases c : u = v
  · rw [if_pos (by rw [c]), if_pos (by simp [c])]
  · rw [if_neg (by omega)]
    by_cases g : u ∈ gone
    · rw [if_pos g, if_pos (by simp [g])]
    · rw [if_neg g, if_neg (by simp [g, c])]
theorem Lf.mem {par gone left : List Int} (h : Lf par gone left) (v : Int) (h0 : 1 ≤ v) : v ∈ left ↔ ∃ c, c ∈ kids par v ∧ c ∉ gone := by
  constructor
  · intro hm
    obtain ⟨i, hi, e⟩ := List.mem_iff_getElem.1 hm
    have hr : rd left (((i : Int) + 1) - 1) = v := by
      rw [show ((i : Int) + 1) - 1 = (i : Int) by omega, rd_nat, List.getD_eq_getElem?_getD, List.getElem?_eq_getElem hi, e]; rfl
    have hl := h.1
    have h2 := h.2 ((i : Int) + 1) (by omega) (by omega)
    rw [hr] at h2
    by_cases g : ((i : Int) + 1) ∈ gone
    · rw [if_pos g] at h2; omega
    · rw [if_neg g] at h2
      exact ⟨(i : Int) + 1, (kids_mem par v _).2 ⟨by omega, by omega, h2.symm⟩, g⟩
  · rintro ⟨c, hc, g⟩
    obtain ⟨h1, h2, h3⟩ := (kids_mem par v c).1 hc
    have h4 := h.2 c h1 h2
    rw [if_neg g, h3] at h4
    have hl := h.1
    rw [← h4]
    exact rd_mem left (c - 1) (by omega) (by omega)
theorem impl_PruferOf_l1 (par gone left word : List Int) (ht : isTr par = true) (hlf : Lf par gone left) (hwl : word.length ≤ 100) (x20 : Int) (i : Nat) (hi : i ≤ 1000) (u : Int) (hu : leafB par gone u = true) (h1 : 1 ≤ u) (r : List Int × Bool) : ∀ d : Nat, u ≤ d → d ≤ par.length →
    Ev (fun k => impl_PruferOf.l0 k (left.set (pickD par gone d - 1).toNat (-1)) (word ++ [rd par (pickD par gone d - 1)]) x20 ((i : Int) + 1)) r →
    Ev (fun k => impl_PruferOf.l1 k left word (d : Int) x20 (i : Int)) r
  | 0, hd, _, _ => by omega
  | d + 1, hd, hdn, H => by
    obtain ⟨h8, h20, _⟩ := (isTr_iff par).1 ht
    have ed : ((d + 1 : Nat) : Int) = (d : Int) + 1 := by omega
    have hl := hlf.1
    have hv := hlf.2 ((d : Int) + 1) (by omega) (by omega)
    rw [show (d : Int) + 1 - 1 = (d : Int) by omega] at hv
    have hpr := h20 (rd par d) (rd_mem par d (by omega) (by omega))
    have hmm := hlf.mem ((d : Int) + 1) (by omega)
    have hlb := leafB_iff par gone ((d : Int) + 1)
    rw [ed]
    have ih := fun c => impl_PruferOf_l1 par gone left word ht hlf hwl x20 i hi u hu h1 r d c (by omega)
    cases c : leafB par gone ((d : Int) + 1) with
    | true =>
      rw [pickD, if_pos c, show (d : Int) + 1 - 1 = (d : Int) by omega] at H
      obtain ⟨h2, h3⟩ := hlb.1 c
      rw [if_neg h2] at hv
      have hnm : ((d : Int) + 1) ∉ left := fun hm => by
        obtain ⟨w, hw, g⟩ := hmm.1 hm
        exact g (h3 w hw)
      refine Ev.step (f := fun k => (slices_Contains_int_int.f k left ((d : Int) + 1)).bind fun t213 => if t213 = true then impl_PruferOf.l1 k left word (d : Int) x20 (i : Int) else if word.length < 17592186044416 then impl_PruferOf.l0 k (left.set (d : Int).toNat (-1)) (word ++ [rd left (d : Int)]) x20 ((i : Int) + 1) else none) (fun k => ?_) (Ev.bind (ev_slices_Contains left _ (by omega)) ?_)
      · rw [impl_PruferOf.l1, w64 (by omega) (by omega), show (d : Int) + 1 - 1 = (d : Int) by omega, if_pos (by omega), if_pos (by omega), if_neg (by omega), w64 (by omega) (by omega)]
      · rw [hv]
        exact Ev.congr (fun k => by rw [if_neg (by simpa using hnm), if_pos (by omega)]) H
    | false =>
      rw [pickD, if_neg (by simp [c])] at H
      have hud : u ≤ d := by
        refine Classical.byContradiction fun h2 => ?_
        have : u = (d : Int) + 1 := by omega
        rw [this, c] at hu
        cases hu
      have ih := ih hud H
      by_cases g : ((d : Int) + 1) ∈ gone
      · rw [if_pos g] at hv
        refine Ev.step (fun k => ?_) ih
        show impl_PruferOf.l1 (k + 1) left word ((d : Int) + 1) x20 (i : Int) = _
        rw [impl_PruferOf.l1, w64 (by omega) (by omega), show (d : Int) + 1 - 1 = (d : Int) by omega, if_pos (by omega), if_pos (by omega), if_pos (by omega)]
      · rw [if_neg g] at hv
        have hm : ((d : Int) + 1) ∈ left := by
          refine hmm.2 (Classical.byContradiction fun hn => ?_)
          have : leafB par gone ((d : Int) + 1) = true := hlb.2 ⟨g, fun w hw => Classical.byContradiction fun h2 => hn ⟨w, hw, h2⟩⟩
          rw [c] at this
          cases this
        refine Ev.step (f := fun k => (slices_Contains_int_int.f k left ((d : Int) + 1)).bind fun t213 => if t213 = true then impl_PruferOf.l1 k left word (d : Int) x20 (i : Int) else if word.length < 17592186044416 then impl_PruferOf.l0 k (left.set (d : Int).toNat (-1)) (word ++ [rd left (d : Int)]) x20 ((i : Int) + 1) else none) (fun k => ?_) (Ev.bind (ev_slices_Contains left _ (by omega)) ?_)
        · rw [impl_PruferOf.l1, w64 (by omega) (by omega), show (d : Int) + 1 - 1 = (d : Int) by omega, if_pos (by omega), if_pos (by omega), if_neg (by omega), w64 (by omega) (by omega)]
        · exact Ev.congr (fun k => by rw [if_pos (by simpa using hm)]) ih
theorem impl_PruferOf_l0 (par : List Int) (ht : isTr par = true) (hne : 1 ≤ par.length) : ∀ (s : Nat) (i : Nat) (gone left word : List Int), Gone par gone → Lf par gone left → gone.length = i → word.length = i → i + s = par.length - 1 →
    Ev (fun k => impl_PruferOf.l0 k left word ((par.length : Int) - 1) (i : Int)) (prufS par s gone word, true)
  | 0, i, gone, left, word, h, hlf, hl, hw, hs => by
    obtain ⟨h8, _, _⟩ := (isTr_iff par).1 ht
    refine Ev.ret fun k => ?_
    rw [impl_PruferOf.l0, if_neg (by omega), prufS]
  | s + 1, i, gone, left, word, h, hlf, hl, hw, hs => by
    obtain ⟨h8, _, _⟩ := (isTr_iff par).1 ht
    obtain ⟨u, hu, h1, h2⟩ := leaf_there par gone ht (by omega)
    obtain ⟨p1, p2, p3⟩ := pickD_spec par gone u hu h1 par.length h2
    have ih := impl_PruferOf_l0 par ht hne s (i + 1) (gone ++ [pickD par gone par.length]) _ (word ++ [rd par (pickD par gone par.length - 1)]) (h.add p1 p2 p3) (hlf.add _ p2 p3) (by simp [hl]) (by simp [hw]) (by omega)
    rw [show ((i + 1 : Nat) : Int) = (i : Int) + 1 by omega] at ih
    rw [prufS]
    refine Ev.step (f := fun k => impl_PruferOf.l1 k left word (left.length : Int) ((par.length : Int) - 1) (i : Int)) (fun k => ?_) ?_
    · rw [impl_PruferOf.l0, if_pos (by omega)]
    · rw [hlf.1]
      exact impl_PruferOf_l1 par gone left word ht hlf (by omega) _ i (by omega) u hu h1 _ par.length h2 (Nat.le_refl _) ih

theorem pruferOf_both (l : List Int) (hl : l.length ≤ 35184372088832) : ∃ r : List Int × Bool, r.1.length ≤ 35184372088832 ∧ Ev (fun k => spec_PruferOf.f k l) r ∧ Ev (fun k => impl_PruferOf.f k l) r := by
  cases c : isTr l with
  | false =>
    refine ⟨([], false), by simp, ?_, ?_⟩
    · refine Ev.congr (fun k => rfl) (Ev.bind (ev_spec_trGood l hl) ?_)
      rw [c]; exact Ev.now _
    · refine Ev.congr (fun k => rfl) (Ev.bind (ev_impl_isTree l hl) ?_)
      rw [c]
      refine Ev.congr (fun k => by rw [if_neg (by simp)]) ?_
      exact Ev.ret fun k => by rw [impl_PruferOf.j0, if_pos rfl]
  | true =>
    obtain ⟨h8, h2, _⟩ := (isTr_iff l).1 c
    by_cases h0 : (l.length : Int) = 0
    · refine ⟨([], false), by simp, ?_, ?_⟩
      · refine Ev.congr (fun k => rfl) (Ev.bind (ev_spec_trGood l hl) ?_)
        rw [c]
        exact Ev.congr (fun k => by rw [if_pos rfl, if_pos h0]) (Ev.now _)
      · refine Ev.congr (fun k => rfl) (Ev.bind (ev_impl_isTree l hl) ?_)
        rw [c]
        refine Ev.congr (fun k => by rw [if_pos rfl]) ?_
        exact Ev.ret fun k => by rw [impl_PruferOf.j0, if_pos (by simpa using h0)]
    · have hw := prufS_length l (l.length - 1) [] []
      simp only [List.length_nil] at hw
      refine ⟨(prufS l (l.length - 1) [] [], true), by show (prufS l (l.length - 1) [] []).length ≤ _; omega, ?_, ?_⟩
      · refine Ev.congr (fun k => rfl) (Ev.bind (ev_spec_trGood l hl) ?_)
        rw [c]
        refine Ev.congr (fun k => by rw [if_pos rfl, if_neg h0]) ?_
        exact Ev.bind (ev_spec_trPrufer l c (by omega)) (Ev.now _)
      · refine Ev.congr (fun k => rfl) (Ev.bind (ev_impl_isTree l hl) ?_)
        rw [c]
        refine Ev.congr (fun k => by rw [if_pos rfl]) ?_
        refine Ev.step (f := fun k => impl_PruferOf.l0 k l [] ((l.length : Int) - 1) 0) (fun k => ?_) ?_
        · rw [impl_PruferOf.j0, if_neg (by simpa using h0), ev_slices_Clone l (by omega), Option.bind_some, w64 (by omega) (by omega)]
        · exact impl_PruferOf_l0 l c (by omega) (l.length - 1) 0 [] l [] (Gone.none l) ⟨rfl, fun v _ _ => by simp⟩ rfl rfl (by omega)

theorem FnExactPruferOf : laws_FnExactPruferOf.Pure := by
  intro l0 _ _ _
  by_cases c0 : (l0.length : Int) > 1048576
  · refine ⟨0, ?_⟩
    rw [laws_FnExactPruferOf.f, if_pos c0]
  have hl0 : l0.length ≤ 35184372088832 := by omega
  obtain ⟨r, hr, hs, hi⟩ := pruferOf_both l0 hl0
  refine Ev.rounds ?_
  refine Ev.congr (fun k => by rw [laws_FnExactPruferOf.f, if_neg c0]) ?_
  refine Ev.bind (ev_toIntS l0 hl0) ?_
  refine Ev.bind (hs) ?_
  refine Ev.bind (ev_toIntS l0 hl0) ?_
  refine Ev.bind (hi) ?_
  refine Ev.bind (ev_eqIntS r.1 hr) ?_
  refine Ev.congr (fun k => by rw [if_pos rfl, bne_self_eq_false]) ?_
  refine Ev.step (fun k => by rw [laws_FnExactPruferOf.j0, if_neg (by simp)]) ?_
  refine Ev.bind (ev_toIntS l0 hl0) ?_
  refine Ev.bind (ev_eqIntS l0 hl0) ?_
  refine Ev.congr (fun k => by rw [if_pos rfl]) ?_
  refine Ev.bind (ev_markIntS l0 (1) (by omega) (by omega) hl0) ?_
  refine Ev.congr (fun k => by rw [if_neg (by omega)]) ?_
  refine Ev.bind (ev_eqIntS r.1 hr) ?_
  refine Ev.congr (fun k => by rw [if_pos rfl, bne_self_eq_false]) ?_
  refine Ev.step (fun k => by rw [laws_FnExactPruferOf.j1, if_neg (by simp)]) ?_
  refine Ev.bind (ev_markIntS r.1 1 (by omega) (by omega) hr) ?_
  refine Ev.bind (ev_heldIntS 1 r.1.length (by omega) (by omega) hr) ?_
  refine Ev.congr (fun k => by rw [if_neg (by omega), if_pos rfl]) ?_
  refine Ev.bind (ev_toIntS l0 hl0) ?_
  refine Ev.bind (hi) ?_
  refine Ev.bind (ev_eqIntS r.1 hr) ?_
  refine Ev.congr (fun k => by rw [if_pos rfl, bne_self_eq_false]) ?_
  refine Ev.step (fun k => by rw [laws_FnExactPruferOf.j2, if_neg (by simp)]) ?_
  refine Ev.bind (ev_heldIntS 1 r.1.length (by omega) (by omega) hr) ?_
  refine Ev.congr (fun k => by rw [if_neg (by omega), if_pos rfl]) ?_
  exact Ev.now true

end Go.Proofs.Ytjcnemdiakmjcaa.Pure
