/- RelabelTree of the program and of the reference agree on every pair of lists, the arguments stay, and nothing is shared. -/
import Derived.Test.YtfgkcgedkhpigaaWSized
import Derived.Test.YtfgkcgedkhpigaaPFnExactRelabelTreex
namespace Go.Proofs.Ytfgkcgedkhpigaa.PrintWords
open Go.ChangeShapes Go.WideShapes
/-- The word by the name that the printed row asks for. -/
theorem sized_ints {H : Type} {enc : TypeId × Value → H} {P : Program} {W : World} {base : Nat} {spare : Nat → Bool} {held : Bool} {t e : TypeId} {k : IntKind} {a : Option Addr} {len cap : Nat} {d : DataW H} {ps : List MemPlace} {ts : List TypeId} {ds : List (DataW H)} {j : Nat}
    (hsz : (DataW.weightsEach P ts ds).all (· ≤ reachBytes) = true) (ht : ts[j]? = some t) (hd : ds[j]? = some d) (hu : P.underlying t = some (.slice e)) (he : P.underlying e = some (.int k)) (hc : P.cellsOf e = 1) {B : Nat} (hB : P.bytesOf e = B)
    (h : DataW.Trod enc P W base spare held t (.slice a len cap) d ps) : len * B ≤ 140737488351232 :=
  Go.Proofs.YtfgkcgedkhpigaaW.PrintWords.sized_ints hsz ht hd hu he hc hB h
end Go.Proofs.Ytfgkcgedkhpigaa.PrintWords
namespace Go.Proofs.Ytfgkcgedkhpigaa.Pure
open Go.RowKit Go.Proofs.Ytfgkcgedkhpigaa.PFnExactRelabelTree Go.Proofs.YtfgkcgedkhpigaaW.PrintWords Go.Proofs.YtfgkcgedkhpigaaW.PrintLast
set_option linter.unusedVariables false
set_option linter.unusedSimpArgs false

theorem w64 {x : Int} (h0 : -9223372036854775808 ≤ x) (h1 : x ≤ 9223372036854775807) : wrap64 x = x := by
  unfold wrap64
  omega
theorem rd_mid (p : List Int) (h : Int) (t : List Int) : rd (p ++ h :: t) (p.length : Int) = h := by
  unfold rd
  simp
theorem rd_nat (l : List Int) (i : Nat) : rd l (i : Int) = l.getD i 0 := by
  unfold rd
  simp
theorem Ev.ret {α : Type} {g : Nat → Option α} {r : α} (h : ∀ k, g (k + 1) = some r) : Ev g r :=
  Ev.step (f := fun _ => some r) h (Ev.now r)

theorem toIntS_l0 : ∀ (t p : List Int), p.length + t.length ≤ 35184372088832 →
    Ev (fun k => laws_toIntS.l0 k (p ++ t) (p ++ List.replicate t.length 0) (p.length : Int)) (p ++ t)
  | [], p, _ => by
    refine Ev.ret fun k => ?_
    rw [laws_toIntS.l0, if_neg (by simp)]
    simp
  | h :: t, p, hn => by
    have hn' : p.length + t.length + 1 ≤ 35184372088832 := by simpa [Nat.add_assoc] using hn
    have ih := toIntS_l0 t (p ++ [h]) (by simp; omega)
    have e1 : (p ++ [h]) ++ t = p ++ h :: t := by simp
    have e2 : (((p ++ [h]).length : Nat) : Int) = (p.length : Int) + 1 := by simp
    rw [e1, e2] at ih
    refine Ev.step (fun k => ?_) ih
    show laws_toIntS.l0 (k + 1) (p ++ h :: t) (p ++ List.replicate (h :: t).length 0) (p.length : Int) = _
    rw [laws_toIntS.l0, if_pos (by simp; omega), if_pos (by omega), if_pos (by simp; omega), rd_mid, w64 (by omega) (by omega)]
    congr 1
    simp [List.replicate_succ, List.set_append]
theorem ev_toIntS (l : List Int) (h : l.length ≤ 35184372088832) : Ev (fun k => laws_toIntS.f k l) l := by
  have z := toIntS_l0 l [] (by simpa using h)
  refine Ev.congr (fun k => ?_) z
  show laws_toIntS.f k l = _
  rw [laws_toIntS.f, if_pos (by omega), if_pos (by simpa using h)]
  simp

theorem eqIntS_l0 : ∀ (t p : List Int), p.length + t.length ≤ 35184372088832 →
    Ev (fun k => laws_eqIntS.l0 k (p ++ t) (p ++ t) (p.length : Int)) true
  | [], p, _ => by
    refine Ev.ret fun k => ?_
    rw [laws_eqIntS.l0, if_neg (by simp)]
  | h :: t, p, hn => by
    have hn' : p.length + t.length + 1 ≤ 35184372088832 := by simpa [Nat.add_assoc] using hn
    have ih := eqIntS_l0 t (p ++ [h]) (by simp; omega)
    have e1 : (p ++ [h]) ++ t = p ++ h :: t := by simp
    have e2 : (((p ++ [h]).length : Nat) : Int) = (p.length : Int) + 1 := by simp
    rw [e1, e2] at ih
    refine Ev.step (fun k => ?_) ih
    show laws_eqIntS.l0 (k + 1) (p ++ h :: t) (p ++ h :: t) (p.length : Int) = _
    rw [laws_eqIntS.l0, if_pos (by simp; omega), if_pos (by omega), if_pos (by simp; omega), rd_mid, if_pos rfl, w64 (by omega) (by omega)]
theorem ev_eqIntS (l : List Int) (h : l.length ≤ 35184372088832) : Ev (fun k => laws_eqIntS.f k l l) true := by
  have z := eqIntS_l0 l [] (by simpa using h)
  refine Ev.congr (fun k => ?_) z
  show laws_eqIntS.f k l l = _
  rw [laws_eqIntS.f, if_pos rfl]
  rfl

/-- n numbers from one on. -/
def marks (k : Int) : Nat → List Int
  | 0 => []
  | n + 1 => k :: marks (k + 1) n
theorem marks_length : ∀ (n : Nat) (k : Int), (marks k n).length = n
  | 0, _ => rfl
  | n + 1, k => by simp [marks, marks_length n]
theorem markIntS_l0 : ∀ (t p : List Int) (k : Int), 0 ≤ k → k + t.length ≤ 4611686018427387904 → p.length + t.length ≤ 35184372088832 →
    Ev (fun n => laws_markIntS.l0 n (p ++ t) k (p.length : Int)) (k + t.length, p ++ marks k t.length)
  | [], p, k, _, _, _ => by
    refine Ev.ret fun n => ?_
    rw [laws_markIntS.l0, if_neg (by simp)]
    simp [marks]
  | h :: t, p, k, h0, hk, hn => by
    have hn' : p.length + t.length + 1 ≤ 35184372088832 := by simpa [Nat.add_assoc] using hn
    have hk' : k + (t.length : Int) + 1 ≤ 4611686018427387904 := by simp at hk; omega
    have ih := markIntS_l0 t (p ++ [k]) (k + 1) (by omega) (by omega) (by simp; omega)
    have e1 : (p ++ [k]) ++ t = p ++ k :: t := by simp
    have e2 : (((p ++ [k]).length : Nat) : Int) = (p.length : Int) + 1 := by simp
    rw [e1, e2] at ih
    have e3 : ((k + ((h :: t).length : Int), p ++ marks k (h :: t).length) : Int × List Int) = (k + 1 + (t.length : Int), p ++ [k] ++ marks (k + 1) t.length) := by
      simp [marks]; omega
    rw [e3]
    refine Ev.step (fun n => ?_) ih
    show laws_markIntS.l0 (n + 1) (p ++ h :: t) k (p.length : Int) = _
    rw [laws_markIntS.l0, if_pos (by simp; omega), if_pos (by omega), w64 (by omega) (by omega), w64 (by omega) (by omega)]
    congr 1
    simp [List.set_append]
theorem ev_markIntS (l : List Int) (k : Int) (h0 : 0 ≤ k) (hk : k ≤ 4000000000000000000) (hl : l.length ≤ 35184372088832) : Ev (fun n => laws_markIntS.f n l k) (k + l.length, marks k l.length) :=
  markIntS_l0 l [] k h0 (by omega) (by simpa using hl)
theorem heldIntS_l0 : ∀ (m : Nat) (p : List Int) (k : Int), 0 ≤ k → k + m ≤ 4611686018427387904 → p.length + m ≤ 35184372088832 →
    Ev (fun n => laws_heldIntS.l0 n (p ++ marks k m) k (p.length : Int)) (k + m)
  | 0, p, k, _, _, _ => by
    refine Ev.ret fun n => ?_
    rw [laws_heldIntS.l0, if_neg (by simp [marks])]
    simp
  | m + 1, p, k, h0, hk, hn => by
    have ih := heldIntS_l0 m (p ++ [k]) (k + 1) (by omega) (by omega) (by simp; omega)
    have e1 : (p ++ [k]) ++ marks (k + 1) m = p ++ k :: marks (k + 1) m := by simp
    have e2 : (((p ++ [k]).length : Nat) : Int) = (p.length : Int) + 1 := by simp
    rw [e1, e2] at ih
    have e3 : k + ((m + 1 : Nat) : Int) = k + 1 + (m : Int) := by omega
    rw [e3]
    refine Ev.step (fun n => ?_) ih
    show laws_heldIntS.l0 (n + 1) (p ++ k :: marks (k + 1) m) k (p.length : Int) = _
    rw [laws_heldIntS.l0, if_pos (by simp; omega), if_pos (by omega), rd_mid, if_pos rfl, w64 (by omega) (by omega), w64 (by omega) (by omega)]
theorem ev_heldIntS (k : Int) (m : Nat) (h0 : 0 ≤ k) (hk : k ≤ 4000000000000000000) (hm : m ≤ 35184372088832) : Ev (fun n => laws_heldIntS.f n (marks k m) k) (k + m) :=
  heldIntS_l0 m [] k h0 (by omega) (by simpa using hm)

/-- One step of a walk along a list: what stands behind the place. -/
theorem len_snoc (p : List Int) (h : Int) : (((p ++ [h]).length : Nat) : Int) = (p.length : Int) + 1 := by simp
theorem app_snoc (p : List Int) (h : Int) (t : List Int) : (p ++ [h]) ++ t = p ++ h :: t := by simp
theorem len_mid (p : List Int) (h : Int) (t : List Int) : ((p ++ h :: t).length : Int) = (p.length : Int) + t.length + 1 := by simp; omega

/-- All numbers lie from lo to hi. -/
def inAll (lo hi : Int) (l : List Int) : Bool := l.all fun n => decide (lo ≤ n) && decide (n ≤ hi)
theorem inAll_iff (lo hi : Int) (l : List Int) : inAll lo hi l = true ↔ ∀ x ∈ l, lo ≤ x ∧ x ≤ hi := by
  simp [inAll, List.all_eq_true]
theorem inAll_cons (lo hi x : Int) (l : List Int) : inAll lo hi (x :: l) = ((decide (lo ≤ x) && decide (x ≤ hi)) && inAll lo hi l) := by
  simp [inAll]

/-- Parents lead to the root in so many steps at most. -/
def climb (par : List Int) : Nat → Int → Bool
  | 0, a => decide (a ≤ 0)
  | m + 1, a => if a > 0 then climb par m (rd par (a - 1)) else true
theorem climb_more (par : List Int) : ∀ (m : Nat) (a : Int), climb par m a = true → climb par (m + 1) a = true
  | 0, a, h => by
    simp only [climb, decide_eq_true_eq] at h
    simp only [climb]
    rw [if_neg (by omega)]
  | m + 1, a, h => by
    rw [climb]
    by_cases c : a > 0
    · rw [if_pos c]
      rw [climb, if_pos c] at h
      exact climb_more par m _ h
    · rw [if_neg c]
/-- The node so many steps above. -/
def up (par : List Int) : Nat → Int → Int
  | 0, a => a
  | m + 1, a => up par m (rd par (a - 1))
theorem climb_up (par : List Int) : ∀ (m : Nat) (a : Int), climb par m a = true ↔ ∃ j, j ≤ m ∧ up par j a ≤ 0
  | 0, a => by
    simp only [climb, decide_eq_true_eq]
    constructor
    · exact fun h => ⟨0, Nat.le_refl _, h⟩
    · rintro ⟨j, hj, h⟩
      obtain rfl : j = 0 := by omega
      exact h
  | m + 1, a => by
    rw [climb]
    by_cases c : a > 0
    · rw [if_pos c, climb_up par m]
      constructor
      · rintro ⟨j, hj, h⟩
        exact ⟨j + 1, by omega, h⟩
      · rintro ⟨j, hj, h⟩
        cases j with
        | zero => exact absurd h (by simp only [up]; omega)
        | succ j => exact ⟨j, by omega, h⟩
    · rw [if_neg c]
      exact ⟨fun _ => ⟨0, by omega, by simp only [up]; omega⟩, fun _ => rfl⟩
theorem up_add (par : List Int) : ∀ (i j : Nat) (a : Int), up par (i + j) a = up par j (up par i a)
  | 0, j, a => by rw [Nat.zero_add]; rfl
  | i + 1, j, a => by
    rw [Nat.add_right_comm]
    exact up_add par i j (rd par (a - 1))
/-- Of n + 1 numbers from 1 to n two are alike. -/
theorem two_alike : ∀ (n : Nat) (f : Nat → Int), (∀ i, i ≤ n → 1 ≤ f i ∧ f i ≤ n) → ∃ i j, i < j ∧ j ≤ n ∧ f i = f j
  | 0, f, h => by have := h 0 (by omega); omega
  | n + 1, f, h => by
    by_cases c : ∃ i, i ≤ n ∧ f i = f (n + 1)
    · obtain ⟨i, hi, e⟩ := c
      exact ⟨i, n + 1, by omega, by omega, e⟩
    · -- the last one's value is left out
      let g : Nat → Int := fun i => if f i > f (n + 1) then f i - 1 else f i
      have hg : ∀ i, i ≤ n → 1 ≤ g i ∧ g i ≤ n := by
        intro i hi
        have h1 := h i (by omega)
        have h2 := h (n + 1) (by omega)
        have h3 : f i ≠ f (n + 1) := fun e => c ⟨i, hi, e⟩
        show 1 ≤ (if f i > f (n + 1) then f i - 1 else f i) ∧ (if f i > f (n + 1) then f i - 1 else f i) ≤ n
        split <;> omega
      obtain ⟨i, j, hij, hj, e⟩ := two_alike n g hg
      have h3 : f i ≠ f (n + 1) := fun e => c ⟨i, by omega, e⟩
      have h4 : f j ≠ f (n + 1) := fun e => c ⟨j, by omega, e⟩
      refine ⟨i, j, hij, by omega, ?_⟩
      have e' : (if f i > f (n + 1) then f i - 1 else f i) = (if f j > f (n + 1) then f j - 1 else f j) := e
      split at e' <;> split at e' <;> omega
/-- What is reached in n + 1 steps is reached in n. -/
theorem climb_less (par : List Int) (hp : ∀ x ∈ par, 0 ≤ x ∧ x ≤ par.length) (a : Int) (ha0 : 0 ≤ a) (ha : a ≤ par.length) (h : climb par (par.length + 1) a = true) : climb par par.length a = true := by
  rw [climb_up] at h ⊢
  obtain ⟨j, hj, hu⟩ := h
  by_cases c : ∃ i, i ≤ par.length ∧ up par i a ≤ 0
  · exact c
  · exfalso
    have hpos : ∀ i, i ≤ par.length → 1 ≤ up par i a := fun i hi => by
      have : ¬ up par i a ≤ 0 := fun e => c ⟨i, hi, e⟩
      omega
    have hle : ∀ i, i ≤ par.length → up par i a ≤ par.length := by
      intro i
      induction i with
      | zero => intro _; exact ha
      | succ i ih =>
        intro hi
        have h1 := hpos i (by omega)
        have h2 := ih (by omega)
        rw [up_add par i 1]
        have hr : rd par (up par i a - 1) ∈ par := by
          unfold rd
          rw [List.getD_eq_getElem?_getD, List.getElem?_eq_getElem (by omega)]
          exact List.getElem_mem _
        exact (hp _ hr).2
    obtain ⟨i, k, hik, hk, e⟩ := two_alike par.length (fun i => up par i a) (fun i hi => ⟨hpos i hi, hle i hi⟩)
    have e : up par i a = up par k a := e
    -- j = n + 1: the same place stood earlier
    have hj' : j = par.length + 1 := by
      rcases Nat.lt_or_ge par.length j with h1 | h1
      · omega
      · exact absurd ⟨j, h1, hu⟩ c
    have e2 : up par j a = up par (i + (j - k)) a := by
      rw [show j = k + (j - k) by omega, up_add par k, up_add par i, ← e]
      congr 1
      omega
    have := hpos (i + (j - k)) (by omega)
    omega
/-- A tree: parents lead to the root from each node. -/
def isTr (par : List Int) : Bool := decide (par.length ≤ 8) && inAll 0 par.length par && (List.range par.length).all fun i => climb par par.length ((i : Int) + 1)

theorem ev_spec_l1In (a b c : Int) : spec_l1In.f a b c = some (decide (b ≤ a) && decide (a ≤ c)) := by
  unfold spec_l1In.f
  by_cases h : a ≥ b
  · rw [if_pos h]; simp [show b ≤ a from h]
  · rw [if_neg h]; simp [show ¬ b ≤ a from h]

theorem spec_l1All_l0 (lo hi : Int) : ∀ (t p : List Int), p.length + t.length ≤ 35184372088832 →
    Ev (fun k => spec_l1All.l0 k lo hi (p ++ t) ((p ++ t).length : Int) (p.length : Int)) (inAll lo hi t)
  | [], p, _ => by
    refine Ev.ret fun k => ?_
    rw [spec_l1All.l0, if_neg (by simp)]
    rfl
  | h :: t, p, hn => by
    have hn' : p.length + t.length + 1 ≤ 35184372088832 := by simpa [Nat.add_assoc] using hn
    have hm := len_mid p h t
    rw [inAll_cons]
    cases c : decide (lo ≤ h) && decide (h ≤ hi) with
    | true =>
      have ih := spec_l1All_l0 lo hi t (p ++ [h]) (by simp; omega)
      rw [app_snoc, len_snoc] at ih
      rw [Bool.true_and]
      refine Ev.step (fun k => ?_) ih
      show spec_l1All.l0 (k + 1) lo hi (p ++ h :: t) ((p ++ h :: t).length : Int) (p.length : Int) = _
      rw [spec_l1All.l0, if_pos (by omega), if_pos (by omega), if_pos (by omega), rd_mid, ev_spec_l1In, c, Option.bind_some, if_pos rfl, w64 (by omega) (by omega)]
    | false =>
      rw [Bool.false_and]
      refine Ev.ret fun k => ?_
      rw [spec_l1All.l0, if_pos (by omega), if_pos (by omega), if_pos (by omega), rd_mid, ev_spec_l1In, c]
      rfl
theorem ev_spec_l1All (l : List Int) (lo hi : Int) (hl : l.length ≤ 35184372088832) : Ev (fun k => spec_l1All.f k l lo hi) (inAll lo hi l) :=
  spec_l1All_l0 lo hi l [] (by simpa using hl)

theorem spec_trGood_l1 (par : List Int) (n : Int) (hn : n = par.length) (hn8 : par.length ≤ 8) (hp : ∀ x ∈ par, 0 ≤ x ∧ x ≤ par.length) (w i : Int) (r : Bool) (r' : Bool) : ∀ (m : Nat) (a s : Int), 0 ≤ a → a ≤ n → 0 ≤ s → s + m = n →
    Ev (fun k => spec_trGood.l0 k par n w (wrap64 (i + 1))) r → (r' = (climb par m a && r)) → Ev (fun k => spec_trGood.l1 k par n a s w i) r'
  | 0, a, s, h0, h1, hs, hm, h, e => by
    subst e
    simp only [climb]
    by_cases c : a > 0
    · rw [decide_eq_false (by omega), Bool.false_and]
      refine Ev.ret fun k => ?_
      rw [spec_trGood.l1, if_pos c, if_pos (by omega)]
    · rw [decide_eq_true (by omega), Bool.true_and]
      refine Ev.step (fun k => ?_) h
      show spec_trGood.l1 (k + 1) par n a s w i = _
      rw [spec_trGood.l1, if_neg c]
  | m + 1, a, s, h0, h1, hs, hm, h, e => by
    subst e
    by_cases c : a > 0
    · rw [climb, if_pos c]
      have hr : rd par (a - 1) ∈ par := by
        unfold rd
        rw [List.getD_eq_getElem?_getD, List.getElem?_eq_getElem (by omega)]
        exact List.getElem_mem _
      have hb := hp _ hr
      refine Ev.step (fun k => ?_) (spec_trGood_l1 par n hn hn8 hp w i r _ m (rd par (a - 1)) (s + 1) hb.1 (by omega) (by omega) (by omega) h rfl)
      show spec_trGood.l1 (k + 1) par n a s w i = _
      rw [spec_trGood.l1, if_pos c, if_neg (by omega), w64 (x := a - 1) (by omega) (by omega), if_pos (by omega), if_pos (by omega), w64 (by omega) (by omega)]
    · rw [climb, if_neg c, Bool.true_and]
      refine Ev.step (fun k => ?_) h
      show spec_trGood.l1 (k + 1) par n a s w i = _
      rw [spec_trGood.l1, if_neg c]
theorem spec_trGood_l0 (par : List Int) (hn8 : par.length ≤ 8) (hp : ∀ x ∈ par, 0 ≤ x ∧ x ≤ par.length) : ∀ (d i : Nat), i + d = par.length →
    Ev (fun k => spec_trGood.l0 k par (par.length : Int) (par.length : Int) (i : Int)) ((List.range' i d).all fun j => climb par par.length ((j : Int) + 1))
  | 0, i, hi => by
    refine Ev.ret fun k => ?_
    rw [spec_trGood.l0, if_neg (by omega)]
    rfl
  | d + 1, i, hi => by
    have ih := spec_trGood_l0 par hn8 hp d (i + 1) (by omega)
    refine Ev.step (fun k => ?_) (spec_trGood_l1 par (par.length : Int) rfl hn8 hp (par.length : Int) (i : Int) ((List.range' (i + 1) d).all fun j => climb par par.length ((j : Int) + 1)) _ par.length ((i : Int) + 1) 0 (by omega) (by omega) (by omega) (by omega) ?_ ?_)
    · show spec_trGood.l0 (k + 1) par (par.length : Int) (par.length : Int) (i : Int) = _
      rw [spec_trGood.l0, if_pos (by omega), w64 (by omega) (by omega)]
    · rw [w64 (by omega) (by omega)]
      exact ih
    · rw [List.range'_succ, List.all_cons]
theorem ev_spec_trGood (par : List Int) (hl : par.length ≤ 35184372088832) : Ev (fun k => spec_trGood.f k par) (isTr par) := by
  by_cases c8 : par.length ≤ 8
  · cases c : inAll 0 par.length par with
    | false =>
      have e : isTr par = false := by simp [isTr, c]
      rw [e]
      refine Ev.congr (fun k => by rw [spec_trGood.f, if_neg (by omega)]) ?_
      refine Ev.bind (ev_spec_l1All par 0 par.length hl) ?_
      rw [c]
      exact Ev.ret fun k => by rw [spec_trGood.j0]; rfl
    | true =>
      have hp := (inAll_iff _ _ _).1 c
      have e : isTr par = (List.range' 0 par.length).all fun j => climb par par.length ((j : Int) + 1) := by
        simp [isTr, c, c8, List.range_eq_range']
      rw [e]
      refine Ev.congr (fun k => by rw [spec_trGood.f, if_neg (by omega)]) ?_
      refine Ev.bind (ev_spec_l1All par 0 par.length hl) ?_
      rw [c]
      refine Ev.step (fun k => by rw [spec_trGood.j0, if_neg (by simp)]) ?_
      exact spec_trGood_l0 par c8 hp par.length 0 (by omega)
  · have e : isTr par = false := by simp [isTr, c8]
    rw [e]
    refine Ev.congr (fun k => by rw [spec_trGood.f, if_pos (by omega)]) ?_
    exact Ev.ret fun k => by rw [spec_trGood.j0, if_pos rfl]

theorem slices_IndexFunc_l0 (q : Int → Bool) : ∀ (t p : List Int), p.length + t.length ≤ 35184372088832 →
    ∃ r : Int, decide (r ≥ 0) = t.any q ∧ Ev (fun k => slices_IndexFunc_int_int.l0 q k (p ++ t) ((p ++ t).length : Int) (p.length : Int)) r
  | [], p, _ => by
    refine ⟨-1, by simp, Ev.ret fun k => ?_⟩
    rw [slices_IndexFunc_int_int.l0, if_neg (by simp)]
  | h :: t, p, hn => by
    have hn' : p.length + t.length + 1 ≤ 35184372088832 := by simpa [Nat.add_assoc] using hn
    have hm := len_mid p h t
    cases c : q h with
    | true =>
      refine ⟨p.length, by simp [c], Ev.ret fun k => ?_⟩
      rw [slices_IndexFunc_int_int.l0, if_pos (by omega), if_pos (by omega), if_pos (by omega), rd_mid, c, Option.bind_some, if_pos rfl]
    | false =>
      obtain ⟨r, hr, ih⟩ := slices_IndexFunc_l0 q t (p ++ [h]) (by simp; omega)
      rw [app_snoc, len_snoc] at ih
      refine ⟨r, by simpa [c] using hr, Ev.step (fun k => ?_) ih⟩
      show slices_IndexFunc_int_int.l0 q (k + 1) (p ++ h :: t) ((p ++ h :: t).length : Int) (p.length : Int) = _
      rw [slices_IndexFunc_int_int.l0, if_pos (by omega), if_pos (by omega), if_pos (by omega), rd_mid, c, Option.bind_some, if_neg (by simp), w64 (by omega) (by omega)]
theorem ev_containsFunc (q : Int → Bool) (l : List Int) (hl : l.length ≤ 35184372088832) : Ev (fun k => slices_ContainsFunc_int_int.f q k l) (l.any q) := by
  obtain ⟨r, hr, h⟩ := slices_IndexFunc_l0 q l [] (by simpa using hl)
  rw [← hr]
  exact Ev.congr (fun k => rfl) (Ev.bind h (Ev.now _))

theorem ev_impl_between (a b c : Int) : impl_between.f a b c = some (decide (b ≤ a) && decide (a ≤ c)) := by
  unfold impl_between.f
  by_cases h : a ≥ b
  · rw [if_pos h]; simp [show b ≤ a from h]
  · rw [if_neg h]; simp [show ¬ b ≤ a from h]

theorem ev_impl_areBetween (l : List Int) (lo hi : Int) (hl : l.length ≤ 35184372088832) : Ev (fun k => impl_areBetween.f k l lo hi) (inAll lo hi l) := by
  have e : (!(l.any (impl_areBetween_1.p lo hi))) = inAll lo hi l := by
    have hp : ∀ n, impl_areBetween_1.p lo hi n = !(decide (lo ≤ n) && decide (n ≤ hi)) := fun n => by
      simp [impl_areBetween_1.p, ev_impl_between]
    unfold inAll
    induction l with
    | nil => rfl
    | cons x t ih =>
      rw [List.any_cons, List.all_cons, Bool.not_or, ih (by simp at hl; omega), hp, Bool.not_not]
  rw [← e]
  exact Ev.congr (fun k => rfl) (Ev.bind (ev_containsFunc (impl_areBetween_1.p lo hi) l hl) (Ev.now _))

theorem ev_impl_isCars (a : Int) : impl_isCars.f a = some (decide (0 ≤ a) && decide (a ≤ 8)) := by
  unfold impl_isCars.f
  rw [ev_impl_between]
  rfl

theorem impl_isTree_l1 (par : List Int) (n : Int) (hn : n = par.length) (hn8 : par.length ≤ 8) (hp : ∀ x ∈ par, 0 ≤ x ∧ x ≤ par.length) (w i : Int) (r : Bool) (r' : Bool) : ∀ (m : Nat) (a s : Int), 0 ≤ a → a ≤ n → 0 ≤ s → s + m = n + 1 →
    Ev (fun k => impl_isTree.l0 k par n w (wrap64 (i + 1))) r → (r' = (climb par m a && r)) → Ev (fun k => impl_isTree.l1 k par n a s w i) r'
  | 0, a, s, h0, h1, hs, hm, h, e => by
    subst e
    simp only [climb]
    by_cases c : a > 0
    · rw [decide_eq_false (by omega), Bool.false_and]
      refine Ev.ret fun k => ?_
      rw [impl_isTree.l1, if_pos c, if_pos (by omega)]
    · rw [decide_eq_true (by omega), Bool.true_and]
      refine Ev.step (fun k => ?_) h
      show impl_isTree.l1 (k + 1) par n a s w i = _
      rw [impl_isTree.l1, if_neg c]
  | m + 1, a, s, h0, h1, hs, hm, h, e => by
    subst e
    by_cases c : a > 0
    · rw [climb, if_pos c]
      have hr : rd par (a - 1) ∈ par := by
        unfold rd
        rw [List.getD_eq_getElem?_getD, List.getElem?_eq_getElem (by omega)]
        exact List.getElem_mem _
      have hb := hp _ hr
      refine Ev.step (fun k => ?_) (impl_isTree_l1 par n hn hn8 hp w i r _ m (rd par (a - 1)) (s + 1) hb.1 (by omega) (by omega) (by omega) h rfl)
      show impl_isTree.l1 (k + 1) par n a s w i = _
      rw [impl_isTree.l1, if_pos c, if_neg (by omega), w64 (x := a - 1) (by omega) (by omega), if_pos (by omega), if_pos (by omega), w64 (by omega) (by omega)]
    · rw [climb, if_neg c, Bool.true_and]
      refine Ev.step (fun k => ?_) h
      show impl_isTree.l1 (k + 1) par n a s w i = _
      rw [impl_isTree.l1, if_neg c]
theorem impl_isTree_l0 (par : List Int) (hn8 : par.length ≤ 8) (hp : ∀ x ∈ par, 0 ≤ x ∧ x ≤ par.length) : ∀ (d i : Nat), i + d = par.length →
    Ev (fun k => impl_isTree.l0 k par (par.length : Int) (par.length : Int) (i : Int)) ((List.range' i d).all fun j => climb par par.length ((j : Int) + 1))
  | 0, i, hi => by
    refine Ev.ret fun k => ?_
    rw [impl_isTree.l0, if_neg (by omega)]
    rfl
  | d + 1, i, hi => by
    have ih := impl_isTree_l0 par hn8 hp d (i + 1) (by omega)
    refine Ev.step (fun k => ?_) (impl_isTree_l1 par (par.length : Int) rfl hn8 hp (par.length : Int) (i : Int) ((List.range' (i + 1) d).all fun j => climb par par.length ((j : Int) + 1)) _ (par.length + 1) ((i : Int) + 1) 0 (by omega) (by omega) (by omega) (by omega) ?_ ?_)
    · show impl_isTree.l0 (k + 1) par (par.length : Int) (par.length : Int) (i : Int) = _
      rw [impl_isTree.l0, if_pos (by omega), w64 (by omega) (by omega)]
    · rw [w64 (by omega) (by omega)]
      exact ih
    · rw [List.range'_succ, List.all_cons]
      congr 1
      rw [Bool.eq_iff_iff]
      exact ⟨climb_more par _ _, climb_less par hp _ (by omega) (by omega)⟩
theorem ev_impl_isTree (par : List Int) (hl : par.length ≤ 35184372088832) : Ev (fun k => impl_isTree.f k par) (isTr par) := by
  by_cases c8 : par.length ≤ 8
  · have d8 : (decide ((0 : Int) ≤ par.length) && decide ((par.length : Int) ≤ 8)) = true := by
      rw [Bool.and_eq_true, decide_eq_true_eq, decide_eq_true_eq]; omega
    cases c : inAll 0 par.length par with
    | false =>
      have e : isTr par = false := by simp [isTr, c]
      rw [e]
      refine Ev.congr (fun k => by rw [impl_isTree.f, ev_impl_isCars, d8, Option.bind_some, if_pos rfl]) ?_
      refine Ev.bind (ev_impl_areBetween par 0 par.length hl) ?_
      rw [c]
      exact Ev.ret fun k => by rw [impl_isTree.j0]; rfl
    | true =>
      have hp := (inAll_iff _ _ _).1 c
      have e : isTr par = (List.range' 0 par.length).all fun j => climb par par.length ((j : Int) + 1) := by
        simp [isTr, c, c8, List.range_eq_range']
      rw [e]
      refine Ev.congr (fun k => by rw [impl_isTree.f, ev_impl_isCars, d8, Option.bind_some, if_pos rfl]) ?_
      refine Ev.bind (ev_impl_areBetween par 0 par.length hl) ?_
      rw [c]
      refine Ev.step (fun k => by rw [impl_isTree.j0, if_neg (by simp)]) ?_
      exact impl_isTree_l0 par c8 hp par.length 0 (by omega)
  · have e : isTr par = false := by simp [isTr, c8]
    have d8 : (decide ((0 : Int) ≤ par.length) && decide ((par.length : Int) ≤ 8)) = false := by
      rw [Bool.and_eq_false_iff]; right; exact decide_eq_false (by omega)
    rw [e]
    refine Ev.congr (fun k => by rw [impl_isTree.f, ev_impl_isCars, d8, Option.bind_some, if_neg (by simp)]) ?_
    exact Ev.ret fun k => by rw [impl_isTree.j0, if_pos rfl]

theorem nodup_at {l : List Int} (h : l.Nodup) {i j : Nat} (hi : i < j) (hj : j < l.length) : l[i]'(by omega) ≠ l[j] :=
  List.pairwise_iff_getElem.1 h i j (by omega) hj hi
theorem nodup_length (n : Nat) (l : List Int) (h : l.Nodup) (hr : ∀ v ∈ l, 0 ≤ v ∧ v ≤ n) : l.length ≤ n + 1 := by
  refine Classical.byContradiction fun c => ?_
  obtain ⟨i, j, hij, hj, e⟩ := two_alike (n + 1) (fun i => l.getD i 0 + 1) (fun i hi => by
    have hm : l.getD i 0 ∈ l := by
      rw [List.getD_eq_getElem?_getD, List.getElem?_eq_getElem (by omega)]
      exact List.getElem_mem _
    have := hr _ hm
    show 1 ≤ l.getD i 0 + 1 ∧ l.getD i 0 + 1 ≤ ((n + 1 : Nat) : Int)
    omega)
  have e2 : l.getD i 0 + 1 = l.getD j 0 + 1 := e
  rw [List.getD_eq_getElem?_getD, List.getD_eq_getElem?_getD, List.getElem?_eq_getElem (by omega), List.getElem?_eq_getElem (by omega)] at e2
  simp only [Option.getD_some] at e2
  exact nodup_at h hij (by omega) (by omega)

/-- Rising, with equal ones. -/
def Up (l : List Int) : Prop := l.Pairwise (· ≤ ·)
/-- A number put where it belongs. -/
def put (x : Int) : List Int → List Int
  | [] => [x]
  | h :: t => if x ≤ h then x :: h :: t else h :: put x t
/-- A list in order. -/
def srt : List Int → List Int
  | [] => []
  | h :: t => put h (srt t)
theorem put_perm (x : Int) : ∀ l : List Int, (put x l).Perm (x :: l)
  | [] => .refl _
  | h :: t => by
    rw [put]
    split
    · exact .refl _
    · exact ((put_perm x t).cons h).trans (.swap x h t)
theorem put_up (x : Int) : ∀ l : List Int, Up l → Up (put x l)
  | [], _ => by simp [put, Up]
  | h :: t, hl => by
    have h1 := List.pairwise_cons.1 hl
    rw [put]
    split
    · refine List.pairwise_cons.2 ⟨fun y hy => ?_, hl⟩
      rcases List.mem_cons.1 hy with e | e
      · omega
      · have := h1.1 y e; omega
    · refine List.pairwise_cons.2 ⟨fun y hy => ?_, put_up x t h1.2⟩
      rcases List.mem_cons.1 ((put_perm x t).mem_iff.1 hy) with e | e
      · omega
      · exact h1.1 y e
theorem srt_perm : ∀ l : List Int, (srt l).Perm l
  | [] => .refl _
  | h :: t => (put_perm h (srt t)).trans ((srt_perm t).cons h)
theorem srt_up : ∀ l : List Int, Up (srt l)
  | [] => by simp [srt, Up]
  | h :: t => put_up h _ (srt_up t)
theorem up_unique : ∀ (a b : List Int), Up a → Up b → a.Perm b → a = b
  | [], b, _, _, h => by simpa using h.length_eq.symm
  | x :: a, [], _, _, h => by simpa using h.length_eq
  | x :: a, y :: b, ha, hb, h => by
    have h1 := List.pairwise_cons.1 ha
    have h2 := List.pairwise_cons.1 hb
    have e : x = y := by
      have hx : x ∈ y :: b := h.mem_iff.1 (by simp)
      have hy : y ∈ x :: a := h.mem_iff.2 (by simp)
      rcases List.mem_cons.1 hx with e | e
      · exact e
      · rcases List.mem_cons.1 hy with e' | e'
        · exact e'.symm
        · have := h1.1 y e'
          have := h2.1 x e
          omega
    subst e
    rw [up_unique a b h1.2 h2.2 (List.perm_cons x |>.1 h)]

theorem rise_unique : ∀ (a b : List Int), a.Pairwise (· < ·) → b.Pairwise (· < ·) → (∀ x, x ∈ a ↔ x ∈ b) → a = b
  | [], [], _, _, _ => rfl
  | [], y :: b, _, _, h => by have := (h y).2 (by simp); simp at this
  | x :: a, [], _, _, h => by have := (h x).1 (by simp); simp at this
  | x :: a, y :: b, ha, hb, h => by
    have h1 := List.pairwise_cons.1 ha
    have h2 := List.pairwise_cons.1 hb
    have e : x = y := by
      rcases List.mem_cons.1 ((h x).1 (by simp)) with e | e
      · exact e
      · rcases List.mem_cons.1 ((h y).2 (by simp)) with e' | e'
        · exact e'.symm
        · have := h1.1 y e'
          have := h2.1 x e
          omega
    subst e
    rw [rise_unique a b h1.2 h2.2 fun z => ?_]
    constructor
    · intro hz
      rcases List.mem_cons.1 ((h z).1 (by simp [hz])) with e | e
      · have := h1.1 z hz; omega
      · exact e
    · intro hz
      rcases List.mem_cons.1 ((h z).2 (by simp [hz])) with e | e
      · have := h2.1 z hz; omega
      · exact e
theorem srt_rising (l : List Int) (h : l.Nodup) : (srt l).Pairwise (· < ·) := by
  have h1 := srt_up l
  have h2 : (srt l).Nodup := (srt_perm l).nodup_iff.2 h
  refine List.pairwise_iff_getElem.2 fun i j hi hj hij => ?_
  have h3 := List.pairwise_iff_getElem.1 h1 i j hi hj hij
  have h4 := List.pairwise_iff_getElem.1 h2 i j hi hj hij
  omega

/-- Heights that go on behind a last one. -/
def hts (last : Int) : List Int → Bool
  | [] => true
  | h :: t => decide (0 ≤ h) && decide (h ≤ last + 1) && hts h t
theorem hts_mem : ∀ (l : List Int) (last : Int), hts last l = true → ∀ x ∈ l, 0 ≤ x ∧ x ≤ last + l.length
  | [], _, _, x, hx => by cases hx
  | h :: t, last, hh, x, hx => by
    simp only [hts, Bool.and_eq_true, decide_eq_true_eq] at hh
    have e : ((h :: t).length : Int) = (t.length : Int) + 1 := by simp
    rw [e]
    cases hx with
    | head => omega
    | tail _ hx =>
      have := hts_mem t h hh.2 x hx
      omega
theorem rd_prev (q : List Int) (x : Int) (t : List Int) : rd ((q ++ [x]) ++ t) (((q ++ [x]).length : Int) - 1) = x := by
  unfold rd
  have : (((q ++ [x]).length : Int) - 1).toNat = q.length := by simp
  rw [this]
  simp

/-- How many steps lead to the root, of so many at most. -/
def hgt (par : List Int) : Nat → Int → Nat
  | 0, _ => 0
  | m + 1, a => if a > 0 then hgt par m (rd par (a - 1)) + 1 else 0
theorem hgt_more (par : List Int) : ∀ (m : Nat) (a : Int), climb par m a = true → hgt par (m + 1) a = hgt par m a
  | 0, a, h => by
    simp only [climb, decide_eq_true_eq] at h
    simp only [hgt]
    rw [if_neg (by omega)]
  | m + 1, a, h => by
    rw [climb] at h
    show (if a > 0 then hgt par (m + 1) (rd par (a - 1)) + 1 else 0) = (if a > 0 then hgt par m (rd par (a - 1)) + 1 else 0)
    by_cases c : a > 0
    · rw [if_pos c] at h
      rw [if_pos c, if_pos c, hgt_more par m _ h]
    · rw [if_neg c, if_neg c]
/-- The depth of a node. -/
def dep (par : List Int) (a : Int) : Nat := hgt par par.length a
theorem isTr_iff (par : List Int) : isTr par = true ↔ par.length ≤ 8 ∧ (∀ x ∈ par, 0 ≤ x ∧ x ≤ par.length) ∧ ∀ a : Int, 1 ≤ a → a ≤ par.length → climb par par.length a = true := by
  simp only [isTr, Bool.and_eq_true, decide_eq_true_eq, inAll_iff, List.all_eq_true, List.mem_range]
  constructor
  · rintro ⟨⟨h1, h2⟩, h3⟩
    refine ⟨h1, h2, fun a ha hb => ?_⟩
    have := h3 (a - 1).toNat (by omega)
    rwa [show (((a - 1).toNat : Nat) : Int) + 1 = a by omega] at this
  · rintro ⟨h1, h2, h3⟩
    exact ⟨⟨h1, h2⟩, fun i hi => h3 _ (by omega) (by omega)⟩
theorem rd_mem (l : List Int) (i : Int) (h0 : 0 ≤ i) (h1 : i < l.length) : rd l i ∈ l := by
  unfold rd
  rw [List.getD_eq_getElem?_getD, List.getElem?_eq_getElem (by omega)]
  exact List.getElem_mem _
/-- In a tree a node is one deeper than its parent. -/
theorem dep_step (par : List Int) (ht : isTr par = true) (a : Int) (h0 : 1 ≤ a) (h1 : a ≤ par.length) : dep par a = dep par (rd par (a - 1)) + 1 := by
  obtain ⟨_, h2, h3⟩ := (isTr_iff par).1 ht
  have hc := h3 a h0 h1
  unfold dep
  obtain ⟨m, hm⟩ : ∃ m, par.length = m + 1 := ⟨par.length - 1, by omega⟩
  rw [hm] at hc ⊢
  rw [climb, if_pos (by omega)] at hc
  rw [hgt, if_pos (by omega), hgt_more par m _ hc]

/-- So many numbers from one on. -/
def iota : Nat → Int → List Int
  | 0, _ => []
  | n + 1, i => i :: iota n (i + 1)
theorem iota_mem (x : Int) : ∀ (n : Nat) (i : Int), x ∈ iota n i ↔ i ≤ x ∧ x < i + n
  | 0, i => by
    simp only [iota, List.not_mem_nil, false_iff]
    omega
  | n + 1, i => by
    rw [iota, List.mem_cons, iota_mem x n (i + 1)]
    omega
theorem iota_rising : ∀ (n : Nat) (i : Int), (iota n i).Pairwise (· < ·)
  | 0, i => by simp [iota]
  | n + 1, i => List.pairwise_cons.2 ⟨fun x hx => by have := (iota_mem x n (i + 1)).1 hx; omega, iota_rising n (i + 1)⟩
theorem iota_length : ∀ (n : Nat) (i : Int), (iota n i).length = n
  | 0, _ => rfl
  | n + 1, i => by rw [iota, List.length_cons, iota_length n]
theorem rising_nodup {l : List Int} (h : l.Pairwise (· < ·)) : l.Nodup := h.imp fun hab => by omega
/-- Each number stands where it belongs. -/
def isUp : List Int → Int → Bool
  | [], _ => true
  | h :: t, i => decide (h = i) && isUp t (i + 1)
theorem isUp_iff : ∀ (l : List Int) (i : Int), isUp l i = true ↔ l = iota l.length i
  | [], i => by simp [isUp, iota]
  | h :: t, i => by
    rw [isUp, Bool.and_eq_true, decide_eq_true_eq, isUp_iff t (i + 1), List.length_cons, iota]
    constructor
    · rintro ⟨h1, h2⟩
      rw [h1, ← h2]
    · intro e
      injection e with h1 h2
      exact ⟨h1, h2⟩
theorem order_iff (l : List Int) : isUp (srt l) 0 = true ↔ inAll 0 ((l.length : Int) - 1) l = true ∧ l.Nodup := by
  rw [isUp_iff, (srt_perm l).length_eq, inAll_iff]
  constructor
  · intro e
    have hm : ∀ x, x ∈ l ↔ 0 ≤ x ∧ x < 0 + (l.length : Int) := fun x => by
      rw [← iota_mem x l.length 0, ← e]
      exact (srt_perm l).mem_iff.symm
    refine ⟨fun x hx => by have := (hm x).1 hx; omega, ?_⟩
    rw [← (srt_perm l).nodup_iff, e]
    exact rising_nodup (iota_rising _ _)
  · rintro ⟨h1, h2⟩
    refine rise_unique _ _ (srt_rising l h2) (iota_rising _ _) fun x => ?_
    rw [(srt_perm l).mem_iff, iota_mem]
    constructor
    · intro hx
      have := h1 x hx
      omega
    · intro hx
      refine Classical.byContradiction fun hn => ?_
      have hc : (x :: l).Nodup := List.nodup_cons.2 ⟨hn, h2⟩
      have := nodup_length (l.length - 1) (x :: l) hc fun v hv => by
        rcases List.mem_cons.1 hv with e | e
        · omega
        · have := h1 v e; omega
      rw [List.length_cons] at this
      omega
/-- Where a height is one more than the one ahead of it, labels don't fall: so many places from one on. -/
def labsFrom (H L : List Int) : Nat → Nat → Bool
  | 0, _ => true
  | d + 1, i => if rd H i = rd H ((i : Int) - 1) + 1 ∧ rd L ((i : Int) - 1) > rd L i then false else labsFrom H L d (i + 1)
theorem labsFrom_iff (H L : List Int) : ∀ (d i : Nat), labsFrom H L d i = true ↔ ∀ j : Nat, i ≤ j → j < i + d → rd H j = rd H ((j : Int) - 1) + 1 → rd L ((j : Int) - 1) ≤ rd L j
  | 0, i => by
    simp only [labsFrom, true_iff]
    intro j h1 h2
    omega
  | d + 1, i => by
    rw [labsFrom]
    have ih := labsFrom_iff H L d (i + 1)
    by_cases c : rd H i = rd H ((i : Int) - 1) + 1 ∧ rd L ((i : Int) - 1) > rd L i
    · rw [if_pos c]
      constructor
      · intro h; cases h
      · intro h
        have := h i (Nat.le_refl _) (by omega) c.1
        omega
    · rw [if_neg c, ih]
      constructor
      · intro h j h1 h2 h3
        by_cases e : j = i
        · subst e
          refine Classical.byContradiction fun h4 => c ⟨h3, by omega⟩
        · exact h j (by omega) (by omega) h3
      · intro h j h1 h2 h3
        exact h j (by omega) (by omega) h3
/-- The same, and no label stands twice. -/
def bothFrom (H L : List Int) : Nat → Nat → Bool
  | 0, _ => true
  | d + 1, i => if rd L i ∈ L.take i then false else if 0 < i ∧ rd H i = rd H ((i : Int) - 1) + 1 ∧ rd L ((i : Int) - 1) > rd L i then false else bothFrom H L d (i + 1)
theorem bothFrom_iff (H L : List Int) : ∀ (d i : Nat), bothFrom H L d i = true ↔ ∀ j : Nat, i ≤ j → j < i + d → rd L j ∉ L.take j ∧ (0 < j → rd H j = rd H ((j : Int) - 1) + 1 → rd L ((j : Int) - 1) ≤ rd L j)
  | 0, i => by
    simp only [bothFrom, true_iff]
    intro j h1 h2
    omega
  | d + 1, i => by
    rw [bothFrom]
    have ih := bothFrom_iff H L d (i + 1)
    by_cases g : rd L i ∈ L.take i
    · rw [if_pos g]
      constructor
      · intro h; cases h
      · intro h
        exact absurd g (h i (Nat.le_refl _) (by omega)).1
    · rw [if_neg g]
      by_cases c : 0 < i ∧ rd H i = rd H ((i : Int) - 1) + 1 ∧ rd L ((i : Int) - 1) > rd L i
      · rw [if_pos c]
        constructor
        · intro h; cases h
        · intro h
          have := (h i (Nat.le_refl _) (by omega)).2 c.1 c.2.1
          omega
      · rw [if_neg c, ih]
        constructor
        · intro h j h1 h2
          by_cases e : j = i
          · subst e
            exact ⟨g, fun h3 h4 => Classical.byContradiction fun h5 => c ⟨h3, h4, by omega⟩⟩
          · exact h j (by omega) (by omega)
        · intro h j h1 h2
          exact h j (by omega) (by omega)
theorem nodup_take (L : List Int) : L.Nodup ↔ ∀ j : Nat, j < L.length → rd L j ∉ L.take j := by
  constructor
  · intro h j hj hm
    obtain ⟨i, hi, e⟩ := List.mem_iff_getElem.1 hm
    rw [List.getElem_take] at e
    have hij : i < j := by simp at hi; omega
    rw [rd_nat, List.getD_eq_getElem?_getD, List.getElem?_eq_getElem hj] at e
    exact nodup_at h hij hj e
  · intro h
    refine List.pairwise_iff_getElem.2 fun i j hi hj hij e => h j hj ?_
    rw [rd_nat, List.getD_eq_getElem?_getD, List.getElem?_eq_getElem hj]
    refine List.mem_iff_getElem.2 ⟨i, by simp; omega, ?_⟩
    rw [List.getElem_take]
    exact e
theorem both_alike (H L : List Int) : bothFrom H L L.length 0 = (decide L.Nodup && labsFrom H L (L.length - 1) 1) := by
  rw [Bool.eq_iff_iff, Bool.and_eq_true, decide_eq_true_eq, bothFrom_iff, labsFrom_iff, nodup_take]
  constructor
  · intro h
    exact ⟨fun j hj => (h j (by omega) (by omega)).1, fun j h1 h2 => (h j (by omega) (by omega)).2 (by omega)⟩
  · rintro ⟨h1, h2⟩ j _ h3
    exact ⟨h1 j (by omega), fun h4 => h2 j (by omega) (by omega)⟩
/-- A walk: heights, and labels that are an order of as many and rise where heights rise. -/
def goodW (H L : List Int) : Bool := (decide (H.length ≤ 8) && hts (-1) H) && (decide ((L.length : Int) = (H.length : Int)) && (inAll 0 ((H.length : Int) - 1) L && (decide L.Nodup && labsFrom H L (L.length - 1) 1)))
theorem goodW_iff (H L : List Int) : goodW H L = true ↔ (H.length ≤ 8 ∧ hts (-1) H = true) ∧ L.length = H.length ∧ (∀ x ∈ L, 0 ≤ x ∧ x ≤ (H.length : Int) - 1) ∧ L.Nodup ∧ labsFrom H L (L.length - 1) 1 = true := by
  simp only [goodW, Bool.and_eq_true, decide_eq_true_eq, inAll_iff]
  constructor
  · rintro ⟨h1, h2, h3⟩
    exact ⟨h1, by omega, h3⟩
  · rintro ⟨h1, h2, h3⟩
    exact ⟨h1, by omega, h3⟩
theorem hts_rd {H : List Int} (h8 : H.length ≤ 8) (h : hts (-1) H = true) (i : Int) (h0 : 0 ≤ i) (h1 : i < H.length) : 0 ≤ rd H i ∧ rd H i ≤ 8 := by
  have := hts_mem H (-1) h _ (rd_mem H i h0 h1)
  omega

/-- No number stands twice, from one place on. -/
def dupB (L : List Int) : Nat → Nat → Bool
  | 0, _ => true
  | d + 1, i => if rd L i ∈ L.take i then false else dupB L d (i + 1)
theorem dupB_iff (L : List Int) : ∀ (d i : Nat), dupB L d i = true ↔ ∀ j : Nat, i ≤ j → j < i + d → rd L j ∉ L.take j
  | 0, i => by
    simp only [dupB, true_iff]
    intro j h1 h2
    omega
  | d + 1, i => by
    rw [dupB]
    have ih := dupB_iff L d (i + 1)
    by_cases g : rd L i ∈ L.take i
    · rw [if_pos g]
      constructor
      · intro h; cases h
      · intro h
        exact absurd g (h i (Nat.le_refl _) (by omega))
    · rw [if_neg g, ih]
      constructor
      · intro h j h1 h2
        by_cases e : j = i
        · subst e; exact g
        · exact h j (by omega) (by omega)
      · intro h j h1 h2
        exact h j (by omega) (by omega)
theorem dupB_nodup (L : List Int) : dupB L L.length 0 = decide L.Nodup := by
  rw [Bool.eq_iff_iff, decide_eq_true_eq, dupB_iff, nodup_take]
  exact ⟨fun h j hj => h j (by omega) (by omega), fun h j _ hj => h j (by omega)⟩
/-- Each number from 1 to n once. -/
def namesB (n : Nat) (m : List Int) : Bool := decide ((m.length : Int) = (n : Int)) && (inAll 1 n m && decide m.Nodup)
theorem namesB_iff (n : Nat) (m : List Int) : namesB n m = true ↔ m.length = n ∧ (∀ x ∈ m, 1 ≤ x ∧ x ≤ n) ∧ m.Nodup := by
  simp only [namesB, Bool.and_eq_true, decide_eq_true_eq, inAll_iff]
  constructor
  · rintro ⟨h1, h2, h3⟩
    exact ⟨by omega, h2, h3⟩
  · rintro ⟨h1, h2, h3⟩
    exact ⟨by omega, h2, h3⟩
/-- One less, as the machine has it. -/
def less1 (m : List Int) : List Int := m.map fun x => wrap64 (x - 1)
theorem less1_order (m : List Int) (hw : ∀ x ∈ m, -9223372036854775808 ≤ x ∧ x ≤ 9223372036854775807) (h8 : m.length ≤ 10000000) : isUp (srt (less1 m)) 0 = namesB m.length m := by
  have hone : ∀ x, x ∈ m → (0 ≤ wrap64 (x - 1) ∧ wrap64 (x - 1) ≤ (m.length : Int) - 1 ↔ 1 ≤ x ∧ x ≤ m.length) := fun x hx => by
    have := hw x hx
    by_cases c : x = -9223372036854775808
    · subst c
      have : wrap64 (-9223372036854775808 - 1) = 9223372036854775807 := by unfold wrap64; omega
      omega
    · rw [w64 (by omega) (by omega)]
      omega
  have hl : (less1 m).length = m.length := by simp [less1]
  rw [Bool.eq_iff_iff, order_iff, hl, inAll_iff, namesB_iff]
  have hmap : (∀ x ∈ m, 1 ≤ x ∧ x ≤ m.length) → less1 m = m.map (· - 1) := fun h => by
    unfold less1
    refine List.map_congr_left fun x hx => ?_
    have := h x hx
    exact w64 (by omega) (by omega)
  have hnd : (m.map (· - 1)).Nodup ↔ m.Nodup := by
    unfold List.Nodup
    rw [List.pairwise_map]
    exact ⟨fun h => h.imp fun hab e => hab (by rw [e]), fun h => h.imp fun hab e => hab (by omega)⟩
  constructor
  · rintro ⟨h1, h2⟩
    have h3 : ∀ x ∈ m, 1 ≤ x ∧ x ≤ m.length := fun x hx => (hone x hx).1 (h1 _ (List.mem_map.2 ⟨x, hx, rfl⟩))
    refine ⟨rfl, h3, ?_⟩
    rw [hmap h3] at h2
    exact hnd.1 h2
  · rintro ⟨_, h3, h4⟩
    refine ⟨fun y hy => ?_, ?_⟩
    · obtain ⟨x, hx, rfl⟩ := List.mem_map.1 hy
      exact (hone x hx).2 (h3 x hx)
    · rw [hmap h3]
      exact hnd.2 h4

theorem spec_l1Has_l0 (x : Int) : ∀ (t p : List Int), p.length + t.length ≤ 35184372088832 →
    Ev (fun k => spec_l1Has.l0 k x (p ++ t) ((p ++ t).length : Int) (p.length : Int)) (decide (x ∈ t))
  | [], p, _ => by
    refine Ev.ret fun k => ?_
    rw [spec_l1Has.l0, if_neg (by simp)]
    simp
  | h :: t, p, hn => by
    have hn' : p.length + t.length + 1 ≤ 35184372088832 := by simpa [Nat.add_assoc] using hn
    have hm := len_mid p h t
    by_cases c : h = x
    · rw [decide_eq_true (by simp [c] : x ∈ h :: t)]
      refine Ev.ret fun k => ?_
      rw [spec_l1Has.l0, if_pos (by omega), if_pos (by omega), if_pos (by omega), rd_mid, if_pos c]
    · have ih := spec_l1Has_l0 x t (p ++ [h]) (by simp; omega)
      rw [app_snoc, len_snoc] at ih
      have e : decide (x ∈ h :: t) = decide (x ∈ t) := decide_eq_decide.2 (by simp [Ne.symm c])
      rw [e]
      refine Ev.step (fun k => ?_) ih
      show spec_l1Has.l0 (k + 1) x (p ++ h :: t) ((p ++ h :: t).length : Int) (p.length : Int) = _
      rw [spec_l1Has.l0, if_pos (by omega), if_pos (by omega), if_pos (by omega), rd_mid, if_neg c, w64 (by omega) (by omega)]
theorem ev_spec_l1Has (l : List Int) (x : Int) (hl : l.length ≤ 35184372088832) : Ev (fun k => spec_l1Has.f k l x) (decide (x ∈ l)) :=
  spec_l1Has_l0 x l [] (by simpa using hl)

theorem spec_trNames_l0 (L : List Int) (hl : L.length ≤ 35184372088832) : ∀ (d i : Nat), i + d = L.length →
    Ev (fun k => spec_trNames.l0 k L L (L.length : Int) (i : Int)) (dupB L d i)
  | 0, i, hd => by
    refine Ev.ret fun k => ?_
    rw [spec_trNames.l0, if_neg (by omega), dupB]
  | d + 1, i, hd => by
    have ih := spec_trNames_l0 L hl d (i + 1) (by omega)
    rw [show ((i + 1 : Nat) : Int) = (i : Int) + 1 by omega] at ih
    rw [dupB]
    refine Ev.step (f := fun k => (spec_l1Has.f k (L.take i) (rd L i)).bind fun t => if t = true then some false else spec_trNames.l0 k L L (L.length : Int) ((i : Int) + 1)) (fun k => ?_) (Ev.bind (ev_spec_l1Has (L.take i) (rd L i) (by simp; omega)) ?_)
    · rw [spec_trNames.l0, if_pos (by omega), if_pos (by omega), if_pos (by omega), if_pos (by omega), Int.toNat_natCast, w64 (by omega) (by omega)]
    · by_cases g : rd L i ∈ L.take i
      · rw [if_pos g]
        exact Ev.congr (fun k => by rw [if_pos (by simpa using g)]) (Ev.now _)
      · rw [if_neg g]
        exact Ev.congr (fun k => by rw [if_neg (by simpa using g)]) ih
theorem ev_spec_trNames (n : Nat) (m : List Int) (hm : m.length ≤ 35184372088832) : Ev (fun k => spec_trNames.f k (n : Int) m) (namesB n m) := by
  have no : Ev (fun k => spec_trNames.j0 k m true) false := Ev.ret fun k => by rw [spec_trNames.j0, if_pos rfl]
  by_cases c : (m.length : Int) = (n : Int)
  · refine Ev.congr (fun k => by rw [spec_trNames.f, if_pos c]) ?_
    refine Ev.bind (ev_spec_l1All m 1 n hm) ?_
    cases d : inAll 1 (n : Int) m with
    | false =>
      rw [show namesB n m = false by rw [namesB, d, Bool.false_and, Bool.and_false]]
      exact Ev.congr (fun k => by rw [Bool.not_false]) no
    | true =>
      rw [show namesB n m = dupB m m.length 0 by rw [namesB, decide_eq_true c, d, Bool.true_and, Bool.true_and, dupB_nodup]]
      refine Ev.step (fun k => by rw [spec_trNames.j0, if_neg (by simp)]) ?_
      exact spec_trNames_l0 m hm m.length 0 (by omega)
  · rw [show namesB n m = false by rw [namesB, decide_eq_false c, Bool.false_and]]
    exact Ev.congr (fun k => by rw [spec_trNames.f, if_neg c]) no

theorem mergeSort_srt (l : List Int) : (l.mergeSort fun x y => decide (x ≤ y)) = srt l := by
  refine up_unique _ _ ?_ (srt_up l) ((List.mergeSort_perm l _).trans (srt_perm l).symm)
  have h := List.pairwise_mergeSort (le := fun x y : Int => decide (x ≤ y)) (fun a b c h1 h2 => by simp at h1 h2 ⊢; omega) (fun a b => by simp; omega) l
  exact h.imp fun hab => by simpa using hab
theorem ev_impl_sortedL (l : List Int) (hl : l.length ≤ 10000000) : Ev (fun k => impl_sorted.f k l) (srt l) := by
  refine Ev.congr (fun k => ?_) (Ev.now (srt l))
  show impl_sorted.f k l = _
  rw [impl_sorted.f, if_pos hl, slices_Sort_int_int.f, if_pos (by omega), mergeSort_srt]

theorem impl_isOrder_l0 (l0 : List Int) : ∀ (t p : List Int), p.length + t.length ≤ 35184372088832 →
    Ev (fun k => impl_isOrder.l0 k l0 (p ++ t) ((p ++ t).length : Int) (p.length : Int)) (isUp t p.length && decide ((l0.length : Int) ≤ 8))
  | [], p, _ => by
    refine Ev.ret fun k => ?_
    rw [impl_isOrder.l0, if_neg (by simp), isUp, Bool.true_and]
  | h :: t, p, hn => by
    have hn' : p.length + t.length + 1 ≤ 35184372088832 := by simpa [Nat.add_assoc] using hn
    have hm := len_mid p h t
    rw [isUp]
    by_cases c : h = (p.length : Int)
    · have ih := impl_isOrder_l0 l0 t (p ++ [h]) (by simp; omega)
      rw [app_snoc p h t, len_snoc p h] at ih
      rw [decide_eq_true c, Bool.true_and]
      refine Ev.step (fun k => ?_) ih
      show impl_isOrder.l0 (k + 1) l0 (p ++ h :: t) ((p ++ h :: t).length : Int) (p.length : Int) = _
      rw [impl_isOrder.l0, if_pos (by omega), if_pos (by omega), if_pos (by omega), rd_mid, if_pos c, w64 (by omega) (by omega)]
    · rw [decide_eq_false c, Bool.false_and, Bool.false_and]
      refine Ev.ret fun k => ?_
      rw [impl_isOrder.l0, if_pos (by omega), if_pos (by omega), if_pos (by omega), rd_mid, if_neg c]
theorem ev_impl_isOrderL (l : List Int) (hl : l.length ≤ 10000000) : Ev (fun k => impl_isOrder.f k l) (isUp (srt l) 0 && decide ((l.length : Int) ≤ 8)) := by
  refine Ev.bind (ev_impl_sortedL l hl) ?_
  exact impl_isOrder_l0 l (srt l) [] (by have := (srt_perm l).length_eq; simp; omega)

theorem impl_areNames_l0 : ∀ (t p out : List Int) (r : Bool), p.length + t.length ≤ 10000000 → out.length ≤ p.length →
    Ev (fun k => impl_isOrder.f k (out ++ less1 t)) r →
    Ev (fun k => impl_areNames.l0 k out (p ++ t) ((p ++ t).length : Int) (p.length : Int)) r
  | [], p, out, r, _, _, H => by
    simp only [less1, List.map_nil, List.append_nil] at H
    refine Ev.step (f := fun k => (impl_isOrder.f k out).bind fun t => some t) (fun k => ?_) (Ev.bind H (Ev.now _))
    rw [impl_areNames.l0, if_neg (by simp)]
  | h :: t, p, out, r, hn, ho, H => by
    have hn' : p.length + t.length + 1 ≤ 10000000 := by simpa [Nat.add_assoc] using hn
    have hm := len_mid p h t
    have ih := impl_areNames_l0 t (p ++ [h]) (out ++ [wrap64 (h - 1)]) r (by simp; omega) (by simp; omega) (by simpa [less1] using H)
    rw [app_snoc p h t, len_snoc p h] at ih
    refine Ev.step (fun k => ?_) ih
    show impl_areNames.l0 (k + 1) out (p ++ h :: t) ((p ++ h :: t).length : Int) (p.length : Int) = _
    rw [impl_areNames.l0, if_pos (by omega), if_pos (by omega), if_pos (by omega), rd_mid, if_pos (by omega), w64 (x := (p.length : Int) + 1) (by omega) (by omega)]
theorem ev_impl_areNames (m : List Int) (hm : m.length ≤ 10000000) (hw : ∀ x ∈ m, -9223372036854775808 ≤ x ∧ x ≤ 9223372036854775807) : Ev (fun k => impl_areNames.f k m) (namesB m.length m && decide ((m.length : Int) ≤ 8)) := by
  refine impl_areNames_l0 m [] [] _ (by simpa using hm) (by simp) ?_
  have h := ev_impl_isOrderL (less1 m) (by simpa [less1] using hm)
  rw [less1_order m hw hm, show (less1 m).length = m.length by simp [less1]] at h
  exact h

theorem rd_set (l : List Int) (i j : Nat) (x : Int) (hi : i < l.length) : rd (l.set i x) (j : Int) = if j = i then x else rd l (j : Int) := by
  rw [rd_nat, rd_nat, List.getD_eq_getElem?_getD, List.getD_eq_getElem?_getD]
  by_cases c : j = i
  · rw [if_pos c, c, List.getElem?_set_self hi]; rfl
  · rw [if_neg c, List.getElem?_set_ne (fun e => c e.symm)]

/-- A tree with other names, from one node on. -/
def relabS (l m : List Int) : Nat → Nat → List Int → List Int
  | 0, _, out => out
  | d + 1, i, out => relabS l m d (i + 1) (out.set (rd m i - 1).toNat (if rd l i > 0 then rd m (rd l i - 1) else 0))
theorem relabS_length (l m : List Int) : ∀ (d i : Nat) (out : List Int), (relabS l m d i out).length = out.length
  | 0, _, _ => rfl
  | d + 1, i, out => by rw [relabS, relabS_length l m d]; simp
/-- What is not yet named is 0. -/
def Rest (m out : List Int) (i : Nat) : Prop := ∀ j : Nat, i ≤ j → j < m.length → rd out (rd m j - 1) = 0
theorem Rest.step {m out : List Int} {i : Nat} (h : Rest m out i) (hb : namesB m.length m = true) (ho : out.length = m.length) (hi : i < m.length) (v : Int) : Rest m (out.set (rd m i - 1).toNat v) (i + 1) := by
  obtain ⟨_, h2, h3⟩ := (namesB_iff _ _).1 hb
  intro j h4 h5
  have hj := h2 (rd m j) (rd_mem m j (by omega) (by omega))
  have hi2 := h2 (rd m i) (rd_mem m i (by omega) (by omega))
  have := rd_set out (rd m i - 1).toNat (rd m j - 1).toNat v (by omega)
  rw [show (((rd m j - 1).toNat : Nat) : Int) = rd m j - 1 by omega] at this
  rw [this, if_neg, h j (by omega) h5]
  intro e
  have e2 : rd m j = rd m i := by omega
  rw [rd_nat, rd_nat, List.getD_eq_getElem?_getD, List.getD_eq_getElem?_getD, List.getElem?_eq_getElem hi, List.getElem?_eq_getElem h5] at e2
  exact nodup_at h3 (show i < j by omega) h5 e2.symm
theorem set_same (l : List Int) (i : Nat) (hi : i < l.length) : l.set i (rd l (i : Int)) = l := by
  rw [rd_nat, List.getD_eq_getElem?_getD, List.getElem?_eq_getElem hi]
  exact List.set_getElem_self hi
theorem spec_RelabelTree_l0 (l m : List Int) (h8 : l.length ≤ 8) (hl : ∀ x ∈ l, 0 ≤ x ∧ x ≤ l.length) (hml : m.length = l.length) (hb : namesB m.length m = true) : ∀ (d i : Nat) (out : List Int), i + d = l.length → out.length = m.length → Rest m out i →
    Ev (fun k => spec_RelabelTree.l0 k m out l (l.length : Int) (i : Int)) (relabS l m d i out, true)
  | 0, i, out, hd, ho, hr => by
    refine Ev.ret fun k => ?_
    rw [spec_RelabelTree.l0, if_neg (by omega), relabS]
  | d + 1, i, out, hd, ho, hr => by
    obtain ⟨_, h2, h3⟩ := (namesB_iff _ _).1 hb
    have hp := hl (rd l i) (rd_mem l i (by omega) (by omega))
    have hn := h2 (rd m i) (rd_mem m i (by omega) (by omega))
    have ih := spec_RelabelTree_l0 l m h8 hl hml hb d (i + 1) (out.set (rd m i - 1).toNat (if rd l i > 0 then rd m (rd l i - 1) else 0)) (by omega) (by simp [ho]) (hr.step hb ho (by omega) _)
    rw [show ((i + 1 : Nat) : Int) = (i : Int) + 1 by omega] at ih
    rw [relabS]
    by_cases c : rd l i > 0
    · rw [if_pos c] at ih ⊢
      refine Ev.step (fun k => ?_) ih
      show spec_RelabelTree.l0 (k + 1) m out l (l.length : Int) (i : Int) = _
      rw [spec_RelabelTree.l0, w64 (x := rd l i - 1) (by omega) (by omega), w64 (x := rd m i - 1) (by omega) (by omega), if_pos (by omega), if_pos (by omega), if_pos (by omega), if_pos c, if_pos (by omega), if_pos (by omega), if_pos (by omega), if_pos (by omega), if_pos (by omega), w64 (by omega) (by omega)]
    · rw [if_neg c] at ih ⊢
      have hz := hr i (Nat.le_refl _) (by omega)
      have hss := set_same out (rd m i - 1).toNat (by omega)
      rw [show (((rd m i - 1).toNat : Nat) : Int) = rd m i - 1 by omega, hz] at hss
      rw [hss] at ih ⊢
      refine Ev.step (fun k => ?_) ih
      show spec_RelabelTree.l0 (k + 1) m out l (l.length : Int) (i : Int) = _
      rw [spec_RelabelTree.l0, if_pos (by omega), if_pos (by omega), if_pos (by omega), if_neg c, w64 (by omega) (by omega)]
theorem impl_RelabelTree_l0 (l m : List Int) (h8 : l.length ≤ 8) (hl : ∀ x ∈ l, 0 ≤ x ∧ x ≤ l.length) (hml : m.length = l.length) (hb : namesB m.length m = true) : ∀ (d i : Nat) (out : List Int), i + d = l.length → out.length = m.length →
    Ev (fun k => impl_RelabelTree.l0 k m out l (l.length : Int) (i : Int)) (relabS l m d i out, true)
  | 0, i, out, hd, ho => by
    refine Ev.ret fun k => ?_
    rw [impl_RelabelTree.l0, if_neg (by omega), relabS]
  | d + 1, i, out, hd, ho => by
    obtain ⟨_, h2, h3⟩ := (namesB_iff _ _).1 hb
    have hp := hl (rd l i) (rd_mem l i (by omega) (by omega))
    have hn := h2 (rd m i) (rd_mem m i (by omega) (by omega))
    have ih := impl_RelabelTree_l0 l m h8 hl hml hb d (i + 1) (out.set (rd m i - 1).toNat (if rd l i > 0 then rd m (rd l i - 1) else 0)) (by omega) (by simp [ho])
    rw [show ((i + 1 : Nat) : Int) = (i : Int) + 1 by omega] at ih
    rw [relabS]
    by_cases c : rd l i > 0
    · rw [if_pos c] at ih ⊢
      refine Ev.step (fun k => ?_) ih
      show impl_RelabelTree.l0 (k + 1) m out l (l.length : Int) (i : Int) = _
      rw [impl_RelabelTree.l0, w64 (x := rd l i - 1) (by omega) (by omega), w64 (x := rd m i - 1) (by omega) (by omega), if_pos (by omega), if_pos (by omega), if_pos (by omega), if_pos c, if_pos (by omega), if_pos (by omega), if_pos (by omega), if_pos (by omega), if_pos (by omega), w64 (by omega) (by omega)]
    · have hz : rd l i = 0 := by omega
      rw [if_neg c] at ih ⊢
      refine Ev.step (fun k => ?_) ih
      show impl_RelabelTree.l0 (k + 1) m out l (l.length : Int) (i : Int) = _
      rw [impl_RelabelTree.l0, w64 (x := rd m i - 1) (by omega) (by omega), if_pos (by omega), if_pos (by omega), if_pos (by omega), if_neg c, if_pos (by omega), if_pos (by omega), if_pos (by omega), w64 (by omega) (by omega), hz]
theorem relabelTree_both (l m : List Int) (hl : l.length ≤ 35184372088832) (hm : m.length ≤ 10000000) (hw : ∀ x ∈ m, (Lit.int .i64 x).wf = true) : ∃ r : List Int × Bool, r.1.length ≤ 35184372088832 ∧ Ev (fun k => spec_RelabelTree.f k l m) r ∧ Ev (fun k => impl_RelabelTree.f k l m) r := by
  have hw' : ∀ x ∈ m, -9223372036854775808 ≤ x ∧ x ≤ 9223372036854775807 := fun x hx => by
    have := hw x hx
    simpa [Lit.wf, IntKind.min, IntKind.max, IntKind.signed, IntKind.bits] using this
  have nos : Ev (fun k => spec_RelabelTree.j0 k l m true) (([] : List Int), false) := Ev.ret fun k => by rw [spec_RelabelTree.j0, if_pos rfl]
  have noi : Ev (fun k => impl_RelabelTree.j0 k l m true) (([] : List Int), false) := Ev.ret fun k => by rw [impl_RelabelTree.j0, if_pos rfl]
  cases c : isTr l with
  | false =>
    refine ⟨([], false), by simp, ?_, ?_⟩
    · refine Ev.congr (fun k => rfl) (Ev.bind (ev_spec_trGood l hl) ?_)
      rw [c]; exact nos
    · refine Ev.congr (fun k => rfl) (Ev.bind (ev_impl_isTree l hl) ?_)
      rw [c]; exact noi
  | true =>
    obtain ⟨h8, h2, _⟩ := (isTr_iff l).1 c
    have hs := ev_spec_trNames l.length m (by omega)
    have hi := ev_impl_areNames m hm hw'
    cases d : namesB l.length m with
    | false =>
      rw [d] at hs
      refine ⟨([], false), by simp, ?_, ?_⟩
      · refine Ev.congr (fun k => rfl) (Ev.bind (ev_spec_trGood l hl) ?_)
        rw [c]
        refine Ev.congr (fun k => by rw [if_pos rfl]) (Ev.bind hs ?_)
        exact Ev.congr (fun k => by rw [Bool.not_false]) nos
      · refine Ev.congr (fun k => rfl) (Ev.bind (ev_impl_isTree l hl) ?_)
        rw [c]
        refine Ev.congr (fun k => by rw [if_pos rfl]) (Ev.bind hi ?_)
        by_cases e : (m.length : Int) = (l.length : Int)
        · have e' : m.length = l.length := by omega
          rw [e', d, Bool.false_and]
          exact Ev.congr (fun k => by rw [if_neg (by simp)]) noi
        · cases f : namesB m.length m && decide ((m.length : Int) ≤ 8) with
          | false => exact Ev.congr (fun k => by rw [if_neg (by simp)]) noi
          | true => exact Ev.congr (fun k => by rw [if_pos rfl, show ((m.length : Int) != (l.length : Int)) = true by simpa using e]) noi
    | true =>
      rw [d] at hs
      obtain ⟨hml, _, _⟩ := (namesB_iff _ _).1 d
      have d' : namesB m.length m = true := by rw [hml]; exact d
      rw [d', decide_eq_true (show (m.length : Int) ≤ 8 by omega), Bool.true_and] at hi
      have hlen := relabS_length l m l.length 0 (List.replicate l.length 0)
      rw [List.length_replicate] at hlen
      refine ⟨(relabS l m l.length 0 (List.replicate l.length 0), true), by show (relabS l m l.length 0 (List.replicate l.length 0)).length ≤ _; omega, ?_, ?_⟩
      · refine Ev.congr (fun k => rfl) (Ev.bind (ev_spec_trGood l hl) ?_)
        rw [c]
        refine Ev.congr (fun k => by rw [if_pos rfl]) (Ev.bind hs ?_)
        refine Ev.step (fun k => by rw [Bool.not_true, spec_RelabelTree.j0, if_neg (by simp), if_pos (by omega), if_pos (by simpa using hl)]) ?_
        refine spec_RelabelTree_l0 l m h8 h2 hml d' l.length 0 _ (by omega) (by simp [hml]) fun j _ hj => ?_
        unfold rd
        rw [List.getD_eq_getElem?_getD]
        cases e : (List.replicate ((l.length : Nat) : Int).toNat (0 : Int))[(m.getD (j : Int).toNat 0 - 1).toNat]? with
        | none => rfl
        | some v => exact (List.mem_replicate.1 (List.mem_of_getElem? e)).2
      · refine Ev.congr (fun k => rfl) (Ev.bind (ev_impl_isTree l hl) ?_)
        rw [c]
        refine Ev.congr (fun k => by rw [if_pos rfl]) (Ev.bind hi ?_)
        refine Ev.congr (fun k => by rw [if_pos rfl, show ((m.length : Int) != (l.length : Int)) = false by simp [hml]]) ?_
        refine Ev.step (fun k => by rw [impl_RelabelTree.j0, if_neg (by simp), if_pos (by omega), if_pos (by simpa using hl)]) ?_
        exact impl_RelabelTree_l0 l m h8 h2 hml d' l.length 0 _ (by omega) (by simp [hml])

theorem FnExactRelabelTree : laws_FnExactRelabelTree.Pure := by
  intro l0 l1 _ _ _ _ _ hw1
  by_cases c0 : (l0.length : Int) > 1048576
  · refine ⟨0, ?_⟩
    rw [laws_FnExactRelabelTree.f, if_pos c0]
  by_cases c1 : (l1.length : Int) > 1048576
  · refine ⟨0, ?_⟩
    rw [laws_FnExactRelabelTree.f, if_neg c0, if_pos c1]
  have hl0 : l0.length ≤ 35184372088832 := by omega
  have hl1 : l1.length ≤ 35184372088832 := by omega
  obtain ⟨r, hr, hs, hi⟩ := relabelTree_both l0 l1 hl0 (by omega) hw1
  refine Ev.rounds ?_
  refine Ev.congr (fun k => by rw [laws_FnExactRelabelTree.f, if_neg c0, if_neg c1]) ?_
  refine Ev.bind (ev_toIntS l0 hl0) ?_
  refine Ev.bind (ev_toIntS l1 hl1) ?_
  refine Ev.bind (hs) ?_
  refine Ev.bind (ev_toIntS l0 hl0) ?_
  refine Ev.bind (ev_toIntS l1 hl1) ?_
  refine Ev.bind (hi) ?_
  refine Ev.bind (ev_eqIntS r.1 hr) ?_
  refine Ev.congr (fun k => by rw [if_pos rfl, bne_self_eq_false]) ?_
  refine Ev.step (fun k => by rw [laws_FnExactRelabelTree.j0, if_neg (by simp)]) ?_
  refine Ev.bind (ev_toIntS l0 hl0) ?_
  refine Ev.bind (ev_eqIntS l0 hl0) ?_
  refine Ev.congr (fun k => by rw [if_pos rfl]) ?_
  refine Ev.bind (ev_toIntS l1 hl1) ?_
  refine Ev.bind (ev_eqIntS l1 hl1) ?_
  refine Ev.congr (fun k => by rw [if_pos rfl]) ?_
  refine Ev.bind (ev_markIntS l0 (1) (by omega) (by omega) hl0) ?_
  refine Ev.bind (ev_markIntS l1 (1 + (l0.length : Int)) (by omega) (by omega) hl1) ?_
  refine Ev.congr (fun k => by rw [if_neg (by omega)]) ?_
  refine Ev.bind (ev_eqIntS r.1 hr) ?_
  refine Ev.congr (fun k => by rw [if_pos rfl, bne_self_eq_false]) ?_
  refine Ev.step (fun k => by rw [laws_FnExactRelabelTree.j1, if_neg (by simp)]) ?_
  refine Ev.bind (ev_markIntS r.1 1 (by omega) (by omega) hr) ?_
  refine Ev.bind (ev_heldIntS 1 r.1.length (by omega) (by omega) hr) ?_
  refine Ev.congr (fun k => by rw [if_neg (by omega), if_pos rfl]) ?_
  refine Ev.bind (ev_toIntS l0 hl0) ?_
  refine Ev.bind (ev_toIntS l1 hl1) ?_
  refine Ev.bind (hi) ?_
  refine Ev.bind (ev_eqIntS r.1 hr) ?_
  refine Ev.congr (fun k => by rw [if_pos rfl, bne_self_eq_false]) ?_
  refine Ev.step (fun k => by rw [laws_FnExactRelabelTree.j2, if_neg (by simp)]) ?_
  refine Ev.bind (ev_heldIntS 1 r.1.length (by omega) (by omega) hr) ?_
  refine Ev.congr (fun k => by rw [if_neg (by omega), if_pos rfl]) ?_
  exact Ev.now true

end Go.Proofs.Ytfgkcgedkhpigaa.Pure
