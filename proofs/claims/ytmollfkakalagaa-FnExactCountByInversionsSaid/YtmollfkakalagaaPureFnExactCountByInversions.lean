/- CountByInversions of the program and of the reference agree on every number, and nothing is shared. -/
import Derived.Test.YtmollfkakalagaaWSized
import Derived.Test.YtmollfkakalagaaPFnExactCountByInversionsx
namespace Go.Proofs.Ytmollfkakalagaa.PrintWords
open Go.ChangeShapes Go.WideShapes
/-- The word by the name that the printed row asks for. -/
theorem sized_ints {H : Type} {enc : TypeId × Value → H} {P : Program} {W : World} {base : Nat} {spare : Nat → Bool} {held : Bool} {t e : TypeId} {k : IntKind} {a : Option Addr} {len cap : Nat} {d : DataW H} {ps : List MemPlace} {ts : List TypeId} {ds : List (DataW H)} {j : Nat}
    (hsz : (DataW.weightsEach P ts ds).all (· ≤ reachBytes) = true) (ht : ts[j]? = some t) (hd : ds[j]? = some d) (hu : P.underlying t = some (.slice e)) (he : P.underlying e = some (.int k)) (hc : P.cellsOf e = 1) {B : Nat} (hB : P.bytesOf e = B)
    (h : DataW.Trod enc P W base spare held t (.slice a len cap) d ps) : len * B ≤ 140737488351232 :=
  Go.Proofs.YtmollfkakalagaaW.PrintWords.sized_ints hsz ht hd hu he hc hB h
end Go.Proofs.Ytmollfkakalagaa.PrintWords
namespace Go.Proofs.Ytmollfkakalagaa.Pure
open Go.RowKit Go.Proofs.Ytmollfkakalagaa.PFnExactCountByInversions Go.Proofs.YtmollfkakalagaaW.PrintWords Go.Proofs.YtmollfkakalagaaW.PrintLast
set_option linter.unusedVariables false
set_option linter.unusedSimpArgs false

theorem w64 {x : Int} (h0 : -9223372036854775808 ≤ x) (h1 : x ≤ 9223372036854775807) : wrap64 x = x := by
  unfold wrap64
  omega
theorem rd_mid (p : List Int) (h : Int) (t : List Int) : rd (p ++ h :: t) (p.length : Int) = h := by
  unfold rd
  simp
theorem rd_nat (l : List Int) (i : Nat) : rd l (i : Int) = l.getD i 0 := by
  unfold rd
  simp
theorem Ev.ret {α : Type} {g : Nat → Option α} {r : α} (h : ∀ k, g (k + 1) = some r) : Ev g r :=
  Ev.step (f := fun _ => some r) h (Ev.now r)

theorem eqIntS_l0 : ∀ (t p : List Int), p.length + t.length ≤ 35184372088832 →
    Ev (fun k => laws_eqIntS.l0 k (p ++ t) (p ++ t) (p.length : Int)) true
  | [], p, _ => by
    refine Ev.ret fun k => ?_
    rw [laws_eqIntS.l0, if_neg (by simp)]
  | h :: t, p, hn => by
    have hn' : p.length + t.length + 1 ≤ 35184372088832 := by simpa [Nat.add_assoc] using hn
    have ih := eqIntS_l0 t (p ++ [h]) (by simp; omega)
    have e1 : (p ++ [h]) ++ t = p ++ h :: t := by simp
    have e2 : (((p ++ [h]).length : Nat) : Int) = (p.length : Int) + 1 := by simp
    rw [e1, e2] at ih
    refine Ev.step (fun k => ?_) ih
    show laws_eqIntS.l0 (k + 1) (p ++ h :: t) (p ++ h :: t) (p.length : Int) = _
    rw [laws_eqIntS.l0, if_pos (by simp; omega), if_pos (by omega), if_pos (by simp; omega), rd_mid, if_pos rfl, w64 (by omega) (by omega)]
theorem ev_eqIntS (l : List Int) (h : l.length ≤ 35184372088832) : Ev (fun k => laws_eqIntS.f k l l) true := by
  have z := eqIntS_l0 l [] (by simpa using h)
  refine Ev.congr (fun k => ?_) z
  show laws_eqIntS.f k l l = _
  rw [laws_eqIntS.f, if_pos rfl]
  rfl

/-- n numbers from one on. -/
def marks (k : Int) : Nat → List Int
  | 0 => []
  | n + 1 => k :: marks (k + 1) n
theorem marks_length : ∀ (n : Nat) (k : Int), (marks k n).length = n
  | 0, _ => rfl
  | n + 1, k => by simp [marks, marks_length n]
theorem markIntS_l0 : ∀ (t p : List Int) (k : Int), 0 ≤ k → k + t.length ≤ 4611686018427387904 → p.length + t.length ≤ 35184372088832 →
    Ev (fun n => laws_markIntS.l0 n (p ++ t) k (p.length : Int)) (k + t.length, p ++ marks k t.length)
  | [], p, k, _, _, _ => by
    refine Ev.ret fun n => ?_
    rw [laws_markIntS.l0, if_neg (by simp)]
    simp [marks]
  | h :: t, p, k, h0, hk, hn => by
    have hn' : p.length + t.length + 1 ≤ 35184372088832 := by simpa [Nat.add_assoc] using hn
    have hk' : k + (t.length : Int) + 1 ≤ 4611686018427387904 := by simp at hk; omega
    have ih := markIntS_l0 t (p ++ [k]) (k + 1) (by omega) (by omega) (by simp; omega)
    have e1 : (p ++ [k]) ++ t = p ++ k :: t := by simp
    have e2 : (((p ++ [k]).length : Nat) : Int) = (p.length : Int) + 1 := by simp
    rw [e1, e2] at ih
    have e3 : ((k + ((h :: t).length : Int), p ++ marks k (h :: t).length) : Int × List Int) = (k + 1 + (t.length : Int), p ++ [k] ++ marks (k + 1) t.length) := by
      simp [marks]; omega
    rw [e3]
    refine Ev.step (fun n => ?_) ih
    show laws_markIntS.l0 (n + 1) (p ++ h :: t) k (p.length : Int) = _
    rw [laws_markIntS.l0, if_pos (by simp; omega), if_pos (by omega), w64 (by omega) (by omega), w64 (by omega) (by omega)]
    congr 1
    simp [List.set_append]
theorem ev_markIntS (l : List Int) (k : Int) (h0 : 0 ≤ k) (hk : k ≤ 4000000000000000000) (hl : l.length ≤ 35184372088832) : Ev (fun n => laws_markIntS.f n l k) (k + l.length, marks k l.length) :=
  markIntS_l0 l [] k h0 (by omega) (by simpa using hl)
theorem heldIntS_l0 : ∀ (m : Nat) (p : List Int) (k : Int), 0 ≤ k → k + m ≤ 4611686018427387904 → p.length + m ≤ 35184372088832 →
    Ev (fun n => laws_heldIntS.l0 n (p ++ marks k m) k (p.length : Int)) (k + m)
  | 0, p, k, _, _, _ => by
    refine Ev.ret fun n => ?_
    rw [laws_heldIntS.l0, if_neg (by simp [marks])]
    simp
  | m + 1, p, k, h0, hk, hn => by
    have ih := heldIntS_l0 m (p ++ [k]) (k + 1) (by omega) (by omega) (by simp; omega)
    have e1 : (p ++ [k]) ++ marks (k + 1) m = p ++ k :: marks (k + 1) m := by simp
    have e2 : (((p ++ [k]).length : Nat) : Int) = (p.length : Int) + 1 := by simp
    rw [e1, e2] at ih
    have e3 : k + ((m + 1 : Nat) : Int) = k + 1 + (m : Int) := by omega
    rw [e3]
    refine Ev.step (fun n => ?_) ih
    show laws_heldIntS.l0 (n + 1) (p ++ k :: marks (k + 1) m) k (p.length : Int) = _
    rw [laws_heldIntS.l0, if_pos (by simp; omega), if_pos (by omega), rd_mid, if_pos rfl, w64 (by omega) (by omega), w64 (by omega) (by omega)]
theorem ev_heldIntS (k : Int) (m : Nat) (h0 : 0 ≤ k) (hk : k ≤ 4000000000000000000) (hm : m ≤ 35184372088832) : Ev (fun n => laws_heldIntS.f n (marks k m) k) (k + m) :=
  heldIntS_l0 m [] k h0 (by omega) (by simpa using hm)

/-- One step of a walk along a list: what stands behind the place. -/
theorem len_snoc (p : List Int) (h : Int) : (((p ++ [h]).length : Nat) : Int) = (p.length : Int) + 1 := by simp
theorem app_snoc (p : List Int) (h : Int) (t : List Int) : (p ++ [h]) ++ t = p ++ h :: t := by simp
theorem len_mid (p : List Int) (h : Int) (t : List Int) : ((p ++ h :: t).length : Int) = (p.length : Int) + t.length + 1 := by simp; omega

/-- All numbers lie from lo to hi. -/
def inAll (lo hi : Int) (l : List Int) : Bool := l.all fun n => decide (lo ≤ n) && decide (n ≤ hi)
theorem inAll_iff (lo hi : Int) (l : List Int) : inAll lo hi l = true ↔ ∀ x ∈ l, lo ≤ x ∧ x ≤ hi := by
  simp [inAll, List.all_eq_true]
theorem inAll_cons (lo hi x : Int) (l : List Int) : inAll lo hi (x :: l) = ((decide (lo ≤ x) && decide (x ≤ hi)) && inAll lo hi l) := by
  simp [inAll]

/-- Parents lead to the root in so many steps at most. -/
def climb (par : List Int) : Nat → Int → Bool
  | 0, a => decide (a ≤ 0)
  | m + 1, a => if a > 0 then climb par m (rd par (a - 1)) else true
theorem climb_more (par : List Int) : ∀ (m : Nat) (a : Int), climb par m a = true → climb par (m + 1) a = true
  | 0, a, h => by
    simp only [climb, decide_eq_true_eq] at h
    simp only [climb]
    rw [if_neg (by omega)]
  | m + 1, a, h => by
    rw [climb]
    by_cases c : a > 0
    · rw [if_pos c]
      rw [climb, if_pos c] at h
      exact climb_more par m _ h
    · rw [if_neg c]
/-- The node so many steps above. -/
def up (par : List Int) : Nat → Int → Int
  | 0, a => a
  | m + 1, a => up par m (rd par (a - 1))
theorem climb_up (par : List Int) : ∀ (m : Nat) (a : Int), climb par m a = true ↔ ∃ j, j ≤ m ∧ up par j a ≤ 0
  | 0, a => by
    simp only [climb, decide_eq_true_eq]
    constructor
    · exact fun h => ⟨0, Nat.le_refl _, h⟩
    · rintro ⟨j, hj, h⟩
      obtain rfl : j = 0 := by omega
      exact h
  | m + 1, a => by
    rw [climb]
    by_cases c : a > 0
    · rw [if_pos c, climb_up par m]
      constructor
      · rintro ⟨j, hj, h⟩
        exact ⟨j + 1, by omega, h⟩
      · rintro ⟨j, hj, h⟩
        cases j with
        | zero => exact absurd h (by simp only [up]; omega)
        | succ j => exact ⟨j, by omega, h⟩
    · rw [if_neg c]
      exact ⟨fun _ => ⟨0, by omega, by simp only [up]; omega⟩, fun _ => rfl⟩
theorem up_add (par : List Int) : ∀ (i j : Nat) (a : Int), up par (i + j) a = up par j (up par i a)
  | 0, j, a => by rw [Nat.zero_add]; rfl
  | i + 1, j, a => by
    rw [Nat.add_right_comm]
    exact up_add par i j (rd par (a - 1))
/-- Of n + 1 numbers from 1 to n two are alike. -/
theorem two_alike : ∀ (n : Nat) (f : Nat → Int), (∀ i, i ≤ n → 1 ≤ f i ∧ f i ≤ n) → ∃ i j, i < j ∧ j ≤ n ∧ f i = f j
  | 0, f, h => by have := h 0 (by omega); omega
  | n + 1, f, h => by
    by_cases c : ∃ i, i ≤ n ∧ f i = f (n + 1)
    · obtain ⟨i, hi, e⟩ := c
      exact ⟨i, n + 1, by omega, by omega, e⟩
    · -- the last one's value is left out
      let g : Nat → Int := fun i => if f i > f (n + 1) then f i - 1 else f i
      have hg : ∀ i, i ≤ n → 1 ≤ g i ∧ g i ≤ n := by
        intro i hi
        have h1 := h i (by omega)
        have h2 := h (n + 1) (by omega)
        have h3 : f i ≠ f (n + 1) := fun e => c ⟨i, hi, e⟩
        show 1 ≤ (if f i > f (n + 1) then f i - 1 else f i) ∧ (if f i > f (n + 1) then f i - 1 else f i) ≤ n
        split <;> omega
      obtain ⟨i, j, hij, hj, e⟩ := two_alike n g hg
      have h3 : f i ≠ f (n + 1) := fun e => c ⟨i, by omega, e⟩
      have h4 : f j ≠ f (n + 1) := fun e => c ⟨j, by omega, e⟩
      refine ⟨i, j, hij, by omega, ?_⟩
      have e' : (if f i > f (n + 1) then f i - 1 else f i) = (if f j > f (n + 1) then f j - 1 else f j) := e
      split at e' <;> split at e' <;> omega
/-- What is reached in n + 1 steps is reached in n. -/
theorem climb_less (par : List Int) (hp : ∀ x ∈ par, 0 ≤ x ∧ x ≤ par.length) (a : Int) (ha0 : 0 ≤ a) (ha : a ≤ par.length) (h : climb par (par.length + 1) a = true) : climb par par.length a = true := by
  rw [climb_up] at h ⊢
  obtain ⟨j, hj, hu⟩ := h
  by_cases c : ∃ i, i ≤ par.length ∧ up par i a ≤ 0
  · exact c
  · exfalso
    have hpos : ∀ i, i ≤ par.length → 1 ≤ up par i a := fun i hi => by
      have : ¬ up par i a ≤ 0 := fun e => c ⟨i, hi, e⟩
      omega
    have hle : ∀ i, i ≤ par.length → up par i a ≤ par.length := by
      intro i
      induction i with
      | zero => intro _; exact ha
      | succ i ih =>
        intro hi
        have h1 := hpos i (by omega)
        have h2 := ih (by omega)
        rw [up_add par i 1]
        have hr : rd par (up par i a - 1) ∈ par := by
          unfold rd
          rw [List.getD_eq_getElem?_getD, List.getElem?_eq_getElem (by omega)]
          exact List.getElem_mem _
        exact (hp _ hr).2
    obtain ⟨i, k, hik, hk, e⟩ := two_alike par.length (fun i => up par i a) (fun i hi => ⟨hpos i hi, hle i hi⟩)
    have e : up par i a = up par k a := e
    -- j = n + 1: the same place stood earlier
    have hj' : j = par.length + 1 := by
      rcases Nat.lt_or_ge par.length j with h1 | h1
      · omega
      · exact absurd ⟨j, h1, hu⟩ c
    have e2 : up par j a = up par (i + (j - k)) a := by
      rw [show j = k + (j - k) by omega, up_add par k, up_add par i, ← e]
      congr 1
      omega
    have := hpos (i + (j - k)) (by omega)
    omega
/-- A tree: parents lead to the root from each node. -/
def isTr (par : List Int) : Bool := decide (par.length ≤ 8) && inAll 0 par.length par && (List.range par.length).all fun i => climb par par.length ((i : Int) + 1)

theorem nodup_at {l : List Int} (h : l.Nodup) {i j : Nat} (hi : i < j) (hj : j < l.length) : l[i]'(by omega) ≠ l[j] :=
  List.pairwise_iff_getElem.1 h i j (by omega) hj hi
theorem nodup_length (n : Nat) (l : List Int) (h : l.Nodup) (hr : ∀ v ∈ l, 0 ≤ v ∧ v ≤ n) : l.length ≤ n + 1 := by
  refine Classical.byContradiction fun c => ?_
  obtain ⟨i, j, hij, hj, e⟩ := two_alike (n + 1) (fun i => l.getD i 0 + 1) (fun i hi => by
    have hm : l.getD i 0 ∈ l := by
      rw [List.getD_eq_getElem?_getD, List.getElem?_eq_getElem (by omega)]
      exact List.getElem_mem _
    have := hr _ hm
    show 1 ≤ l.getD i 0 + 1 ∧ l.getD i 0 + 1 ≤ ((n + 1 : Nat) : Int)
    omega)
  have e2 : l.getD i 0 + 1 = l.getD j 0 + 1 := e
  rw [List.getD_eq_getElem?_getD, List.getD_eq_getElem?_getD, List.getElem?_eq_getElem (by omega), List.getElem?_eq_getElem (by omega)] at e2
  simp only [Option.getD_some] at e2
  exact nodup_at h hij (by omega) (by omega)

theorem rd_set (l : List Int) (i j : Nat) (x : Int) (hi : i < l.length) : rd (l.set i x) (j : Int) = if j = i then x else rd l (j : Int) := by
  rw [rd_nat, rd_nat, List.getD_eq_getElem?_getD, List.getD_eq_getElem?_getD]
  by_cases c : j = i
  · rw [if_pos c, c, List.getElem?_set_self hi]; rfl
  · rw [if_neg c, List.getElem?_set_ne (fun e => c e.symm)]

theorem rd_append (a b : List Int) (i : Int) (h0 : 0 ≤ i) (h1 : i < a.length) : rd (a ++ b) i = rd a i := by
  unfold rd
  rw [List.getD_eq_getElem?_getD, List.getD_eq_getElem?_getD, List.getElem?_append_left (by omega)]

theorem all_in : ∀ (n : Nat) (g : List Int), (∀ v : Int, 1 ≤ v → v ≤ n → v ∈ g) → n ≤ g.length
  | 0, g, _ => Nat.zero_le _
  | n + 1, g, h => by
    have hm : ((n + 1 : Nat) : Int) ∈ g := h _ (by omega) (by omega)
    have ih := all_in n (g.erase ((n + 1 : Nat) : Int)) fun v h1 h2 => (List.mem_erase_of_ne (by omega)).2 (h v h1 (by omega))
    rw [List.length_erase_of_mem hm] at ih
    have := List.length_pos_of_mem hm
    omega

/-- The greatest node up to a number that is neither gone nor to come. -/
def pk (gone rest : List Int) : Nat → Int
  | 0 => 0
  | d + 1 => if ((d : Int) + 1) ∉ gone ∧ ((d : Int) + 1) ∉ rest then (d : Int) + 1 else pk gone rest d
theorem pk_spec (gone rest : List Int) (u : Int) (hu : u ∉ gone ∧ u ∉ rest) (h1 : 1 ≤ u) : ∀ d : Nat, u ≤ d → (pk gone rest d ∉ gone ∧ pk gone rest d ∉ rest) ∧ 1 ≤ pk gone rest d ∧ pk gone rest d ≤ d
  | 0, h => by omega
  | d + 1, h => by
    rw [pk]
    by_cases c : ((d : Int) + 1) ∉ gone ∧ ((d : Int) + 1) ∉ rest
    · rw [if_pos c]
      exact ⟨c, by omega, by omega⟩
    · rw [if_neg c]
      have hd : u ≤ d := by
        refine Classical.byContradiction fun h2 => ?_
        have : u = (d : Int) + 1 := by omega
        rw [this] at hu
        exact absurd hu c
      obtain ⟨h3, h4, h5⟩ := pk_spec gone rest u hu h1 d hd
      exact ⟨h3, h4, by omega⟩
/-- What the word asks for is told by members alone. -/
theorem pk_congr (gone gone' rest rest' : List Int) (h : ∀ v : Int, 1 ≤ v → (v ∉ gone ∧ v ∉ rest ↔ v ∉ gone' ∧ v ∉ rest')) : ∀ d : Nat, pk gone rest d = pk gone' rest' d
  | 0 => rfl
  | d + 1 => by
    rw [pk, pk, pk_congr gone gone' rest rest' h d]
    by_cases c : ((d : Int) + 1) ∉ gone ∧ ((d : Int) + 1) ∉ rest
    · rw [if_pos c, if_pos ((h _ (by omega)).1 c)]
    · rw [if_neg c, if_neg (fun h2 => c ((h _ (by omega)).2 h2))]
/-- The nodes in the order in which they are taken away. -/
def gseq (n : Nat) : List Int → List Int → List Int
  | [], gone => gone
  | x :: t, gone => gseq n t (gone ++ [pk gone (x :: t) n])
/-- The parents that are told. -/
def outS (n : Nat) : List Int → List Int → List Int → List Int
  | [], _, out => out
  | x :: t, gone, out => outS n t (gone ++ [pk gone (x :: t) n]) (out.set (pk gone (x :: t) n - 1).toNat x)
/-- So many are taken away. -/
structure Sq (n : Nat) (whole gone : List Int) : Prop where
  nd : gone.Nodup
  range : ∀ v ∈ gone, 1 ≤ v ∧ v ≤ n
  le : gone.length ≤ n
  free : ∀ j : Nat, j < gone.length → rd gone (j : Int) ∉ whole.drop j
theorem rd_snoc_lt (l : List Int) (x : Int) (j : Nat) (h : j < l.length) : rd (l ++ [x]) (j : Int) = rd l (j : Int) := by
  rw [rd_nat, rd_nat, List.getD_eq_getElem?_getD, List.getD_eq_getElem?_getD, List.getElem?_append_left h]
theorem rd_snoc_eq (l : List Int) (x : Int) : rd (l ++ [x]) (l.length : Int) = x := by
  rw [rd_nat, List.getD_eq_getElem?_getD, List.getElem?_append_right (Nat.le_refl _)]
  simp
theorem rd_in (l : List Int) (j : Nat) (h : j < l.length) : rd l (j : Int) ∈ l := by
  rw [rd_nat, List.getD_eq_getElem?_getD, List.getElem?_eq_getElem h]
  exact List.getElem_mem h
theorem in_rd (l : List Int) (v : Int) (h : v ∈ l) : ∃ j : Nat, j < l.length ∧ rd l (j : Int) = v := by
  obtain ⟨j, hj, e⟩ := List.mem_iff_getElem.1 h
  refine ⟨j, hj, ?_⟩
  rw [rd_nat, List.getD_eq_getElem?_getD, List.getElem?_eq_getElem hj, e]
  rfl
theorem free_node (n : Nat) (l : List Int) (h : l.length < n) : ∃ u : Int, 1 ≤ u ∧ u ≤ n ∧ u ∉ l := by
  refine Classical.byContradiction fun hn => ?_
  have := all_in n l fun v h0 h1 => Classical.byContradiction fun h2 => hn ⟨v, h0, h1, h2⟩
  omega
theorem free_pk (n : Nat) (gone t : List Int) (h : gone.length + t.length < n) : ∃ u : Int, 1 ≤ u ∧ u ≤ n ∧ u ∉ gone ∧ u ∉ t ++ [0] := by
  obtain ⟨u, h0, h1, h2⟩ := free_node n (gone ++ t) (by simp; omega)
  rw [List.mem_append, not_or] at h2
  refine ⟨u, h0, h1, h2.1, fun hm => ?_⟩
  rcases List.mem_append.1 hm with h3 | h3
  · exact h2.2 h3
  · rw [List.mem_singleton] at h3; omega
theorem Sq.step {n : Nat} {word gone : List Int} (h : Sq n (word ++ [0]) gone) (hw : word.length + 1 = n) (hk : gone.length < n) :
    Sq n (word ++ [0]) (gone ++ [pk gone ((word ++ [0]).drop gone.length) n]) ∧ pk gone ((word ++ [0]).drop gone.length) n ∉ gone ∧ 1 ≤ pk gone ((word ++ [0]).drop gone.length) n ∧ pk gone ((word ++ [0]).drop gone.length) n ≤ n := by
  have hd : (word ++ [0]).drop gone.length = word.drop gone.length ++ [0] := by rw [List.drop_append_of_le_length (by omega)]
  obtain ⟨u, u0, u1, u2, u3⟩ := free_pk n gone (word.drop gone.length) (by rw [List.length_drop]; omega)
  rw [← hd] at u3
  obtain ⟨⟨p1, p2⟩, p3, p4⟩ := pk_spec gone ((word ++ [0]).drop gone.length) u ⟨u2, u3⟩ u0 n u1
  refine ⟨⟨?_, ?_, by simp; omega, ?_⟩, p1, p3, p4⟩
  · refine List.nodup_append.2 ⟨h.nd, by simp, ?_⟩
    intro a ha b hb e
    rw [List.mem_singleton] at hb
    exact p1 (by rw [← hb, ← e]; exact ha)
  · intro v hv
    rcases List.mem_append.1 hv with h2 | h2
    · exact h.range v h2
    · rw [List.mem_singleton] at h2; omega
  · intro j hj
    rw [List.length_append, List.length_singleton] at hj
    by_cases c : j < gone.length
    · rw [rd_snoc_lt _ _ _ c]
      exact h.free j c
    · obtain rfl : j = gone.length := by omega
      rw [rd_snoc_eq]
      exact p2
theorem Sq.none (n : Nat) (whole : List Int) : Sq n whole [] := ⟨by simp, by simp, by simp, by simp⟩
/-- What the two lists tell at the end. -/
structure Told (n : Nat) (whole E T : List Int) : Prop where
  sq : Sq n whole E
  len : E.length = n
  tlen : T.length = n
  at_ : ∀ j : Nat, j < n → rd T (rd E (j : Int) - 1) = rd whole (j : Int)
structure OutOk (n : Nat) (whole gone out : List Int) : Prop where
  len : out.length = n
  told : ∀ j : Nat, j < gone.length → rd out (rd gone (j : Int) - 1) = rd whole (j : Int)
  left : ∀ v : Int, 1 ≤ v → v ≤ n → v ∉ gone → rd out (v - 1) = -1
theorem rd_setI (l : List Int) (v u x : Int) (h0 : 1 ≤ v) (h1 : v ≤ l.length) (h2 : 1 ≤ u) : rd (l.set (v - 1).toNat x) (u - 1) = if u = v then x else rd l (u - 1) := by
  have := rd_set l (v - 1).toNat (u - 1).toNat x (by omega)
  rw [show (((u - 1).toNat : Nat) : Int) = u - 1 by omega] at this
  rw [this]
  by_cases c : u = v
  · rw [if_pos c, if_pos (by rw [c])]
  · rw [if_neg c, if_neg (by omega)]
theorem OutOk.step {n : Nat} {whole gone out : List Int} (h : OutOk n whole gone out) (hs : Sq n whole gone) {v : Int} (hv : v ∉ gone) (h0 : 1 ≤ v) (h1 : v ≤ n) : OutOk n whole (gone ++ [v]) (out.set (v - 1).toNat (rd whole (gone.length : Int))) := by
  have hl := h.len
  refine ⟨by simp [hl], ?_, ?_⟩
  · intro j hj
    rw [List.length_append, List.length_singleton] at hj
    by_cases c : j < gone.length
    · have hm := rd_in gone j c
      have hr := hs.range _ hm
      rw [rd_snoc_lt _ _ _ c, rd_setI _ _ _ _ h0 (by omega) hr.1, if_neg (fun e => hv (by rw [← e]; exact hm))]
      exact h.told j c
    · obtain rfl : j = gone.length := by omega
      rw [rd_snoc_eq, rd_setI _ _ _ _ h0 (by omega) h0, if_pos rfl]
  · intro u g0 g1 hu
    rw [List.mem_append, not_or, List.mem_singleton] at hu
    rw [rd_setI _ _ _ _ h0 (by omega) g0, if_neg hu.2]
    exact h.left u g0 g1 hu.1
theorem gseq_told (n : Nat) (word : List Int) (hw : word.length + 1 = n) : ∀ (d : Nat) (gone out : List Int), gone.length + d = n → Sq n (word ++ [0]) gone → OutOk n (word ++ [0]) gone out →
    Told n (word ++ [0]) (gseq n ((word ++ [0]).drop gone.length) gone) (outS n ((word ++ [0]).drop gone.length) gone out)
  | 0, gone, out, hd, hs, ho => by
    have hl : (word ++ [0]).length = n := by simp; omega
    rw [List.drop_eq_nil_of_le (by omega), gseq, outS]
    exact ⟨hs, by omega, ho.len, fun j hj => ho.told j (by omega)⟩
  | d + 1, gone, out, hd, hs, ho => by
    have hl : (word ++ [0]).length = n := by simp; omega
    obtain ⟨s1, s2, s3, s4⟩ := hs.step hw (by omega)
    have hc : (word ++ [0]).drop gone.length = rd (word ++ [0]) (gone.length : Int) :: (word ++ [0]).drop (gone.length + 1) := by
      rw [List.drop_eq_getElem_cons (by omega), rd_nat, List.getD_eq_getElem?_getD, List.getElem?_eq_getElem (by omega)]
      rfl
    have ih := gseq_told n word hw d (gone ++ [pk gone ((word ++ [0]).drop gone.length) n]) (out.set (pk gone ((word ++ [0]).drop gone.length) n - 1).toNat (rd (word ++ [0]) (gone.length : Int))) (by simp; omega) s1 (ho.step hs s2 s3 s4)
    rw [List.length_append, List.length_singleton] at ih
    rw [hc] at ih ⊢
    exact ih
theorem told_all (n : Nat) (word : List Int) (hw : word.length + 1 = n) : Told n (word ++ [0]) (gseq n (word ++ [0]) []) (outS n (word ++ [0]) [] (List.replicate n (-1))) := by
  refine gseq_told n word hw n [] (List.replicate n (-1)) (by simp) (Sq.none _ _) ⟨by simp, by simp, ?_⟩
  intro v h0 h1 _
  unfold rd
  rw [List.getD_eq_getElem?_getD, List.getElem?_replicate]
  rw [if_pos (by omega)]
  rfl
theorem Sq.covers {n : Nat} {whole E : List Int} (h : Sq n whole E) (hl : E.length = n) (v : Int) (h0 : 1 ≤ v) (h1 : v ≤ n) : ∃ j : Nat, j < n ∧ rd E (j : Int) = v := by
  have hm : v ∈ E := by
    refine Classical.byContradiction fun hn => ?_
    have := nodup_length n (0 :: v :: E) (by
      refine List.nodup_cons.2 ⟨?_, List.nodup_cons.2 ⟨hn, h.nd⟩⟩
      intro hz
      rcases List.mem_cons.1 hz with e | e
      · omega
      · have := h.range 0 e; omega) (by
      intro u hu
      rcases List.mem_cons.1 hu with e | e
      · omega
      · rcases List.mem_cons.1 e with e | e
        · omega
        · have := h.range u e; omega)
    simp at this
    omega
  obtain ⟨j, hj, e⟩ := in_rd E v hm
  exact ⟨j, by omega, e⟩
theorem Sq.inj {n : Nat} {whole E : List Int} (h : Sq n whole E) {i j : Nat} (hi : i < E.length) (hj : j < E.length) (e : rd E (i : Int) = rd E (j : Int)) : i = j := by
  rw [rd_nat, rd_nat, List.getD_eq_getElem?_getD, List.getD_eq_getElem?_getD, List.getElem?_eq_getElem hi, List.getElem?_eq_getElem hj] at e
  have e2 : E[i] = E[j] := e
  rcases Nat.lt_trichotomy i j with c | c | c
  · exact absurd e2 (nodup_at h.nd c hj)
  · exact c
  · exact absurd e2.symm (nodup_at h.nd c hi)
/-- A list of that length with the same parents is the same. -/
theorem Told.unique {n : Nat} {whole E T T' : List Int} (h : Told n whole E T) (hl : T'.length = n) (ha : ∀ j : Nat, j < n → rd T' (rd E (j : Int) - 1) = rd whole (j : Int)) : T' = T := by
  apply List.ext_getElem (by rw [hl, h.tlen])
  intro i h1 h2
  obtain ⟨j, hj, e⟩ := h.sq.covers h.len ((i : Int) + 1) (by omega) (by omega)
  have a1 := ha j hj
  have a2 := h.at_ j hj
  rw [e, show (i : Int) + 1 - 1 = (i : Int) by omega, rd_nat, List.getD_eq_getElem?_getD] at a1 a2
  rw [List.getElem?_eq_getElem h1] at a1
  rw [List.getElem?_eq_getElem h2] at a2
  exact a1.trans a2.symm
/-- A neighbour goes later, or is the root. -/
theorem Told.later {n : Nat} {word E T : List Int} (h : Told n (word ++ [0]) E T) (hw : word.length + 1 = n) (hx : ∀ x ∈ word, 0 ≤ x ∧ x ≤ n) (j : Nat) (hj : j < n) : rd (word ++ [0]) (j : Int) = 0 ∨ ∃ i : Nat, j < i ∧ i < n ∧ rd E (i : Int) = rd (word ++ [0]) (j : Int) := by
  have hl : (word ++ [0]).length = n := by simp; omega
  have hr : 0 ≤ rd (word ++ [0]) (j : Int) ∧ rd (word ++ [0]) (j : Int) ≤ n := by
    rcases List.mem_append.1 (rd_in (word ++ [0]) j (by omega)) with h1 | h1
    · exact hx _ h1
    · rw [List.mem_singleton] at h1; omega
  by_cases c : rd (word ++ [0]) (j : Int) = 0
  · exact .inl c
  · obtain ⟨i, hi, e⟩ := h.sq.covers h.len _ (by omega) hr.2
    refine .inr ⟨i, Classical.byContradiction fun hn => ?_, hi, e⟩
    refine h.sq.free i (by rw [h.len]; exact hi) ?_
    rw [e]
    have hi2 : i ≤ j := by omega
    rw [rd_nat, List.getD_eq_getElem?_getD, List.getElem?_eq_getElem (by omega)]
    show (word ++ [0])[j] ∈ _
    rw [List.mem_iff_getElem]
    refine ⟨j - i, by rw [List.length_drop]; omega, ?_⟩
    rw [List.getElem_drop]
    congr 1
    omega

/-- What is reached: 0 and nodes, each once. -/
structure Rch (n : Nat) (reached : List Int) : Prop where
  nd : reached.Nodup
  zero : 0 ∈ reached
  range : ∀ v ∈ reached, 0 ≤ v ∧ v ≤ n
theorem Rch.add {n : Nat} {reached : List Int} (h : Rch n reached) {v : Int} (hv : v ∉ reached) (h0 : 0 ≤ v) (h1 : v ≤ n) : Rch n (reached ++ [v]) := by
  refine ⟨List.nodup_append.2 ⟨h.nd, by simp, ?_⟩, List.mem_append_left _ h.zero, ?_⟩
  · intro a ha b hb e
    rw [List.mem_singleton] at hb
    exact hv (by rw [← hb, ← e]; exact ha)
  · intro u hu
    rcases List.mem_append.1 hu with h2 | h2
    · exact h.range u h2
    · rw [List.mem_singleton] at h2; omega

/-- How many steps lead to the root, of so many at most. -/
def hgt (par : List Int) : Nat → Int → Nat
  | 0, _ => 0
  | m + 1, a => if a > 0 then hgt par m (rd par (a - 1)) + 1 else 0
theorem hgt_more (par : List Int) : ∀ (m : Nat) (a : Int), climb par m a = true → hgt par (m + 1) a = hgt par m a
  | 0, a, h => by
    simp only [climb, decide_eq_true_eq] at h
    simp only [hgt]
    rw [if_neg (by omega)]
  | m + 1, a, h => by
    rw [climb] at h
    show (if a > 0 then hgt par (m + 1) (rd par (a - 1)) + 1 else 0) = (if a > 0 then hgt par m (rd par (a - 1)) + 1 else 0)
    by_cases c : a > 0
    · rw [if_pos c] at h
      rw [if_pos c, if_pos c, hgt_more par m _ h]
    · rw [if_neg c, if_neg c]
/-- The depth of a node. -/
def dep (par : List Int) (a : Int) : Nat := hgt par par.length a
theorem isTr_iff (par : List Int) : isTr par = true ↔ par.length ≤ 8 ∧ (∀ x ∈ par, 0 ≤ x ∧ x ≤ par.length) ∧ ∀ a : Int, 1 ≤ a → a ≤ par.length → climb par par.length a = true := by
  simp only [isTr, Bool.and_eq_true, decide_eq_true_eq, inAll_iff, List.all_eq_true, List.mem_range]
  constructor
  · rintro ⟨⟨h1, h2⟩, h3⟩
    refine ⟨h1, h2, fun a ha hb => ?_⟩
    have := h3 (a - 1).toNat (by omega)
    rwa [show (((a - 1).toNat : Nat) : Int) + 1 = a by omega] at this
  · rintro ⟨h1, h2, h3⟩
    exact ⟨⟨h1, h2⟩, fun i hi => h3 _ (by omega) (by omega)⟩
theorem rd_mem (l : List Int) (i : Int) (h0 : 0 ≤ i) (h1 : i < l.length) : rd l i ∈ l := by
  unfold rd
  rw [List.getD_eq_getElem?_getD, List.getElem?_eq_getElem (by omega)]
  exact List.getElem_mem _
/-- In a tree a node is one deeper than its parent. -/
theorem dep_step (par : List Int) (ht : isTr par = true) (a : Int) (h0 : 1 ≤ a) (h1 : a ≤ par.length) : dep par a = dep par (rd par (a - 1)) + 1 := by
  obtain ⟨_, h2, h3⟩ := (isTr_iff par).1 ht
  have hc := h3 a h0 h1
  unfold dep
  obtain ⟨m, hm⟩ : ∃ m, par.length = m + 1 := ⟨par.length - 1, by omega⟩
  rw [hm] at hc ⊢
  rw [climb, if_pos (by omega)] at hc
  rw [hgt, if_pos (by omega), hgt_more par m _ hc]

theorem spec_l1Has_l0 (x : Int) : ∀ (t p : List Int), p.length + t.length ≤ 35184372088832 →
    Ev (fun k => spec_l1Has.l0 k x (p ++ t) ((p ++ t).length : Int) (p.length : Int)) (decide (x ∈ t))
  | [], p, _ => by
    refine Ev.ret fun k => ?_
    rw [spec_l1Has.l0, if_neg (by simp)]
    simp
  | h :: t, p, hn => by
    have hn' : p.length + t.length + 1 ≤ 35184372088832 := by simpa [Nat.add_assoc] using hn
    have hm := len_mid p h t
    by_cases c : h = x
    · rw [decide_eq_true (by simp [c] : x ∈ h :: t)]
      refine Ev.ret fun k => ?_
      rw [spec_l1Has.l0, if_pos (by omega), if_pos (by omega), if_pos (by omega), rd_mid, if_pos c]
    · have ih := spec_l1Has_l0 x t (p ++ [h]) (by simp; omega)
      rw [app_snoc, len_snoc] at ih
      have e : decide (x ∈ h :: t) = decide (x ∈ t) := decide_eq_decide.2 (by simp [Ne.symm c])
      rw [e]
      refine Ev.step (fun k => ?_) ih
      show spec_l1Has.l0 (k + 1) x (p ++ h :: t) ((p ++ h :: t).length : Int) (p.length : Int) = _
      rw [spec_l1Has.l0, if_pos (by omega), if_pos (by omega), if_pos (by omega), rd_mid, if_neg c, w64 (by omega) (by omega)]
theorem ev_spec_l1Has (l : List Int) (x : Int) (hl : l.length ≤ 35184372088832) : Ev (fun k => spec_l1Has.f k l x) (decide (x ∈ l)) :=
  spec_l1Has_l0 x l [] (by simpa using hl)

/-- What the walk over the edges keeps: who is reached, by whom. -/
structure EInv (n : Nat) (E O par reached : List Int) : Prop where
  plen : par.length = n
  rch : Rch n reached
  inv : ∀ j : Nat, j < n → rd E (j : Int) ∈ reached → rd O (j : Int) ∈ reached ∧ rd par (rd E (j : Int) - 1) = rd O (j : Int)
def Closed (n : Nat) (E O reached : List Int) (u : Int) : Prop := ∀ j : Nat, j < n → rd O (j : Int) = u → rd E (j : Int) ∈ reached
theorem trEdgesV_l1 (n : Nat) (hn : n ≤ 1000) (E O T : List Int) (hE : E.length = n) (hO : O.length = n) (nd : ∀ i j : Nat, i < n → j < n → rd E (i : Int) = rd E (j : Int) → i = j) (rE : ∀ x ∈ E, 1 ≤ x ∧ x ≤ n) (k9 : Nat) (hk9 : k9 ≤ 2000) : ∀ (d i : Nat) (par reached : List Int), i + d = n → EInv n E O par reached → k9 < reached.length →
    (∀ m : Nat, m < k9 → Closed n E O reached (rd reached (m : Int))) → (∀ j : Nat, j < i → rd O (j : Int) = rd reached (k9 : Int) → rd E (j : Int) ∈ reached) →
    (∀ (p2 r2 : List Int), EInv n E O p2 r2 → k9 < r2.length → (∀ m : Nat, m < k9 + 1 → Closed n E O r2 (rd r2 (m : Int))) → Ev (fun k => spec_trEdges.l0 k E O p2 r2 ((k9 : Int) + 1)) T) →
    Ev (fun k => spec_trEdges.l1 k E O par reached (k9 : Int) (n : Int) (i : Int)) T
  | 0, i, par, reached, hd, hv, hk, hcl, hci, H => by
    refine Ev.step (fun k => ?_) (H par reached hv hk (fun m hm => ?_))
    · show spec_trEdges.l1 (k + 1) E O par reached (k9 : Int) (n : Int) (i : Int) = _
      rw [spec_trEdges.l1, if_neg (by omega), w64 (by omega) (by omega)]
    · by_cases c : m < k9
      · exact hcl m c
      · obtain rfl : m = k9 := by omega
        exact fun j hj e => hci j (by omega) e
  | d + 1, i, par, reached, hd, hv, hk, hcl, hci, H => by
    have hp := hv.plen
    have hr := hv.rch
    have he := rE (rd E i) (rd_mem E i (by omega) (by omega))
    have hlen := nodup_length n reached hr.nd hr.range
    have e1 : ((i + 1 : Nat) : Int) = (i : Int) + 1 := by omega
    have stay := fun (hst : rd O (i : Int) = rd reached (k9 : Int) → rd E (i : Int) ∈ reached) => trEdgesV_l1 n hn E O T hE hO nd rE k9 hk9 d (i + 1) par reached (by omega) hv hk hcl (fun j hj e => by
      by_cases c : j < i
      · exact hci j c e
      · obtain rfl : j = i := by omega
        exact hst e) H
    rw [e1] at stay
    by_cases c : rd O i = rd reached k9
    · have hom : rd O (i : Int) ∈ reached := by rw [c]; exact rd_in reached k9 hk
      by_cases g : rd E i ∈ reached
      · refine Ev.step (f := fun k => (spec_l1Has.f k reached (rd E i)).bind fun t => if t = true then spec_trEdges.l1 k E O par reached (k9 : Int) (n : Int) ((i : Int) + 1) else (if 0 ≤ (wrap64 ((rd E i) - 1)) then (if (wrap64 ((rd E i) - 1)) < (par.length : Int) then (if reached.length < 17592186044416 then (spec_trEdges.l1 k E O (par.set ((wrap64 ((rd E i) - 1)) : Int).toNat (rd O i)) (reached ++ [rd E i]) (k9 : Int) (n : Int) (wrap64 ((i : Int) + 1))) else (none)) else (none)) else (none))) (fun k => ?_) (Ev.bind (ev_spec_l1Has reached _ (by omega)) ?_)
        · rw [spec_trEdges.l1, if_pos (by omega), if_pos (by omega), if_pos (by omega), if_pos (by omega), if_pos (by omega), if_pos (by omega), if_pos c, w64 (x := (i : Int) + 1) (by omega) (by omega)]
        · exact Ev.congr (fun k => by rw [if_pos (by simpa using g)]) (stay fun _ => g)
      · have grow := trEdgesV_l1 n hn E O T hE hO nd rE k9 hk9 d (i + 1) (par.set (rd E i - 1).toNat (rd O i)) (reached ++ [rd E i]) (by omega) ⟨by simp [hp], hr.add g (by omega) he.2, fun j hj hm => by
            rw [rd_setI _ _ _ _ he.1 (by omega) (by have := rE _ (rd_in E j (by omega)); omega)]
            by_cases q : rd E (j : Int) = rd E (i : Int)
            · obtain rfl := nd j i hj (by omega) q
              rw [if_pos rfl]
              exact ⟨List.mem_append_left _ hom, rfl⟩
            · rw [if_neg q]
              rcases List.mem_append.1 hm with h2 | h2
              · obtain ⟨h3, h4⟩ := hv.inv j hj h2
                exact ⟨List.mem_append_left _ h3, h4⟩
              · rw [List.mem_singleton] at h2; exact absurd h2 q⟩ (by simp; omega)
            (fun m hm j hj e => List.mem_append_left _ (hcl m hm j hj (by rw [e, rd_snoc_lt _ _ _ (by omega)])))
            (fun j hj e => by
              rw [rd_snoc_lt _ _ _ hk] at e
              by_cases q : j < i
              · exact List.mem_append_left _ (hci j q e)
              · obtain rfl : j = i := by omega
                exact List.mem_append_right _ (by simp)) H
        rw [e1] at grow
        refine Ev.step (f := fun k => (spec_l1Has.f k reached (rd E i)).bind fun t => if t = true then spec_trEdges.l1 k E O par reached (k9 : Int) (n : Int) ((i : Int) + 1) else (if 0 ≤ (rd E i) - 1 then (if (rd E i) - 1 < (par.length : Int) then (if reached.length < 17592186044416 then (spec_trEdges.l1 k E O (par.set ((rd E i) - 1).toNat (rd O i)) (reached ++ [rd E i]) (k9 : Int) (n : Int) ((i : Int) + 1)) else (none)) else (none)) else (none))) (fun k => ?_) (Ev.bind (ev_spec_l1Has reached _ (by omega)) ?_)
        · rw [spec_trEdges.l1, if_pos (by omega), if_pos (by omega), if_pos (by omega), if_pos (by omega), if_pos (by omega), if_pos (by omega), if_pos c, w64 (x := (i : Int) + 1) (by omega) (by omega), w64 (by omega) (by omega)]
        · exact Ev.congr (fun k => by rw [if_neg (by simpa using g), if_pos (by omega), if_pos (by omega), if_pos (by omega)]) grow
    · by_cases c2 : rd E i = rd reached k9
      · have g : rd O i ∈ reached := (hv.inv i (by omega) (by rw [c2]; exact rd_in reached k9 hk)).1
        refine Ev.step (f := fun k => (spec_l1Has.f k reached (rd O i)).bind fun t => if t = true then spec_trEdges.l1 k E O par reached (k9 : Int) (n : Int) ((i : Int) + 1) else (if 0 ≤ (wrap64 ((rd O i) - 1)) then (if (wrap64 ((rd O i) - 1)) < (par.length : Int) then (if reached.length < 17592186044416 then (spec_trEdges.l1 k E O (par.set ((wrap64 ((rd O i) - 1)) : Int).toNat (rd E i)) (reached ++ [rd O i]) (k9 : Int) (n : Int) (wrap64 ((i : Int) + 1))) else (none)) else (none)) else (none))) (fun k => ?_) (Ev.bind (ev_spec_l1Has reached _ (by omega)) ?_)
        · rw [spec_trEdges.l1, if_pos (by omega), if_pos (by omega), if_pos (by omega), if_pos (by omega), if_pos (by omega), if_pos (by omega), if_neg c, if_pos c2, w64 (x := (i : Int) + 1) (by omega) (by omega)]
        · exact Ev.congr (fun k => by rw [if_pos (by simpa using g)]) (stay fun e => absurd e c)
      · refine Ev.step (fun k => ?_) (stay fun e => absurd e c)
        show spec_trEdges.l1 (k + 1) E O par reached (k9 : Int) (n : Int) (i : Int) = _
        rw [spec_trEdges.l1, if_pos (by omega), if_pos (by omega), if_pos (by omega), if_pos (by omega), if_pos (by omega), if_pos (by omega), if_neg c, if_neg c2, w64 (x := (i : Int) + 1) (by omega) (by omega)]
theorem trEdgesV_l0 (n : Nat) (hn : n ≤ 1000) (word E T : List Int) (h : Told n (word ++ [0]) E T) (hw : word.length + 1 = n) (hx : ∀ x ∈ word, 0 ≤ x ∧ x ≤ n) : ∀ (d k9 : Nat) (par reached : List Int), k9 + d = n + 1 → EInv n E (word ++ [0]) par reached → k9 ≤ reached.length → (∀ m : Nat, m < k9 → Closed n E (word ++ [0]) reached (rd reached (m : Int))) →
    Ev (fun k => spec_trEdges.l0 k E (word ++ [0]) par reached (k9 : Int)) T
  | d, k9, par, reached, hd, hv, hle, hcl => by
    have hl : (word ++ [0]).length = n := by simp; omega
    have hlen := nodup_length n reached hv.rch.nd hv.rch.range
    by_cases c : k9 < reached.length
    · match d, hd with
      | 0, hd => omega
      | d + 1, hd =>
      refine Ev.step (fun k => ?_) (trEdgesV_l1 n hn E (word ++ [0]) T h.len hl (fun i j hi hj e => h.sq.inj (by rw [h.len]; exact hi) (by rw [h.len]; exact hj) e) h.sq.range k9 (by omega) n 0 par reached (by omega) hv c hcl (fun j hj => by omega) (fun p2 r2 h3 h4 h5 => by
        have := trEdgesV_l0 n hn word E T h hw hx d (k9 + 1) p2 r2 (by omega) h3 (by omega) h5
        rw [show ((k9 + 1 : Nat) : Int) = (k9 : Int) + 1 by omega] at this
        exact this))
      show spec_trEdges.l0 (k + 1) E (word ++ [0]) par reached (k9 : Int) = _
      rw [spec_trEdges.l0, if_pos (by omega), h.len]
      rfl
    · have hall : ∀ (q j : Nat), j + q + 1 = n → rd E (j : Int) ∈ reached := by
        intro q
        induction q using Nat.strongRecOn with
        | _ q ih =>
          intro j hj
          rcases h.later hw hx j (by omega) with h0 | ⟨i, h1, h2, h3⟩
          · obtain ⟨m, hm, e⟩ := in_rd reached 0 hv.rch.zero
            exact hcl m (by omega) j (by omega) (by rw [h0, e])
          · have := ih (n - 1 - i) (by omega) i (by omega)
            rw [h3] at this
            obtain ⟨m, hm, e⟩ := in_rd reached _ this
            exact hcl m (by omega) j (by omega) e.symm
      have hT : par = T := h.unique hv.plen fun j hj => (hv.inv j hj (hall (n - 1 - j) j (by omega))).2
      refine Ev.ret fun k => ?_
      rw [spec_trEdges.l0, if_neg (by omega), hT]
theorem trEdges_val (n : Nat) (hn : n ≤ 1000) (word E T : List Int) (h : Told n (word ++ [0]) E T) (hw : word.length + 1 = n) (hx : ∀ x ∈ word, 0 ≤ x ∧ x ≤ n) : Ev (fun k => spec_trEdges.f k (n : Int) E (word ++ [0])) T := by
  have z := trEdgesV_l0 n hn word E T h hw hx (n + 1) 0 (List.replicate n 0) [0] (by omega) ⟨by simp, ⟨by simp, by simp, by simp⟩, fun j hj hm => by
    have := h.sq.range _ (rd_in E j (by rw [h.len]; exact hj))
    rw [List.mem_singleton] at hm
    omega⟩ (by simp) (fun m hm => by omega)
  exact Ev.congr (fun k => by rw [spec_trEdges.f, if_pos (by omega), if_pos (by omega)]; rfl) z

theorem trOfV_l1 (n : Nat) (hn : n ≤ 1000) (word gone others : List Int) (k : Nat) (x : Int) (L : List Int) (m : Int) (hk : k ≤ word.length) (hw : word.length ≤ 1000) (hg : gone.length ≤ 1000) (ho : others.length ≤ 1000)
    (u : Int) (h1 : 1 ≤ u) (hu : u ∉ gone ∧ u ∉ word.drop k) (r : List Int) : ∀ d : Nat, u ≤ d → d ≤ n →
    Ev (fun kk => spec_trOf.l0 kk word (n : Int) (gone ++ [pk gone (word.drop k) d]) (others ++ [x]) L m ((k : Int) + 1)) r →
    Ev (fun kk => spec_trOf.l1 kk word (n : Int) gone others (k : Int) x (d : Int) L m (k : Int)) r
  | 0, h, _, _ => by omega
  | d + 1, h, hd, H => by
    have ed : ((d + 1 : Nat) : Int) = (d : Int) + 1 := by omega
    rw [ed]
    have less : ((d : Int) + 1 ∈ gone ∨ (d : Int) + 1 ∈ word.drop k) → u ≤ d := fun hm => by
      refine Classical.byContradiction fun h2 => ?_
      have e : u = (d : Int) + 1 := by omega
      rw [e] at hu
      rcases hm with h3 | h3
      · exact hu.1 h3
      · exact hu.2 h3
    have ih := fun c => trOfV_l1 n hn word gone others k x L m hk hw hg ho u h1 hu r d c (by omega)
    rw [pk] at H
    by_cases g : (d : Int) + 1 ∈ gone
    · rw [if_neg (fun h2 => h2.1 g)] at H
      refine Ev.step (fun kk => by rw [spec_trOf.l1, w64 (x := (d : Int) + 1 - 1) (by omega) (by omega), show (d : Int) + 1 - 1 = (d : Int) by omega]) (Ev.bind (ev_spec_l1Has gone _ (by omega)) ?_)
      exact Ev.congr (fun kk => by rw [if_pos (by simpa using g)]) (ih (less (.inl g)) H)
    · by_cases g2 : (d : Int) + 1 ∈ word.drop k
      · rw [if_neg (fun h2 => h2.2 g2)] at H
        refine Ev.step (fun kk => by rw [spec_trOf.l1, w64 (x := (d : Int) + 1 - 1) (by omega) (by omega), show (d : Int) + 1 - 1 = (d : Int) by omega]) (Ev.bind (ev_spec_l1Has gone _ (by omega)) ?_)
        refine Ev.congr (fun kk => by rw [if_neg (by simpa using g), if_pos (by omega), if_pos (by omega), Int.toNat_natCast]) (Ev.bind (ev_spec_l1Has (word.drop k) _ (by simp; omega)) ?_)
        exact Ev.congr (fun kk => by rw [if_pos (by simpa using g2)]) (ih (less (.inr g2)) H)
      · rw [if_pos ⟨g, g2⟩] at H
        refine Ev.step (fun kk => by rw [spec_trOf.l1]) (Ev.bind (ev_spec_l1Has gone _ (by omega)) ?_)
        refine Ev.congr (fun kk => by rw [if_neg (by simpa using g), if_pos (by omega), if_pos (by omega), Int.toNat_natCast]) (Ev.bind (ev_spec_l1Has (word.drop k) _ (by simp; omega)) ?_)
        exact Ev.congr (fun kk => by rw [if_neg (by simpa using g2), if_pos (by omega), if_pos (by omega), w64 (by omega) (by omega)]) H
theorem only_left (n : Nat) (gone : List Int) (hs : gone.Nodup) (hr : ∀ v ∈ gone, 1 ≤ v ∧ v ≤ n) (hl : gone.length + 1 = n) (v u : Int) (h0 : 1 ≤ v) (h1 : v ≤ n) (hv : v ∉ gone) (g0 : 1 ≤ u) (g1 : u ≤ n) (hu : u ∉ gone) : v = u := by
  refine Classical.byContradiction fun hne => ?_
  have := nodup_length n (0 :: v :: u :: gone) (by
    refine List.nodup_cons.2 ⟨?_, List.nodup_cons.2 ⟨?_, List.nodup_cons.2 ⟨hu, hs⟩⟩⟩
    · intro hz
      rcases List.mem_cons.1 hz with e | e
      · omega
      · rcases List.mem_cons.1 e with e | e
        · omega
        · have := hr 0 e; omega
    · intro hz
      rcases List.mem_cons.1 hz with e | e
      · exact hne e
      · exact hv e) (by
    intro w hw
    rcases List.mem_cons.1 hw with e | e
    · omega
    · rcases List.mem_cons.1 e with e | e
      · omega
      · rcases List.mem_cons.1 e with e | e
        · omega
        · have := hr w e; omega)
  simp at this
  omega
theorem trOfV_l2 (n : Nat) (hn : n ≤ 1000) (gone others T : List Int) (hs : gone.Nodup) (hr : ∀ v ∈ gone, 1 ≤ v ∧ v ≤ n) (hol : others.length = gone.length) (hlen : gone.length + 1 = n) (u : Int) (h1 : 1 ≤ u) (hu : u ≤ n) (hug : u ∉ gone)
    (H : Ev (fun kk => spec_trEdges.f kk (n : Int) (gone ++ [u]) (others ++ [0])) T) : ∀ (d : Nat) (v : Int), 1 ≤ v → v + d = u →
    Ev (fun kk => spec_trOf.l2 kk (n : Int) gone others v) T
  | d, v, hv, hd => by
    by_cases g : v ∈ gone
    · match d, hd with
      | 0, hd => exact absurd (by rw [show u = v by omega]; exact g) hug
      | d + 1, hd =>
        have h3 := trOfV_l2 n hn gone others T hs hr hol hlen u h1 hu hug H d (v + 1) (by omega) (by omega)
        refine Ev.step (fun kk => by rw [spec_trOf.l2, if_pos (by omega), w64 (x := v + 1) (by omega) (by omega)]) (Ev.bind (ev_spec_l1Has gone _ (by omega)) ?_)
        exact Ev.congr (fun kk => by rw [if_pos (by simpa using g)]) h3
    · obtain rfl := only_left n gone hs hr hlen v u hv (by omega) g h1 hu hug
      refine Ev.step (fun kk => by rw [spec_trOf.l2, if_pos (by omega)]) (Ev.bind (ev_spec_l1Has gone _ (by omega)) ?_)
      exact Ev.congr (fun kk => by rw [if_neg (by simpa using g), if_pos (by omega), if_pos (by omega)]) (Ev.bind H (Ev.now _))
theorem trOfV_l0 (n : Nat) (hn : n ≤ 1000) (word T : List Int) (hw : word.length + 1 = n) (hx : ∀ x ∈ word, 0 ≤ x ∧ x ≤ n) (hT : Told n (word ++ [0]) (gseq n (word ++ [0]) []) T) : ∀ (d k : Nat) (gone : List Int), k + d = word.length → gone.length = k → Sq n (word ++ [0]) gone → gseq n ((word ++ [0]).drop k) gone = gseq n (word ++ [0]) [] →
    Ev (fun kk => spec_trOf.l0 kk word (n : Int) gone (word.take k) word (word.length : Int) (k : Int)) T
  | 0, k, gone, hd, hg, h, he => by
    have hk : k = word.length := by omega
    obtain ⟨s1, s2, s3, s4⟩ := h.step hw (by omega)
    have hdr : (word ++ [0]).drop gone.length = [0] := by rw [List.drop_append_of_le_length (by omega), List.drop_eq_nil_of_le (by omega)]; rfl
    rw [hdr] at s1 s2 s3 s4
    have e0 : (word ++ [0]).drop k = [0] := by rw [← hg]; exact hdr
    rw [e0, gseq, gseq] at he
    refine Ev.step (fun kk => by rw [spec_trOf.l0, if_neg (by omega)]) (trOfV_l2 n hn gone (word.take k) T h.nd h.range (by rw [List.length_take]; omega) (by omega) _ s3 s4 s2 ?_ (pk gone [0] n - 1).toNat 1 (by omega) (by omega))
    rw [he, show word.take k = word by rw [hk, List.take_length]]
    exact trEdges_val n hn word _ T hT hw hx
  | d + 1, k, gone, hd, hg, h, he => by
    obtain ⟨s1, s2, s3, s4⟩ := h.step hw (by omega)
    rw [hg] at s1 s2 s3 s4
    have hdr : (word ++ [0]).drop k = word.drop k ++ [0] := by rw [List.drop_append_of_le_length (by omega)]
    have hpk : ∀ d : Nat, pk gone ((word ++ [0]).drop k) d = pk gone (word.drop k) d := pk_congr _ _ _ _ fun v hv => by
      rw [hdr, List.mem_append, List.mem_singleton]
      constructor
      · rintro ⟨a, b⟩
        exact ⟨a, fun c => b (.inl c)⟩
      · rintro ⟨a, b⟩
        exact ⟨a, fun c => c.elim b (by omega)⟩
    have hc : (word ++ [0]).drop k = rd word (k : Int) :: (word ++ [0]).drop (k + 1) := by
      rw [List.drop_eq_getElem_cons (by simp; omega), rd_nat, List.getD_eq_getElem?_getD, List.getElem?_eq_getElem (by omega), List.getElem_append_left (by omega)]
      rfl
    have htk : word.take (k + 1) = word.take k ++ [rd word (k : Int)] := by
      rw [List.take_succ_eq_append_getElem (by omega), rd_nat, List.getD_eq_getElem?_getD, List.getElem?_eq_getElem (by omega)]
      rfl
    have ih := trOfV_l0 n hn word T hw hx hT d (k + 1) (gone ++ [pk gone ((word ++ [0]).drop k) n]) (by omega) (by simp [hg]) s1 (by
      rw [← he, hc, gseq])
    rw [show ((k + 1 : Nat) : Int) = (k : Int) + 1 by omega, htk, hpk] at ih
    obtain ⟨u, u0, u1, u2, u3⟩ := free_pk n gone (word.drop k) (by rw [List.length_drop]; omega)
    have u4 : u ∉ word.drop k := fun hm => u3 (List.mem_append_left _ hm)
    refine Ev.step (fun kk => by rw [spec_trOf.l0, if_pos (by omega), if_pos (by omega), if_pos (by omega)]) (trOfV_l1 n hn word gone (word.take k) k (rd word k) word (word.length : Int) (by omega) (by omega) (by omega) (by simp; omega) u u0 ⟨u2, u4⟩ T n u1 (Nat.le_refl _) ih)
/-- The tree of a word: the parents that are told. -/
def treeS (word : List Int) : List Int := outS (word.length + 1) (word ++ [0]) [] (List.replicate (word.length + 1) (-1))
theorem treeS_told (word : List Int) : Told (word.length + 1) (word ++ [0]) (gseq (word.length + 1) (word ++ [0]) []) (treeS word) := told_all (word.length + 1) word rfl
theorem ev_spec_trOf (word : List Int) (hw : word.length ≤ 900) (hx : ∀ x ∈ word, 0 ≤ x ∧ x ≤ (word.length : Int) + 1) : Ev (fun kk => spec_trOf.f kk word) (treeS word) := by
  have z := trOfV_l0 (word.length + 1) (by omega) word (treeS word) rfl (fun x h => by have := hx x h; omega) (treeS_told word) word.length 0 [] (by omega) rfl (Sq.none _ _) rfl
  exact Ev.congr (fun kk => by rw [spec_trOf.f, w64 (by omega) (by omega), show (word.length : Int) + 1 = ((word.length + 1 : Nat) : Int) by omega]; rfl) z

/-- How many numbers are so. -/
def cnt (q : Int → Bool) : List Int → Int
  | [] => 0
  | h :: t => (if q h = true then 1 else 0) + cnt q t
theorem cnt_range (q : Int → Bool) : ∀ l : List Int, 0 ≤ cnt q l ∧ cnt q l ≤ l.length
  | [] => by simp [cnt]
  | h :: t => by
    have := cnt_range q t
    have e : ((h :: t).length : Int) = (t.length : Int) + 1 := by simp
    simp only [cnt]
    rw [e]
    split <;> omega
theorem cnt_append (q : Int → Bool) : ∀ a b : List Int, cnt q (a ++ b) = cnt q a + cnt q b
  | [], b => by simp [cnt]
  | h :: t, b => by simp only [List.cons_append, cnt, cnt_append q t b]; omega

/-- The places of the numbers that are so. -/
def places (q : Int → Bool) : List Int → Int → List Int
  | [], _ => []
  | h :: t, i => if q h = true then i :: places q t (i + 1) else places q t (i + 1)
theorem places_length (q : Int → Bool) : ∀ (l : List Int) (i : Int), ((places q l i).length : Int) = cnt q l
  | [], i => by simp [places, cnt]
  | h :: t, i => by
    rw [places, cnt]
    have := places_length q t (i + 1)
    split
    · simp; omega
    · omega
theorem places_mem (q : Int → Bool) (x : Int) : ∀ (l : List Int) (i : Int), x ∈ places q l i ↔ ∃ j : Nat, ∃ v, l[j]? = some v ∧ q v = true ∧ x = i + j
  | [], i => by simp [places]
  | h :: t, i => by
    rw [places]
    have ih := places_mem q x t (i + 1)
    constructor
    · intro hx
      have : x = i ∧ q h = true ∨ x ∈ places q t (i + 1) := by
        split at hx
        · rename_i c
          rcases List.mem_cons.1 hx with h1 | h1
          · exact .inl ⟨h1, c⟩
          · exact .inr h1
        · exact .inr hx
      rcases this with ⟨h1, h2⟩ | h1
      · exact ⟨0, h, by simp, h2, by omega⟩
      · obtain ⟨j, v, h2, h3, h4⟩ := ih.1 h1
        exact ⟨j + 1, v, by simpa using h2, h3, by omega⟩
    · rintro ⟨j, v, h2, h3, h4⟩
      cases j with
      | zero =>
        have e : h = v := by simpa using h2
        rw [e, if_pos h3]
        exact List.mem_cons.2 (.inl (by omega))
      | succ j =>
        have h1 : x ∈ places q t (i + 1) := ih.2 ⟨j, v, by simpa using h2, h3, by omega⟩
        split
        · exact List.mem_cons_of_mem _ h1
        · exact h1
theorem places_rising (q : Int → Bool) : ∀ (l : List Int) (i : Int), (places q l i).Pairwise (· < ·)
  | [], i => by simp [places]
  | h :: t, i => by
    rw [places]
    split
    · rw [List.pairwise_cons]
      refine ⟨fun x hx => ?_, places_rising q t (i + 1)⟩
      obtain ⟨j, v, _, _, e⟩ := (places_mem q x t (i + 1)).1 hx
      omega
    · exact places_rising q t (i + 1)

/-- The children of a node or the root. -/
def kids (par : List Int) (v : Int) : List Int := (places (fun p => decide (p = v)) par 0).map (· + 1)
theorem kids_length (par : List Int) (v : Int) : ((kids par v).length : Int) = cnt (fun p => decide (p = v)) par := by
  rw [kids, List.length_map, places_length]

theorem kids_mem (par : List Int) (v x : Int) : x ∈ kids par v ↔ 1 ≤ x ∧ x ≤ par.length ∧ rd par (x - 1) = v := by
  rw [kids, List.mem_map]
  constructor
  · rintro ⟨y, hy, rfl⟩
    obtain ⟨j, w, h1, h2, h3⟩ := (places_mem _ _ _ _).1 hy
    have h4 := (List.getElem?_eq_some_iff.1 h1).1
    refine ⟨by omega, by omega, ?_⟩
    have h5 : w = v := by simpa using h2
    unfold rd
    rw [show (y + 1 - 1).toNat = j by omega, List.getD_eq_getElem?_getD, h1, ← h5]
    rfl
  · rintro ⟨h1, h2, h3⟩
    refine ⟨x - 1, (places_mem _ _ _ _).2 ⟨(x - 1).toNat, v, ?_, by simp, by omega⟩, by omega⟩
    unfold rd at h3
    rw [List.getD_eq_getElem?_getD, List.getElem?_eq_getElem (by omega)] at h3
    rw [List.getElem?_eq_getElem (by omega)]
    exact congrArg some h3
theorem kids_nodup (par : List Int) (v : Int) : (kids par v).Nodup := by
  rw [kids]
  refine List.pairwise_map.2 ((places_rising (fun p => decide (p = v)) par 0).imp ?_)
  intro a b h
  omega
/-- Breadth order as far as it has come: k nodes' children stand in it. -/
structure InB (par ord : List Int) (k : Nat) : Prop where
  nd : ord.Nodup
  le : k ≤ ord.length
  zero : 0 ∈ ord
  range : ∀ v ∈ ord, 0 ≤ v ∧ v ≤ par.length
  has : ∀ v : Int, 1 ≤ v → v ≤ par.length → (v ∈ ord ↔ rd par (v - 1) ∈ ord.take k)
theorem InB.first (par : List Int) : InB par [0] 0 :=
  ⟨by simp, by simp, by simp, by simp, by intro v h1 h2; simp; omega⟩
theorem InB.length {par ord : List Int} {k : Nat} (h : InB par ord k) : ord.length ≤ par.length + 1 := nodup_length par.length ord h.nd h.range
theorem InB.step {par ord : List Int} {k : Nat} (h : InB par ord k) (hk : k < ord.length) : InB par (ord ++ kids par (rd ord k)) (k + 1) := by
  have hrk : rd ord (k : Int) = ord[k] := by
    unfold rd
    rw [Int.toNat_natCast, List.getD_eq_getElem?_getD, List.getElem?_eq_getElem hk]
    rfl
  have hnt : rd ord (k : Int) ∉ ord.take k := by
    rw [hrk]
    intro hm
    obtain ⟨i, hi, e⟩ := List.mem_iff_getElem.1 hm
    rw [List.getElem_take] at e
    have : i < k := by simp at hi; omega
    exact nodup_at h.nd this hk e
  have htk : (ord ++ kids par (rd ord k)).take (k + 1) = ord.take k ++ [rd ord (k : Int)] := by
    rw [List.take_append_of_le_length (by omega), hrk, List.take_append_getElem]
  refine ⟨?_, by simp; omega, List.mem_append_left _ h.zero, ?_, ?_⟩
  · refine List.nodup_append.2 ⟨h.nd, kids_nodup par _, ?_⟩
    intro a ha b hb e
    obtain ⟨h1, h2, h3⟩ := (kids_mem par _ b).1 hb
    rw [e] at ha
    have := (h.has b h1 h2).1 ha
    rw [h3] at this
    exact hnt this
  · intro v hv
    rcases List.mem_append.1 hv with h1 | h1
    · exact h.range v h1
    · obtain ⟨h2, h3, _⟩ := (kids_mem par _ v).1 h1
      omega
  · intro v h1 h2
    rw [htk, List.mem_append, List.mem_append, h.has v h1 h2, kids_mem, List.mem_singleton]
    constructor
    · rintro (h3 | ⟨_, _, h3⟩)
      · exact .inl h3
      · exact .inr h3
    · rintro (h3 | h3)
      · exact .inl h3
      · exact .inr ⟨h1, h2, h3⟩
/-- Breadth order. -/
def bfs (par : List Int) : Nat → List Int → Nat → List Int
  | 0, ord, _ => ord
  | d + 1, ord, k => if k < ord.length then bfs par d (ord ++ kids par (rd ord k)) (k + 1) else ord
theorem bfs_in (par : List Int) : ∀ (d : Nat) (ord : List Int) (k : Nat), InB par ord k → par.length + 1 ≤ k + d → InB par (bfs par d ord k) (bfs par d ord k).length
  | 0, ord, k, h, hd => by
    have := h.length
    have := h.le
    rw [bfs]
    have e : k = ord.length := by omega
    rw [e] at h
    exact h
  | d + 1, ord, k, h, hd => by
    rw [bfs]
    by_cases c : k < ord.length
    · rw [if_pos c]
      exact bfs_in par d _ _ (h.step c) (by omega)
    · rw [if_neg c]
      have := h.le
      have e : k = ord.length := by omega
      rw [e] at h
      exact h
/-- The whole breadth order of a tree. -/
def breadthS (par : List Int) : List Int := bfs par (par.length + 1) [0] 0
theorem breadth_length (par : List Int) : (breadthS par).length ≤ par.length + 1 :=
  (bfs_in par (par.length + 1) [0] 0 (InB.first par) (by omega)).length

/-- A number put into an increasing list, unless it is there. -/
def putS (n : Int) : List Int → List Int
  | [] => [n]
  | h :: t => if h < n then h :: putS n t else if h = n then h :: t else n :: h :: t
theorem putS_mem (n x : Int) : ∀ l : List Int, x ∈ putS n l ↔ x = n ∨ x ∈ l
  | [] => by simp [putS]
  | h :: t => by
    rw [putS]
    split
    · rw [List.mem_cons, putS_mem n x t, List.mem_cons]
      constructor
      · rintro (h1 | h1 | h1)
        · exact .inr (.inl h1)
        · exact .inl h1
        · exact .inr (.inr h1)
      · rintro (h1 | h1 | h1)
        · exact .inr (.inl h1)
        · exact .inl h1
        · exact .inr (.inr h1)
    · split
      · rename_i e
        rw [List.mem_cons, e]
        constructor
        · exact fun h1 => .inr h1
        · rintro (h1 | h1)
          · exact .inl h1
          · exact h1
      · simp [List.mem_cons]
theorem putS_length_le (n : Int) : ∀ l : List Int, (putS n l).length ≤ l.length + 1
  | [] => by simp [putS]
  | h :: t => by
    rw [putS]
    have := putS_length_le n t
    split
    · simp; omega
    · split <;> simp
theorem putS_length (n : Int) : ∀ l : List Int, n ∉ l → (putS n l).length = l.length + 1
  | [], _ => by simp [putS]
  | h :: t, hn => by
    rw [putS]
    split
    · have := putS_length n t (fun h1 => hn (by simp [h1]))
      simp [this]
    · rw [if_neg (fun e => hn (by simp [e]))]
      simp
theorem putS_rising (n : Int) : ∀ l : List Int, l.Pairwise (· < ·) → (putS n l).Pairwise (· < ·)
  | [], _ => by simp [putS]
  | h :: t, hp => by
    rw [List.pairwise_cons] at hp
    rw [putS]
    split
    · rename_i c
      rw [List.pairwise_cons]
      refine ⟨fun x hx => ?_, putS_rising n t hp.2⟩
      rcases (putS_mem n x t).1 hx with rfl | h1
      · exact c
      · exact hp.1 x h1
    · split
      · exact List.pairwise_cons.2 hp
      · rw [List.pairwise_cons]
        refine ⟨fun x hx => ?_, List.pairwise_cons.2 hp⟩
        rcases List.mem_cons.1 hx with rfl | h1
        · omega
        · have := hp.1 x h1; omega
/-- The nodes i + 1, i + 2, .. whose parent is the node, put into a list. -/
def nearFrom (node : Int) (out : List Int) : Int → List Int → List Int
  | _, [] => out
  | i, p :: t => nearFrom node (if p = node then putS (i + 1) out else out) (i + 1) t
theorem nearFrom_length_le (node : Int) : ∀ (t : List Int) (out : List Int) (i : Int), (nearFrom node out i t).length ≤ out.length + t.length
  | [], out, i => by simp [nearFrom]
  | p :: t, out, i => by
    rw [nearFrom]
    have h1 := nearFrom_length_le node t (if p = node then putS (i + 1) out else out) (i + 1)
    have h2 := putS_length_le (i + 1) out
    by_cases c : p = node
    · rw [if_pos c] at h1 ⊢; simp; omega
    · rw [if_neg c] at h1 ⊢; simp; omega
theorem nearFrom_length (node : Int) : ∀ (t : List Int) (out : List Int) (i : Int), (∀ j : Nat, t[j]? = some node → i + j + 1 ∉ out) →
    ((nearFrom node out i t).length : Int) = out.length + cnt (fun p => decide (p = node)) t
  | [], out, i, _ => by simp [nearFrom, cnt]
  | p :: t, out, i, h => by
    rw [nearFrom, cnt]
    by_cases c : p = node
    · have h0 : i + 1 ∉ out := by simpa using h 0 (by simp [c])
      rw [if_pos c, if_pos (by simp [c])]
      rw [nearFrom_length node t (putS (i + 1) out) (i + 1) (fun j hj => ?_), putS_length _ _ h0]
      · omega
      · rw [putS_mem]
        have h2 := h (j + 1) (by simpa using hj)
        rintro (h3 | h3)
        · omega
        · exact h2 (by rw [show i + ((j + 1 : Nat) : Int) + 1 = i + 1 + j + 1 by omega]; exact h3)
    · rw [if_neg c, if_neg (by simp [c])]
      rw [nearFrom_length node t out (i + 1) (fun j hj => ?_)]
      · omega
      · have h2 := h (j + 1) (by simpa using hj)
        rw [show i + ((j + 1 : Nat) : Int) + 1 = i + 1 + j + 1 by omega] at h2
        exact h2
theorem nearFrom_mem (node x : Int) : ∀ (t : List Int) (out : List Int) (i : Int), x ∈ nearFrom node out i t ↔ x ∈ out ∨ ∃ j : Nat, t[j]? = some node ∧ x = i + j + 1
  | [], out, i => by simp [nearFrom]
  | p :: t, out, i => by
    rw [nearFrom, nearFrom_mem node x t]
    constructor
    · rintro (h | ⟨j, hj, e⟩)
      · split at h
        · rename_i c
          rcases (putS_mem _ _ _).1 h with rfl | h1
          · exact .inr ⟨0, by simp [c], by simp⟩
          · exact .inl h1
        · exact .inl h
      · exact .inr ⟨j + 1, by simpa using hj, by omega⟩
    · rintro (h | ⟨j, hj, e⟩)
      · left
        split
        · exact (putS_mem _ _ _).2 (.inr h)
        · exact h
      · cases j with
        | zero =>
          left
          have c : p = node := by simpa using hj
          rw [if_pos c]
          exact (putS_mem _ _ _).2 (.inl (by omega))
        | succ j => exact .inr ⟨j, by simpa using hj, by omega⟩
theorem nearFrom_rising (node : Int) : ∀ (t : List Int) (out : List Int) (i : Int), out.Pairwise (· < ·) → (nearFrom node out i t).Pairwise (· < ·)
  | [], out, i, h => h
  | p :: t, out, i, h => by
    rw [nearFrom]
    refine nearFrom_rising node t _ (i + 1) ?_
    split
    · exact putS_rising _ _ h
    · exact h
/-- The neighbours of a node or the root. -/
def near (par : List Int) (node : Int) : List Int := nearFrom node (if node > 0 then [rd par (node - 1)] else []) 0 par

/-- In a tree a parent is no child. -/
theorem no_turn (par : List Int) (ht : isTr par = true) (node : Int) (h0 : 1 ≤ node) (h1 : node ≤ par.length) (j : Nat) (hj : par[j]? = some node) : rd par (node - 1) ≠ (j : Int) + 1 := by
  intro e
  have hjl : j < par.length := (List.getElem?_eq_some_iff.1 hj).1
  have d1 := dep_step par ht node h0 h1
  have d2 := dep_step par ht ((j : Int) + 1) (by omega) (by omega)
  have e2 : rd par ((j : Int) + 1 - 1) = node := by
    rw [show (j : Int) + 1 - 1 = (j : Int) by omega, rd_nat, List.getD_eq_getElem?_getD, hj]
    rfl
  rw [e] at d1
  rw [e2] at d2
  omega
theorem near_len (par : List Int) (ht : isTr par = true) (node : Int) (h0 : 0 ≤ node) (h1 : node ≤ par.length) :
    ((near par node).length : Int) = (if node > 0 then 1 else 0) + cnt (fun p => decide (p = node)) par := by
  unfold near
  by_cases c : node > 0
  · rw [if_pos c, if_pos c, nearFrom_length]
    · simp
    · intro j hj
      have := no_turn par ht node (by omega) h1 j hj
      simp
      omega
  · rw [if_neg c, if_neg c, nearFrom_length]
    · simp
    · simp
theorem cnt_zero (node : Int) : ∀ l : List Int, cnt (fun p => decide (p = node)) l = 0 ↔ node ∉ l
  | [] => by simp [cnt]
  | h :: t => by
    have ih := cnt_zero node t
    have := cnt_range (fun p => decide (p = node)) t
    rw [cnt]
    by_cases c : h = node
    · rw [if_pos (by simp [c])]
      constructor
      · intro e; omega
      · intro e; exact absurd (by simp [c]) e
    · rw [if_neg (by simp [c]), Int.zero_add, ih]
      simp [Ne.symm c]

theorem hgt_le (par : List Int) : ∀ (m : Nat) (a : Int), hgt par m a ≤ m
  | 0, a => Nat.le_refl _
  | m + 1, a => by
    have := hgt_le par m (rd par (a - 1))
    rw [hgt]
    split <;> omega

/-- A node that stays and whose children are gone. -/
def leafB (par gone : List Int) (v : Int) : Bool := decide (v ∉ gone) && (kids par v).all fun c => decide (c ∈ gone)
theorem leafB_iff (par gone : List Int) (v : Int) : leafB par gone v = true ↔ v ∉ gone ∧ ∀ c, c ∈ kids par v → c ∈ gone := by
  simp only [leafB, Bool.and_eq_true, decide_eq_true_eq, List.all_eq_true]
/-- The largest leaf up to a node. -/
def pickD (par gone : List Int) : Nat → Int
  | 0 => 0
  | d + 1 => if leafB par gone ((d : Int) + 1) = true then (d : Int) + 1 else pickD par gone d
theorem pickD_spec (par gone : List Int) (u : Int) (hu : leafB par gone u = true) (h1 : 1 ≤ u) : ∀ d : Nat, u ≤ d → leafB par gone (pickD par gone d) = true ∧ 1 ≤ pickD par gone d ∧ pickD par gone d ≤ d
  | 0, h => by omega
  | d + 1, h => by
    rw [pickD]
    by_cases c : leafB par gone ((d : Int) + 1) = true
    · rw [if_pos c]
      exact ⟨c, by omega, by omega⟩
    · rw [if_neg c]
      have hd : u ≤ d := by
        refine Classical.byContradiction fun h2 => ?_
        have : u = (d : Int) + 1 := by omega
        rw [this] at hu
        exact absurd hu c
      obtain ⟨h3, h4, h5⟩ := pickD_spec par gone u hu h1 d hd
      exact ⟨h3, h4, by omega⟩
/-- What is gone is nodes, each once, with all their children. -/
structure Gone (par gone : List Int) : Prop where
  nd : gone.Nodup
  range : ∀ v ∈ gone, 1 ≤ v ∧ v ≤ par.length
  closed : ∀ v ∈ gone, ∀ c, c ∈ kids par v → c ∈ gone
theorem Gone.none (par : List Int) : Gone par [] := ⟨by simp, by simp, by simp⟩
theorem Gone.add {par gone : List Int} (h : Gone par gone) {v : Int} (hv : leafB par gone v = true) (h0 : 1 ≤ v) (h1 : v ≤ par.length) : Gone par (gone ++ [v]) := by
  obtain ⟨h2, h3⟩ := (leafB_iff par gone v).1 hv
  refine ⟨?_, ?_, ?_⟩
  · refine List.nodup_append.2 ⟨h.nd, by simp, ?_⟩
    intro a ha b hb e
    rw [List.mem_singleton] at hb
    exact h2 (by rw [← hb, ← e]; exact ha)
  · intro u hu
    rcases List.mem_append.1 hu with h4 | h4
    · exact h.range u h4
    · rw [List.mem_singleton] at h4
      omega
  · intro u hu c hc
    rcases List.mem_append.1 hu with h4 | h4
    · exact List.mem_append_left _ (h.closed u h4 c hc)
    · rw [List.mem_singleton] at h4
      exact List.mem_append_left _ (h3 c (by rw [← h4]; exact hc))
theorem leaf_from (par gone : List Int) (ht : isTr par = true) : ∀ (m : Nat) (v : Int), 1 ≤ v → v ≤ par.length → v ∉ gone → par.length + 1 ≤ m + dep par v → ∃ u, leafB par gone u = true ∧ 1 ≤ u ∧ u ≤ par.length
  | 0, v, _, _, _, h => by
    have : dep par v ≤ par.length := hgt_le par par.length v
    omega
  | m + 1, v, h0, h1, hg, h => by
    by_cases c : leafB par gone v = true
    · exact ⟨v, c, h0, h1⟩
    · have : ∃ w, w ∈ kids par v ∧ w ∉ gone := by
        refine Classical.byContradiction fun hn => c ((leafB_iff par gone v).2 ⟨hg, fun w hw => ?_⟩)
        exact Classical.byContradiction fun h2 => hn ⟨w, hw, h2⟩
      obtain ⟨w, hw, hwg⟩ := this
      obtain ⟨h2, h3, h4⟩ := (kids_mem par v w).1 hw
      have hd := dep_step par ht w h2 h3
      rw [h4] at hd
      exact leaf_from par gone ht m w h2 h3 hwg (by omega)
theorem leaf_there (par gone : List Int) (ht : isTr par = true) (h : gone.length < par.length) : ∃ u, leafB par gone u = true ∧ 1 ≤ u ∧ u ≤ par.length := by
  have : ∃ v : Int, 1 ≤ v ∧ v ≤ par.length ∧ v ∉ gone := by
    refine Classical.byContradiction fun hn => ?_
    have := all_in par.length gone fun v h0 h1 => Classical.byContradiction fun h2 => hn ⟨v, h0, h1, h2⟩
    omega
  obtain ⟨v, h0, h1, h2⟩ := this
  exact leaf_from par gone ht (par.length + 1) v h0 h1 h2 (by omega)
/-- The word of a tree, so many steps on. -/
def prufS (par : List Int) : Nat → List Int → List Int → List Int
  | 0, _, word => word
  | s + 1, gone, word => prufS par s (gone ++ [pickD par gone par.length]) (word ++ [rd par (pickD par gone par.length - 1)])
theorem prufS_length (par : List Int) : ∀ (s : Nat) (gone word : List Int), (prufS par s gone word).length = word.length + s
  | 0, _, _ => rfl
  | s + 1, gone, word => by
    rw [prufS, prufS_length par s]
    simp
    omega

theorem near_mem (par : List Int) (v x : Int) (h0 : 1 ≤ v) : x ∈ near par v ↔ x = rd par (v - 1) ∨ x ∈ kids par v := by
  rw [near, if_pos (by omega), nearFrom_mem, List.mem_singleton, kids_mem]
  constructor
  · rintro (h | ⟨j, hj, e⟩)
    · exact .inl h
    · have := (List.getElem?_eq_some_iff.1 hj).1
      refine .inr ⟨by omega, by omega, ?_⟩
      unfold rd
      rw [show (x - 1).toNat = j by omega, List.getD_eq_getElem?_getD, hj]
      rfl
  · rintro (h | ⟨h1, h2, h3⟩)
    · exact .inl h
    · refine .inr ⟨(x - 1).toNat, ?_, by omega⟩
      unfold rd at h3
      rw [List.getD_eq_getElem?_getD, List.getElem?_eq_getElem (by omega)] at h3
      rw [List.getElem?_eq_getElem (by omega)]
      exact congrArg some h3
theorem near_rising (par : List Int) (v : Int) (h0 : 1 ≤ v) : (near par v).Pairwise (· < ·) := by
  rw [near, if_pos (by omega)]
  exact nearFrom_rising v par _ 0 (by simp)
/-- The neighbours that are left. -/
def leftOf (par gone : List Int) (v : Int) : List Int := (near par v).filter fun x => !decide (x ∈ gone)
theorem parent_stays {par gone : List Int} (h : Gone par gone) (v : Int) (h0 : 1 ≤ v) (h1 : v ≤ par.length) (hv : v ∉ gone) : rd par (v - 1) ∉ gone := by
  intro hm
  exact hv (h.closed _ hm v ((kids_mem par _ v).2 ⟨h0, h1, rfl⟩))
theorem leftOf_leaf {par gone : List Int} (h : Gone par gone) (v : Int) (h0 : 1 ≤ v) (h1 : v ≤ par.length) (hv : leafB par gone v = true) : leftOf par gone v = [rd par (v - 1)] := by
  obtain ⟨h2, h3⟩ := (leafB_iff par gone v).1 hv
  have hp := parent_stays h v h0 h1 h2
  have hmem : ∀ x, x ∈ leftOf par gone v ↔ x = rd par (v - 1) := fun x => by
    rw [leftOf, List.mem_filter, near_mem par v x h0]
    constructor
    · rintro ⟨h4 | h4, h5⟩
      · exact h4
      · have := h3 x h4
        simp [this] at h5
    · rintro rfl
      exact ⟨.inl rfl, by simpa using hp⟩
  have hr : (leftOf par gone v).Pairwise (· < ·) := (near_rising par v h0).filter _
  cases e : leftOf par gone v with
  | nil => have := (hmem (rd par (v - 1))).2 rfl; rw [e] at this; simp at this
  | cons a t =>
    rw [e] at hmem hr
    have ha : a = rd par (v - 1) := (hmem a).1 (by simp)
    cases t with
    | nil => rw [ha]
    | cons b t =>
      have hb : b = rd par (v - 1) := (hmem b).1 (by simp)
      have := (List.pairwise_cons.1 hr).1 b (by simp)
      omega
theorem leftOf_other {par gone : List Int} (ht : isTr par = true) (h : Gone par gone) (v : Int) (h0 : 1 ≤ v) (h1 : v ≤ par.length) (hv : leafB par gone v = false) (hg : v ∉ gone) : (leftOf par gone v).length ≠ 1 := by
  have hp := parent_stays h v h0 h1 hg
  have : ∃ w, w ∈ kids par v ∧ w ∉ gone := by
    refine Classical.byContradiction fun hn => ?_
    have : leafB par gone v = true := (leafB_iff par gone v).2 ⟨hg, fun w hw => Classical.byContradiction fun h2 => hn ⟨w, hw, h2⟩⟩
    rw [hv] at this
    cases this
  obtain ⟨w, hw, hwg⟩ := this
  have m1 : rd par (v - 1) ∈ leftOf par gone v := List.mem_filter.2 ⟨(near_mem par v _ h0).2 (.inl rfl), by simpa using hp⟩
  have m2 : w ∈ leftOf par gone v := List.mem_filter.2 ⟨(near_mem par v _ h0).2 (.inr hw), by simpa using hwg⟩
  obtain ⟨k1, k2, k3⟩ := (kids_mem par v w).1 hw
  have d1 := dep_step par ht v h0 h1
  have d2 := dep_step par ht w k1 k2
  rw [k3] at d2
  intro hl
  match e : leftOf par gone v, hl with
  | [a], _ =>
    rw [e, List.mem_singleton] at m1 m2
    rw [m1, ← m2] at d1
    omega

theorem rd_take (l : List Int) (k j : Nat) (h : j < k) (hk : k ≤ l.length) : rd (l.take k) (j : Int) = rd l (j : Int) := by
  rw [rd_nat, rd_nat, List.getD_eq_getElem?_getD, List.getD_eq_getElem?_getD, List.getElem?_take, if_pos h]
theorem in_take (l : List Int) (k : Nat) (hk : k ≤ l.length) (v : Int) : v ∈ l.take k ↔ ∃ j : Nat, j < k ∧ rd l (j : Int) = v := by
  constructor
  · intro h
    obtain ⟨j, hj, e⟩ := in_rd _ v h
    rw [List.length_take] at hj
    rw [rd_take l k j (by omega) hk] at e
    exact ⟨j, by omega, e⟩
  · rintro ⟨j, hj, e⟩
    rw [← e, ← rd_take l k j hj hk]
    exact rd_in _ j (by rw [List.length_take]; omega)
theorem in_drop (l : List Int) (k : Nat) (v : Int) : v ∈ l.drop k ↔ ∃ j : Nat, k ≤ j ∧ j < l.length ∧ rd l (j : Int) = v := by
  constructor
  · intro h
    obtain ⟨j, hj, e⟩ := List.mem_iff_getElem.1 h
    rw [List.length_drop] at hj
    rw [List.getElem_drop] at e
    refine ⟨k + j, by omega, by omega, ?_⟩
    rw [rd_nat, List.getD_eq_getElem?_getD, List.getElem?_eq_getElem (by omega), e]
    rfl
  · rintro ⟨j, h1, h2, e⟩
    rw [rd_nat, List.getD_eq_getElem?_getD, List.getElem?_eq_getElem h2] at e
    refine List.mem_iff_getElem.2 ⟨j - k, by rw [List.length_drop]; omega, ?_⟩
    rw [List.getElem_drop]
    have e2 : l[j] = v := e
    rw [← e2]
    congr 1
    omega
theorem Told.kid {n : Nat} {whole E T : List Int} (h : Told n whole E T) (v c : Int) : c ∈ kids T v ↔ ∃ j : Nat, j < n ∧ rd E (j : Int) = c ∧ rd whole (j : Int) = v := by
  rw [kids_mem, h.tlen]
  constructor
  · rintro ⟨h1, h2, h3⟩
    obtain ⟨j, hj, e⟩ := h.sq.covers h.len c h1 h2
    refine ⟨j, hj, e, ?_⟩
    rw [← h.at_ j hj, e, h3]
  · rintro ⟨j, hj, e, e2⟩
    have := h.sq.range _ (rd_in E j (by rw [h.len]; exact hj))
    rw [e] at this
    refine ⟨this.1, this.2, ?_⟩
    rw [← e, h.at_ j hj, e2]
theorem Told.leaf {n : Nat} {whole E T : List Int} (h : Told n whole E T) (hw : whole.length = n) (k : Nat) (hk : k ≤ n) (v : Int) : leafB T (E.take k) v = true ↔ v ∉ E.take k ∧ v ∉ whole.drop k := by
  rw [leafB_iff]
  constructor
  · rintro ⟨h1, h2⟩
    refine ⟨h1, fun hm => ?_⟩
    obtain ⟨j, h3, h4, h5⟩ := (in_drop whole k v).1 hm
    have := h2 (rd E (j : Int)) ((h.kid v _).2 ⟨j, by omega, rfl, h5⟩)
    obtain ⟨i, h6, h7⟩ := (in_take E k (by rw [h.len]; exact hk) _).1 this
    have := h.sq.inj (by rw [h.len]; omega) (by rw [h.len]; omega) h7
    omega
  · rintro ⟨h1, h2⟩
    refine ⟨h1, fun c hc => ?_⟩
    obtain ⟨j, h3, h4, h5⟩ := (h.kid v c).1 hc
    refine (in_take E k (by rw [h.len]; exact hk) c).2 ⟨j, Classical.byContradiction fun hn => h2 ((in_drop whole k v).2 ⟨j, by omega, by omega, h5⟩), h4⟩
theorem Told.pick {n : Nat} {whole E T : List Int} (h : Told n whole E T) (hw : whole.length = n) (k : Nat) (hk : k ≤ n) : ∀ d : Nat, pickD T (E.take k) d = pk (E.take k) (whole.drop k) d
  | 0 => rfl
  | d + 1 => by
    have hl := h.leaf hw k hk ((d : Int) + 1)
    rw [pickD, pk, h.pick hw k hk d]
    by_cases c : ((d : Int) + 1) ∉ E.take k ∧ ((d : Int) + 1) ∉ whole.drop k
    · rw [if_pos c, if_pos (hl.2 c)]
    · rw [if_neg c, if_neg (fun h2 => c (hl.1 h2))]
theorem gseq_at (n : Nat) (whole : List Int) (hw : whole.length = n) : ∀ (d k : Nat) (gone : List Int), k + d = n → gone.length = k →
    (gseq n (whole.drop k) gone).length = n ∧ (gseq n (whole.drop k) gone).take k = gone ∧ ∀ j : Nat, k ≤ j → j < n → rd (gseq n (whole.drop k) gone) (j : Int) = pk ((gseq n (whole.drop k) gone).take j) (whole.drop j) n
  | 0, k, gone, hd, hg => by
    rw [List.drop_eq_nil_of_le (by omega), gseq]
    exact ⟨by omega, by rw [List.take_of_length_le (by omega)], fun j h1 h2 => by omega⟩
  | d + 1, k, gone, hd, hg => by
    obtain ⟨x, hx⟩ : ∃ x, whole.drop k = x :: whole.drop (k + 1) := ⟨whole[k]'(by omega), List.drop_eq_getElem_cons (by omega)⟩
    have ih := gseq_at n whole hw d (k + 1) (gone ++ [pk gone (whole.drop k) n]) (by omega) (by simp [hg])
    have e : gseq n (whole.drop k) gone = gseq n (whole.drop (k + 1)) (gone ++ [pk gone (whole.drop k) n]) := by
      rw [hx, gseq]
    rw [e]
    obtain ⟨i1, i2, i3⟩ := ih
    have tk : (gseq n (whole.drop (k + 1)) (gone ++ [pk gone (whole.drop k) n])).take k = gone := by
      have e9 : ∀ X : List Int, X.take k = (X.take (k + 1)).take k := fun X => by rw [List.take_take, Nat.min_eq_left (Nat.le_succ k)]
      rw [e9, i2, List.take_append_of_le_length (by omega), List.take_of_length_le (by omega)]
    refine ⟨i1, tk, fun j h1 h2 => ?_⟩
    by_cases c : j = k
    · subst c
      rw [tk, ← rd_take _ (j + 1) j (by omega) (by omega), i2]
      have := rd_snoc_eq gone (pk gone (whole.drop j) n)
      rw [hg] at this
      exact this
    · exact i3 j (by omega) h2
theorem gseq_unique (n : Nat) (whole : List Int) (hw : whole.length = n) (G : List Int) (hl : G.length = n) (h : ∀ j : Nat, j < n → rd G (j : Int) = pk (G.take j) (whole.drop j) n) : gseq n whole [] = G := by
  obtain ⟨h1, _, h3⟩ := gseq_at n whole hw n 0 [] (by omega) rfl
  rw [List.drop_zero] at h1 h3
  have tk : ∀ j : Nat, j ≤ n → (gseq n whole []).take j = G.take j := by
    intro j
    induction j with
    | zero => intro _; rfl
    | succ j ih =>
      intro hj
      have ih := ih (by omega)
      have a := h3 j (by omega) (by omega)
      rw [ih, ← h j (by omega), rd_nat, rd_nat, List.getD_eq_getElem?_getD, List.getD_eq_getElem?_getD, List.getElem?_eq_getElem (by omega), List.getElem?_eq_getElem (by omega)] at a
      have a2 : (gseq n whole [])[j] = G[j] := a
      rw [List.take_succ_eq_append_getElem (by omega), List.take_succ_eq_append_getElem (by omega), ih, a2]
  have := tk n (Nat.le_refl _)
  rwa [List.take_of_length_le (by omega), List.take_of_length_le (by omega)] at this
/-- The tree of a word is a tree. -/
theorem Told.tree {n : Nat} {word E T : List Int} (h : Told n (word ++ [0]) E T) (hw : word.length + 1 = n) (hx : ∀ x ∈ word, 0 ≤ x ∧ x ≤ n) (h8 : n ≤ 8) : isTr T = true := by
  have hl : (word ++ [0]).length = n := by simp; omega
  rw [isTr_iff, h.tlen]
  have hcl : ∀ (q j : Nat), j + q = n → j < n → climb T q (rd E (j : Int)) = true := by
    intro q
    induction q using Nat.strongRecOn with
    | _ q ih =>
      intro j hj hjn
      have hr := h.sq.range _ (rd_in E j (by rw [h.len]; exact hjn))
      match q, hj with
      | 0, hj => omega
      | q + 1, hj =>
        rw [climb, if_pos (by omega), h.at_ j hjn]
        rcases h.later hw hx j hjn with h0 | ⟨i, h1, h2, h3⟩
        · rw [h0, climb_up]
          exact ⟨0, by omega, by simp [up]⟩
        · have := ih (n - i) (by omega) i (by omega) h2
          rw [← h3]
          rw [climb_up] at this ⊢
          obtain ⟨a, ha, hb⟩ := this
          exact ⟨a, by omega, hb⟩
  refine ⟨h8, fun x hm => ?_, fun a h0 h1 => ?_⟩
  · obtain ⟨i, hi, e⟩ := in_rd T x hm
    rw [h.tlen] at hi
    obtain ⟨j, hj, e2⟩ := h.sq.covers h.len ((i : Int) + 1) (by omega) (by omega)
    have := h.at_ j hj
    rw [e2, show (i : Int) + 1 - 1 = (i : Int) by omega, e] at this
    have hm2 := rd_in (word ++ [0]) j (by omega)
    rw [← this] at hm2
    rcases List.mem_append.1 hm2 with h2 | h2
    · exact hx x h2
    · rw [List.mem_singleton] at h2; omega
  · obtain ⟨j, hj, e⟩ := h.sq.covers h.len a h0 h1
    have := hcl (n - j) j (by omega) hj
    rw [e] at this
    rw [climb_up] at this ⊢
    obtain ⟨i, hi, hb⟩ := this
    exact ⟨i, by omega, hb⟩
theorem prufS_told {n : Nat} {word E T : List Int} (h : Told n (word ++ [0]) E T) (hw : word.length + 1 = n) (hE : ∀ j : Nat, j < n → rd E (j : Int) = pk (E.take j) ((word ++ [0]).drop j) n) : ∀ (s k : Nat), k + s = word.length → prufS T s (E.take k) (word.take k) = word
  | 0, k, hk => by rw [prufS, List.take_of_length_le (by omega)]
  | s + 1, k, hk => by
    have hl : (word ++ [0]).length = n := by simp; omega
    have hp := h.pick hl k (by omega) n
    rw [← hE k (by omega)] at hp
    have ih := prufS_told h hw hE s (k + 1) (by omega)
    have hEl := h.len
    have e1 : E.take (k + 1) = E.take k ++ [rd E (k : Int)] := by
      rw [List.take_succ_eq_append_getElem (by omega), rd_nat, List.getD_eq_getElem?_getD, List.getElem?_eq_getElem (by omega)]
      rfl
    have e2 : word.take (k + 1) = word.take k ++ [rd (word ++ [0]) (k : Int)] := by
      rw [List.take_succ_eq_append_getElem (by omega), rd_nat, List.getD_eq_getElem?_getD, List.getElem?_append_left (by omega), List.getElem?_eq_getElem (by omega)]
      rfl
    rw [e1, e2] at ih
    rw [prufS, h.tlen, hp, h.at_ k (by omega)]
    exact ih
/-- The word of the tree of a word is that word. -/
theorem word_back (word : List Int) : prufS (treeS word) word.length [] [] = word := by
  have hat := gseq_at (word.length + 1) (word ++ [0]) (by simp) (word.length + 1) 0 [] (by omega) rfl
  rw [List.drop_zero] at hat
  exact prufS_told (treeS_told word) rfl (fun j hj => hat.2.2 j (by omega) hj) word.length 0 (by omega)
theorem treeS_len (word : List Int) : (treeS word).length = word.length + 1 := (treeS_told word).tlen
theorem treeS_isTr (word : List Int) (hx : ∀ x ∈ word, 0 ≤ x ∧ x ≤ (word.length : Int) + 1) (h8 : word.length + 1 ≤ 8) : isTr (treeS word) = true :=
  (treeS_told word).tree rfl (fun x h => by have := hx x h; omega) h8
/-- The nodes in the order in which the program takes them. -/
def goneS (par : List Int) : Nat → List Int → List Int
  | 0, gone => gone
  | s + 1, gone => goneS par s (gone ++ [pickD par gone par.length])
theorem goneS_spec (par : List Int) (ht : isTr par = true) : ∀ (s k : Nat) (gone word : List Int), k + s = par.length → gone.length = k → Gone par gone → (∀ j : Nat, j < k → rd gone (j : Int) = pickD par (gone.take j) par.length) → word = gone.map (fun v => rd par (v - 1)) →
    (goneS par s gone).length = par.length ∧ Gone par (goneS par s gone) ∧ (∀ j : Nat, j < par.length → rd (goneS par s gone) (j : Int) = pickD par ((goneS par s gone).take j) par.length) ∧ prufS par s gone word = (goneS par s gone).map (fun v => rd par (v - 1))
  | 0, k, gone, word, hk, hl, hg, hp, hw => ⟨by rw [goneS]; omega, hg, fun j hj => hp j (by omega), by rw [prufS, goneS, hw]⟩
  | s + 1, k, gone, word, hk, hl, hg, hp, hw => by
    obtain ⟨u, hu, h1, h2⟩ := leaf_there par gone ht (by omega)
    obtain ⟨p1, p2, p3⟩ := pickD_spec par gone u hu h1 par.length h2
    rw [goneS, prufS]
    refine goneS_spec par ht s (k + 1) _ _ (by omega) (by simp [hl]) (hg.add p1 p2 p3) (fun j hj => ?_) (by rw [hw, List.map_append]; rfl)
    by_cases c : j < k
    · rw [rd_snoc_lt _ _ _ (by omega), List.take_append_of_le_length (by omega)]
      exact hp j c
    · obtain rfl : j = gone.length := by omega
      rw [rd_snoc_eq, List.take_append_of_le_length (Nat.le_refl _), List.take_length]
theorem rd_map (f : Int → Int) (l : List Int) (j : Nat) (h : j < l.length) : rd (l.map f) (j : Int) = f (rd l (j : Int)) := by
  rw [rd_nat, rd_nat, List.getD_eq_getElem?_getD, List.getD_eq_getElem?_getD, List.getElem?_map, List.getElem?_eq_getElem h]
  rfl
theorem prufS_snoc (par : List Int) : ∀ (s : Nat) (gone word : List Int), ∃ g : List Int, prufS par (s + 1) gone word = prufS par s gone word ++ [rd par (pickD par g par.length - 1)]
  | 0, gone, word => ⟨gone, rfl⟩
  | s + 1, gone, word => by
    obtain ⟨g, h⟩ := prufS_snoc par s (gone ++ [pickD par gone par.length]) (word ++ [rd par (pickD par gone par.length - 1)])
    exact ⟨g, by rw [prufS, h, prufS]⟩
/-- The tree of the word of a tree is that tree. -/
theorem tree_back (par : List Int) (ht : isTr par = true) (hne : 1 ≤ par.length) : treeS (prufS par (par.length - 1) [] []) = par := by
  obtain ⟨h8, h20, _⟩ := (isTr_iff par).1 ht
  obtain ⟨g1, g2, g3, g4⟩ := goneS_spec par ht par.length 0 [] [] (by omega) rfl (Gone.none par) (fun j hj => by omega) rfl
  generalize hG : goneS par par.length [] = G at g1 g2 g3 g4
  obtain ⟨g, hs⟩ := prufS_snoc par (par.length - 1) [] []
  have hwl : (prufS par (par.length - 1) [] []).length = par.length - 1 := by rw [prufS_length]; simp
  generalize hW : prufS par (par.length - 1) [] [] = word at hs hwl
  rw [show par.length - 1 + 1 = par.length by omega] at hs
  have hlast : rd par (rd G ((par.length - 1 : Nat) : Int) - 1) = 0 := by
    have hm := rd_in G (par.length - 1) (by omega)
    have hr := g2.range _ hm
    have hpr := h20 (rd par (rd G ((par.length - 1 : Nat) : Int) - 1)) (rd_mem par _ (by omega) (by omega))
    refine Classical.byContradiction fun hne0 => ?_
    -- the parent would be a node that is gone ahead of its child
    have hpm : rd par (rd G ((par.length - 1 : Nat) : Int) - 1) ∈ G := by
      refine Classical.byContradiction fun hn => ?_
      have := nodup_length par.length (0 :: rd par (rd G ((par.length - 1 : Nat) : Int) - 1) :: G) (by
        refine List.nodup_cons.2 ⟨?_, List.nodup_cons.2 ⟨hn, g2.nd⟩⟩
        intro hz
        rcases List.mem_cons.1 hz with e | e
        · exact hne0 e.symm
        · have := g2.range 0 e; omega) (by
        intro w hw
        rcases List.mem_cons.1 hw with e | e
        · omega
        · rcases List.mem_cons.1 e with e | e
          · omega
          · have := g2.range w e; omega)
      simp at this
      omega
    obtain ⟨i, hi, e⟩ := in_rd G _ hpm
    have hpk := g3 i (by omega)
    have hlf : leafB par (G.take i) (rd G (i : Int)) = true := by
      have hgi : (G.take i).length < par.length := by rw [List.length_take]; omega
      obtain ⟨u, hu, h1, h2⟩ := leaf_there par (G.take i) ht hgi
      have := (pickD_spec par (G.take i) u hu h1 par.length h2).1
      rwa [← hpk] at this
    have hc := ((leafB_iff par _ _).1 hlf).2 (rd G ((par.length - 1 : Nat) : Int)) ((kids_mem par _ _).2 ⟨hr.1, hr.2, e.symm⟩)
    obtain ⟨j, hj, e2⟩ := (in_take G i (by omega) _).1 hc
    rw [rd_nat, rd_nat, List.getD_eq_getElem?_getD, List.getD_eq_getElem?_getD, List.getElem?_eq_getElem (by omega), List.getElem?_eq_getElem (by omega)] at e2
    exact nodup_at g2.nd (show j < par.length - 1 by omega) (by omega) e2
  have hwhole : word ++ [0] = G.map (fun v => rd par (v - 1)) := by
    rw [← g4, hs]
    congr 1
    have e1 : rd (prufS par par.length [] []) ((par.length - 1 : Nat) : Int) = 0 := by
      rw [g4, rd_map _ _ _ (by omega)]
      exact hlast
    rw [hs] at e1
    have := rd_snoc_eq word (rd par (pickD par g par.length - 1))
    rw [hwl] at this
    rw [← e1, this]
  have hT : Told par.length (word ++ [0]) G par := by
    refine ⟨⟨g2.nd, g2.range, by omega, fun j hj hm => ?_⟩, g1, rfl, fun j hj => ?_⟩
    · rw [hwhole] at hm
      obtain ⟨i, h1, h2, h3⟩ := (in_drop _ _ _).1 hm
      rw [List.length_map] at h2
      rw [rd_map _ _ _ h2] at h3
      have hpk := g3 j (by omega)
      have hlf : leafB par (G.take j) (rd G (j : Int)) = true := by
        have hgi : (G.take j).length < par.length := by rw [List.length_take]; omega
        obtain ⟨u, hu, h5, h6⟩ := leaf_there par (G.take j) ht hgi
        have := (pickD_spec par (G.take j) u hu h5 par.length h6).1
        rwa [← hpk] at this
      have hr := g2.range _ (rd_in G i h2)
      have hc := ((leafB_iff par _ _).1 hlf).2 (rd G (i : Int)) ((kids_mem par _ _).2 ⟨hr.1, hr.2, h3⟩)
      obtain ⟨q, hq, e2⟩ := (in_take G j (by omega) _).1 hc
      rw [rd_nat, rd_nat, List.getD_eq_getElem?_getD, List.getD_eq_getElem?_getD, List.getElem?_eq_getElem (by omega), List.getElem?_eq_getElem (by omega)] at e2
      exact nodup_at g2.nd (show q < i by omega) (by omega) e2
    · rw [hwhole, rd_map _ _ _ (by omega)]
  have hgs : gseq par.length (word ++ [0]) [] = G := gseq_unique par.length (word ++ [0]) (by simp; omega) G g1 fun j hj => by
    rw [g3 j hj, hT.pick (by simp; omega) j (by omega)]
  have hts := treeS_told word
  rw [show word.length + 1 = par.length by omega, hgs] at hts
  exact (hts.unique rfl hT.at_).symm
theorem cnt_set (p : Int → Bool) : ∀ (l : List Int) (i : Nat) (x : Int), i < l.length → cnt p (l.set i x) + (if p (rd l (i : Int)) = true then 1 else 0) = cnt p l + (if p x = true then 1 else 0)
  | [], i, x, h => by simp at h
  | a :: t, 0, x, h => by
    simp only [List.set_cons_zero, cnt]
    have : rd (a :: t) ((0 : Nat) : Int) = a := rfl
    rw [this]
    omega
  | a :: t, i + 1, x, h => by
    have ih := cnt_set p t i x (by simp at h; omega)
    have e : rd (a :: t) ((i + 1 : Nat) : Int) = rd t (i : Int) := by
      rw [rd_nat, rd_nat]
      rfl
    simp only [List.set_cons_succ, cnt]
    rw [e]
    omega
theorem outS_cnt (n : Nat) (word : List Int) (hw : word.length + 1 = n) (v : Int) (hv : 0 ≤ v) : ∀ (d : Nat) (gone out : List Int), gone.length + d = n → Sq n (word ++ [0]) gone → OutOk n (word ++ [0]) gone out →
    cnt (fun p => decide (p = v)) (outS n ((word ++ [0]).drop gone.length) gone out) = cnt (fun p => decide (p = v)) out + cnt (fun p => decide (p = v)) ((word ++ [0]).drop gone.length)
  | 0, gone, out, hd, hs, ho => by
    have hl : (word ++ [0]).length = n := by simp; omega
    rw [List.drop_eq_nil_of_le (by omega), outS, cnt, Int.add_zero]
  | d + 1, gone, out, hd, hs, ho => by
    have hl : (word ++ [0]).length = n := by simp; omega
    obtain ⟨s1, s2, s3, s4⟩ := hs.step hw (by omega)
    have hc : (word ++ [0]).drop gone.length = rd (word ++ [0]) (gone.length : Int) :: (word ++ [0]).drop (gone.length + 1) := by
      rw [List.drop_eq_getElem_cons (by omega), rd_nat, List.getD_eq_getElem?_getD, List.getElem?_eq_getElem (by omega)]
      rfl
    have ih := outS_cnt n word hw v hv d (gone ++ [pk gone ((word ++ [0]).drop gone.length) n]) (out.set (pk gone ((word ++ [0]).drop gone.length) n - 1).toNat (rd (word ++ [0]) (gone.length : Int))) (by simp; omega) s1 (ho.step hs s2 s3 s4)
    rw [List.length_append, List.length_singleton] at ih
    have hset := cnt_set (fun p => decide (p = v)) out (pk gone ((word ++ [0]).drop gone.length) n - 1).toNat (rd (word ++ [0]) (gone.length : Int)) (by have := ho.len; omega)
    have hlf := ho.left _ s3 s4 s2
    have e9 : ∀ z : Int, 1 ≤ z → (((z - 1).toNat : Nat) : Int) = z - 1 := fun z hz => by omega
    rw [e9 _ s3, hlf] at hset
    rw [if_neg (show ¬ decide ((-1 : Int) = v) = true by simp; omega)] at hset
    rw [hc] at ih hset ⊢
    rw [outS, ih, cnt]
    omega
/-- Each number is as often a parent as it stands in the word; the root once more. -/
theorem treeS_cnt (word : List Int) (v : Int) (hv : 0 ≤ v) : cnt (fun p => decide (p = v)) (treeS word) = cnt (fun p => decide (p = v)) (word ++ [0]) := by
  have h := outS_cnt (word.length + 1) word rfl v hv (word.length + 1) [] (List.replicate (word.length + 1) (-1)) (by simp) (Sq.none _ _) ⟨by simp, by simp, by
    intro u h0 h1 _
    unfold rd
    rw [List.getD_eq_getElem?_getD, List.getElem?_replicate, if_pos (by omega)]
    rfl⟩
  rw [List.length_nil, List.drop_zero] at h
  have hz : cnt (fun p => decide (p = v)) (List.replicate (word.length + 1) (-1)) = 0 := (cnt_zero v _).2 fun hm => by
    have := (List.mem_replicate.1 hm).2
    omega
  rw [hz, Int.zero_add] at h
  exact h

/-- Where a number first stands; -1 if it doesn't. -/
def idxOf (x : Int) : List Int → Int → Int
  | [], _ => -1
  | h :: t, i => if x = h then i else idxOf x t (i + 1)
theorem idxOf_spec (x : Int) : ∀ (l : List Int) (i : Int), 0 ≤ i → (x ∈ l → i ≤ idxOf x l i ∧ idxOf x l i < i + l.length ∧ rd l (idxOf x l i - i) = x) ∧ (x ∉ l → idxOf x l i = -1)
  | [], i, _ => by simp [idxOf]
  | h :: t, i, hi => by
    have ih := idxOf_spec x t (i + 1) (by omega)
    have e : ((h :: t).length : Int) = (t.length : Int) + 1 := by simp
    by_cases c : x = h
    · refine ⟨fun _ => ?_, fun hn => absurd (by simp [c]) hn⟩
      rw [idxOf, if_pos c, e]
      refine ⟨by omega, by omega, ?_⟩
      rw [Int.sub_self, c]
      rfl
    · rw [idxOf, if_neg c, e]
      refine ⟨fun hm => ?_, fun hn => ih.2 (fun hm => hn (by simp [hm]))⟩
      obtain ⟨h1, h2, h3⟩ := ih.1 (by simpa [c] using hm)
      refine ⟨by omega, by omega, ?_⟩
      have h4 : rd (h :: t) (idxOf x t (i + 1) - i) = rd t (idxOf x t (i + 1) - (i + 1)) := by
        unfold rd
        rw [show (idxOf x t (i + 1) - i).toNat = (idxOf x t (i + 1) - (i + 1)).toNat + 1 by omega, List.getD_cons_succ]
      rw [h4, h3]
theorem slices_Index_l0 (x : Int) : ∀ (t p : List Int), p.length + t.length ≤ 35184372088832 →
    Ev (fun k => slices_Index_int_int.l0 k (p ++ t) x ((p ++ t).length : Int) (p.length : Int)) (idxOf x t p.length)
  | [], p, _ => by
    refine Ev.ret fun k => ?_
    rw [slices_Index_int_int.l0, if_neg (by simp)]
    rfl
  | h :: t, p, hn => by
    have hn' : p.length + t.length + 1 ≤ 35184372088832 := by simpa [Nat.add_assoc] using hn
    have hm := len_mid p h t
    by_cases c : x = h
    · rw [idxOf, if_pos c]
      refine Ev.ret fun k => ?_
      rw [slices_Index_int_int.l0, if_pos (by omega), if_pos (by omega), if_pos (by omega), rd_mid, if_pos c]
    · have ih := slices_Index_l0 x t (p ++ [h]) (by simp; omega)
      rw [app_snoc, len_snoc] at ih
      rw [idxOf, if_neg c]
      refine Ev.step (fun k => ?_) ih
      show slices_Index_int_int.l0 (k + 1) (p ++ h :: t) x ((p ++ h :: t).length : Int) (p.length : Int) = _
      rw [slices_Index_int_int.l0, if_pos (by omega), if_pos (by omega), if_pos (by omega), rd_mid, if_neg c, w64 (by omega) (by omega)]
theorem ev_slices_Index (l : List Int) (x : Int) (hl : l.length ≤ 35184372088832) : Ev (fun k => slices_Index_int_int.f k l x) (idxOf x l 0) :=
  slices_Index_l0 x l [] (by simpa using hl)

theorem ev_slices_Contains (l : List Int) (x : Int) (hl : l.length ≤ 35184372088832) : Ev (fun k => slices_Contains_int_int.f k l x) (decide (x ∈ l)) := by
  have e : decide (idxOf x l 0 ≥ 0) = decide (x ∈ l) := by
    have h := idxOf_spec x l 0 (by omega)
    refine decide_eq_decide.2 ⟨fun h1 => ?_, fun h1 => (h.1 h1).1⟩
    by_cases c : x ∈ l
    · exact c
    · rw [h.2 c] at h1; omega
  rw [← e]
  exact Ev.congr (fun k => rfl) (Ev.bind (ev_slices_Index l x hl) (Ev.now _))

theorem ev_slices_Clone (l : List Int) (h : l.length < 17592186044416) : slices_Clone_int_int.f l = some l := by
  unfold slices_Clone_int_int.f
  simp only [Option.bind_some]
  rw [if_pos (by simp; omega)]
  simp

theorem OutOk.sign {n : Nat} {whole gone out : List Int} (h : OutOk n whole gone out) (hs : gone.length ≤ whole.length) (hx : ∀ x ∈ whole, 0 ≤ x) (v : Int) (h0 : 1 ≤ v) (h1 : v ≤ n) : rd out (v - 1) ≥ 0 ↔ v ∈ gone := by
  constructor
  · intro hp
    refine Classical.byContradiction fun hn => ?_
    have := h.left v h0 h1 hn
    omega
  · intro hm
    obtain ⟨j, hj, e⟩ := in_rd gone v hm
    have := h.told j hj
    rw [e] at this
    rw [this]
    exact hx _ (rd_in whole j (by omega))
theorem impl_tp_l1 (n : Nat) (hn : n ≤ 1000) (whole gone out : List Int) (hw : whole.length = n) (ho : OutOk n whole gone out) (hgl : gone.length ≤ n) (hx : ∀ x ∈ whole, 0 ≤ x) (k : Nat) (hk : k ≤ n) (x m : Int) (u : Int) (h1 : 1 ≤ u) (hu : u ∉ gone ∧ u ∉ whole.drop k) (r : List Int) : ∀ d : Nat, u ≤ d → d ≤ n →
    Ev (fun kk => impl_treeOfPrufer.l0 kk (n : Int) (out.set (pk gone (whole.drop k) d - 1).toNat x) whole whole m ((k : Int) + 1)) r →
    Ev (fun kk => impl_treeOfPrufer.l1 kk (n : Int) out whole (k : Int) x (d : Int) whole m (k : Int)) r
  | 0, h, _, _ => by omega
  | d + 1, h, hd, H => by
    have ed : ((d + 1 : Nat) : Int) = (d : Int) + 1 := by omega
    rw [ed]
    have hol := ho.len
    have less : ((d : Int) + 1 ∈ gone ∨ (d : Int) + 1 ∈ whole.drop k) → u ≤ d := fun hm => by
      refine Classical.byContradiction fun h2 => ?_
      have e : u = (d : Int) + 1 := by omega
      rw [e] at hu
      rcases hm with h3 | h3
      · exact hu.1 h3
      · exact hu.2 h3
    have ih := fun c => impl_tp_l1 n hn whole gone out hw ho hgl hx k hk x m u h1 hu r d c (by omega)
    have hsg := ho.sign (by omega) hx ((d : Int) + 1) (by omega) (by omega)
    rw [show (d : Int) + 1 - 1 = (d : Int) by omega] at hsg
    rw [pk] at H
    by_cases g : (d : Int) + 1 ∈ gone
    · rw [if_neg (fun h2 => h2.1 g)] at H
      refine Ev.step (fun kk => ?_) (ih (less (.inl g)) H)
      show impl_treeOfPrufer.l1 (kk + 1) (n : Int) out whole (k : Int) x ((d : Int) + 1) whole m (k : Int) = _
      rw [impl_treeOfPrufer.l1, w64 (x := (d : Int) + 1 - 1) (by omega) (by omega), show (d : Int) + 1 - 1 = (d : Int) by omega, if_pos (by omega), if_pos (by omega), if_pos (hsg.2 g)]
    · have hneg : ¬ rd out (d : Int) ≥ 0 := fun hp => g (hsg.1 hp)
      by_cases g2 : (d : Int) + 1 ∈ whole.drop k
      · rw [if_neg (fun h2 => h2.2 g2)] at H
        refine Ev.step (fun kk => by rw [impl_treeOfPrufer.l1, w64 (x := (d : Int) + 1 - 1) (by omega) (by omega), show (d : Int) + 1 - 1 = (d : Int) by omega, if_pos (by omega), if_pos (by omega), if_neg hneg, if_pos (by omega), if_pos (by omega), Int.toNat_natCast]) (Ev.bind (ev_slices_Contains (whole.drop k) _ (by simp; omega)) ?_)
        exact Ev.congr (fun kk => by rw [if_pos (by simpa using g2)]) (ih (less (.inr g2)) H)
      · rw [if_pos ⟨g, g2⟩, show (d : Int) + 1 - 1 = (d : Int) by omega] at H
        refine Ev.step (fun kk => by rw [impl_treeOfPrufer.l1, w64 (x := (d : Int) + 1 - 1) (by omega) (by omega), show (d : Int) + 1 - 1 = (d : Int) by omega, if_pos (by omega), if_pos (by omega), if_neg hneg, if_pos (by omega), if_pos (by omega), Int.toNat_natCast]) (Ev.bind (ev_slices_Contains (whole.drop k) _ (by simp; omega)) ?_)
        exact Ev.congr (fun kk => by rw [if_neg (by simpa using g2), w64 (by omega) (by omega)]) H
theorem impl_tp_l0 (n : Nat) (hn : n ≤ 1000) (word : List Int) (hw : word.length + 1 = n) (hx : ∀ x ∈ word ++ [0], 0 ≤ x) : ∀ (d : Nat) (gone out : List Int), gone.length + d = n → Sq n (word ++ [0]) gone → OutOk n (word ++ [0]) gone out →
    Ev (fun kk => impl_treeOfPrufer.l0 kk (n : Int) out (word ++ [0]) (word ++ [0]) ((word ++ [0]).length : Int) (gone.length : Int)) (outS n ((word ++ [0]).drop gone.length) gone out)
  | 0, gone, out, hd, hs, ho => by
    have hl : (word ++ [0]).length = n := by simp; omega
    rw [List.drop_eq_nil_of_le (by omega), outS]
    exact Ev.ret fun kk => by rw [impl_treeOfPrufer.l0, if_neg (by omega)]
  | d + 1, gone, out, hd, hs, ho => by
    have hl : (word ++ [0]).length = n := by simp; omega
    obtain ⟨s1, s2, s3, s4⟩ := hs.step hw (by omega)
    have hc : (word ++ [0]).drop gone.length = rd (word ++ [0]) (gone.length : Int) :: (word ++ [0]).drop (gone.length + 1) := by
      rw [List.drop_eq_getElem_cons (by omega), rd_nat, List.getD_eq_getElem?_getD, List.getElem?_eq_getElem (by omega)]
      rfl
    have ih := impl_tp_l0 n hn word hw hx d (gone ++ [pk gone ((word ++ [0]).drop gone.length) n]) (out.set (pk gone ((word ++ [0]).drop gone.length) n - 1).toNat (rd (word ++ [0]) (gone.length : Int))) (by simp; omega) s1 (ho.step hs s2 s3 s4)
    have el : (gone ++ [pk gone ((word ++ [0]).drop gone.length) n]).length = gone.length + 1 := by simp
    rw [el, show ((gone.length + 1 : Nat) : Int) = (gone.length : Int) + 1 by omega] at ih
    have e : outS n ((word ++ [0]).drop gone.length) gone out = outS n ((word ++ [0]).drop (gone.length + 1)) (gone ++ [pk gone ((word ++ [0]).drop gone.length) n]) (out.set (pk gone ((word ++ [0]).drop gone.length) n - 1).toNat (rd (word ++ [0]) (gone.length : Int))) := by
      rw [hc, outS]
    rw [e]
    obtain ⟨u, u0, u1, u2, u3⟩ := free_pk n gone (word.drop gone.length) (by rw [List.length_drop]; omega)
    have hdr : (word ++ [0]).drop gone.length = word.drop gone.length ++ [0] := by rw [List.drop_append_of_le_length (by omega)]
    rw [← hdr] at u3
    refine Ev.step (fun kk => by rw [impl_treeOfPrufer.l0, if_pos (by omega), if_pos (by omega), if_pos (by omega)]) (impl_tp_l1 n hn (word ++ [0]) gone out hl ho (by omega) hx gone.length (by omega) _ _ u u0 ⟨u2, u3⟩ _ n u1 (Nat.le_refl _) ih)
theorem ev_impl_treeOfPrufer (word : List Int) (hw : word.length ≤ 900) (hx : ∀ x ∈ word, 0 ≤ x) : Ev (fun kk => impl_treeOfPrufer.f kk word) (treeS word) := by
  have z := impl_tp_l0 (word.length + 1) (by omega) word rfl (fun x h => by
    rcases List.mem_append.1 h with h2 | h2
    · exact hx x h2
    · rw [List.mem_singleton] at h2; omega) (word.length + 1) [] (List.replicate (word.length + 1) (-1)) (by simp) (Sq.none _ _) ⟨by simp, by simp, by
    intro u h0 h1 _
    unfold rd
    rw [List.getD_eq_getElem?_getD, List.getElem?_replicate, if_pos (by omega)]
    rfl⟩
  rw [List.length_nil, List.drop_zero] at z
  have hr : slices_Repeat_int_int.f [(-1)] (wrap64 ((word.length : Int) + 1)) = some (List.replicate (word.length + 1) (-1)) := by
    rw [w64 (by omega) (by omega), slices_Repeat_int_int.f, if_pos (show ([(-1)] : List Int).length = 1 from rfl), if_pos (by omega), if_pos (by omega), show ((word.length : Int) + 1).toNat = word.length + 1 by omega]
    rfl
  refine Ev.congr (fun kk => by rw [impl_treeOfPrufer.f, hr, Option.bind_some, ev_slices_Clone word (by omega), Option.bind_some, if_pos (by omega), Option.bind_some, w64 (by omega) (by omega), show (word.length : Int) + 1 = ((word.length + 1 : Nat) : Int) by omega]; rfl) z

/-- The words of so many numbers, one after the other. -/
def wdN (n x : Nat) : List Int := (spec_trWord.f 12 ((n : Int) - 1) ((n : Int) + 1) (x : Int)).getD []
def cntT (n : Nat) : Nat := (n + 1) ^ (n - 1)
def okW (n : Nat) : Bool := (List.range (cntT n)).all fun x => decide (spec_trWord.f 12 ((n : Int) - 1) ((n : Int) + 1) (x : Int) = some (wdN n x)) && decide ((wdN n x).length = n - 1) && ((wdN n x).all fun y => decide (0 ≤ y) && decide (y ≤ (n : Int))) &&
  decide (impl_allTrees.nxt (List.replicate (n - 1) 0) (List.replicate (n - 1) (n : Int)) (n - 1) (wdN n x) = if x + 1 < cntT n then some (wdN n (x + 1)) else none)
def okN (n : Nat) : Bool := okW n && decide (wdN n 0 = List.replicate (n - 1) 0) && decide (spec_trCount.f 12 (n : Int) = some (cntT n : Int)) && decide (cntT n ≤ 1296) && decide (1 ≤ cntT n)
set_option maxRecDepth 1000000 in
theorem okN_all : (List.range 5).all (fun i => okN (i + 1)) = true := by decide +kernel
structure WdOk (n : Nat) : Prop where
  word : ∀ x, x < cntT n → spec_trWord.f 12 ((n : Int) - 1) ((n : Int) + 1) (x : Int) = some (wdN n x)
  len : ∀ x, x < cntT n → (wdN n x).length = n - 1
  range : ∀ x, x < cntT n → ∀ y ∈ wdN n x, 0 ≤ y ∧ y ≤ (n : Int)
  next : ∀ x, x < cntT n → impl_allTrees.nxt (List.replicate (n - 1) 0) (List.replicate (n - 1) (n : Int)) (n - 1) (wdN n x) = if x + 1 < cntT n then some (wdN n (x + 1)) else none
  first : wdN n 0 = List.replicate (n - 1) 0
  count : spec_trCount.f 12 (n : Int) = some (cntT n : Int)
  most : cntT n ≤ 1296
  least : 1 ≤ cntT n
theorem wdOk (n : Nat) (h1 : 1 ≤ n) (h5 : n ≤ 5) : WdOk n := by
  have h := List.all_eq_true.1 okN_all (n - 1) (List.mem_range.2 (by omega))
  rw [show n - 1 + 1 = n by omega] at h
  unfold okN at h
  simp only [Bool.and_eq_true, decide_eq_true_eq] at h
  obtain ⟨⟨⟨⟨hw, h2⟩, h3⟩, h4⟩, h5⟩ := h
  have g : ∀ x, x < cntT n → ((spec_trWord.f 12 ((n : Int) - 1) ((n : Int) + 1) (x : Int) = some (wdN n x) ∧ (wdN n x).length = n - 1) ∧ (∀ y ∈ wdN n x, 0 ≤ y ∧ y ≤ (n : Int))) ∧ impl_allTrees.nxt (List.replicate (n - 1) 0) (List.replicate (n - 1) (n : Int)) (n - 1) (wdN n x) = if x + 1 < cntT n then some (wdN n (x + 1)) else none := fun x hx => by
    have := List.all_eq_true.1 hw x (List.mem_range.2 hx)
    simp only [Bool.and_eq_true, decide_eq_true_eq, List.all_eq_true] at this
    exact this
  exact ⟨fun x hx => (g x hx).1.1.1, fun x hx => (g x hx).1.1.2, fun x hx => (g x hx).1.2, fun x hx => (g x hx).2, h2, h3, h4, h5⟩
/-- The tree of the word at a place. -/
def treeN (n x : Nat) : List Int := treeS (wdN n x)
def treesN (n : Nat) : List (List Int) := (List.range' 0 (cntT n)).map (treeN n)
theorem treeN_len (n x : Nat) (h1 : 1 ≤ n) (ok : WdOk n) (hx : x < cntT n) : (treeN n x).length = n := by
  rw [treeN, treeS_len, ok.len x hx]
  omega
theorem treeN_isTr (n x : Nat) (h1 : 1 ≤ n) (h5 : n ≤ 5) (ok : WdOk n) (hx : x < cntT n) : isTr (treeN n x) = true := by
  have hl := ok.len x hx
  exact treeS_isTr _ (fun y hy => by have := ok.range x hx y hy; omega) (by omega)
theorem ev_word (n x : Nat) (h1 : 1 ≤ n) (h5 : n ≤ 5) (ok : WdOk n) (hx : x < cntT n) : Ev (fun k => spec_trWord.f k ((n : Int) - 1) ((n : Int) + 1) (x : Int)) (wdN n x) :=
  Ev.of (fun k => spec_trWord.mono _ _ _ k) (ok.word x hx)
theorem ev_count (n : Nat) (ok : WdOk n) : Ev (fun k => spec_trCount.f k (n : Int)) (cntT n : Int) :=
  Ev.of (fun k => spec_trCount.mono _ k) ok.count
theorem spec_trAll_l0 (n : Nat) (h1 : 1 ≤ n) (h5 : n ≤ 5) (ok : WdOk n) : ∀ (d x : Nat) (out : List (List Int)), x + d = cntT n → out.length ≤ x →
    Ev (fun k => spec_trAll.l0 k (n : Int) out (x : Int)) (out ++ (List.range' x d).map (treeN n))
  | 0, x, out, hd, ho => by
    have := ok.most
    refine Ev.step (fun k => by rw [spec_trAll.l0]) (Ev.bind (ev_count n ok) ?_)
    exact Ev.congr (fun k => by rw [if_neg (by omega)]) (by simpa using Ev.now _)
  | d + 1, x, out, hd, ho => by
    have hm := ok.most
    have ih := spec_trAll_l0 n h1 h5 ok d (x + 1) (out ++ [treeN n x]) (by omega) (by simp; omega)
    have hl := ok.len x (by omega)
    have e : out ++ (List.range' x (d + 1)).map (treeN n) = (out ++ [treeN n x]) ++ (List.range' (x + 1) d).map (treeN n) := by simp [List.range'_succ]
    rw [e]
    refine Ev.step (fun k => by rw [spec_trAll.l0]) (Ev.bind (ev_count n ok) ?_)
    refine Ev.congr (fun k => by rw [if_pos (by omega), w64 (x := (n : Int) - 1) (by omega) (by omega), w64 (x := (n : Int) + 1) (by omega) (by omega)]) (Ev.bind (ev_word n x h1 h5 ok (by omega)) ?_)
    refine Ev.bind (ev_spec_trOf (wdN n x) (by omega) (fun y hy => by have := ok.range x (by omega) y hy; omega)) ?_
    refine Ev.congr (fun k => by rw [if_pos (by omega), w64 (by omega) (by omega), show (x : Int) + 1 = ((x + 1 : Nat) : Int) by omega]; rfl) ih
theorem ev_spec_trAll (n : Nat) (h1 : 1 ≤ n) (h5 : n ≤ 5) : Ev (fun k => spec_trAll.f k (n : Int)) (treesN n) := by
  have h := spec_trAll_l0 n h1 h5 (wdOk n h1 h5) (cntT n) 0 [] (by omega) (by simp)
  exact h
theorem impl_run (n : Nat) (h1 : 1 ≤ n) (h5 : n ≤ 5) (ok : WdOk n) : ∀ (d x t : Nat), x + d = cntT n → 0 < d → d ≤ t →
    Ev (fun k => impl_allTrees.run k (List.replicate (n - 1) 0) (List.replicate (n - 1) (n : Int)) t (wdN n x)) ((List.range' x d).map (treeN n))
  | 0, _, _, _, h, _ => by omega
  | d + 1, x, 0, _, _, h => by omega
  | d + 1, x, t + 1, hd, _, ht => by
    have hl := ok.len x (by omega)
    have hn := ok.next x (by omega)
    refine Ev.congr (fun k => by rw [impl_allTrees.run]) ?_
    refine Ev.bind (ev_impl_treeOfPrufer (wdN n x) (by omega) (fun y hy => (ok.range x (by omega) y hy).1)) ?_
    by_cases c : x + 1 < cntT n
    · rw [if_pos c] at hn
      have ih := impl_run n h1 h5 ok d (x + 1) t (by omega) (by omega) (by omega)
      refine Ev.congr (fun k => by rw [hl, hn]) (Ev.bind ih ?_)
      rw [List.range'_succ, List.map_cons]
      exact Ev.now _
    · rw [if_neg c] at hn
      obtain rfl : d = 0 := by omega
      refine Ev.congr (fun k => by rw [hl, hn]) ?_
      exact Ev.now _
theorem ev_impl_allTrees (n : Nat) (h1 : 1 ≤ n) (h5 : n ≤ 5) : Ev (fun k => impl_allTrees.f k (n : Int)) (treesN n) := by
  have ok := wdOk n h1 h5
  have hm := ok.most
  have h := impl_run n h1 h5 ok (cntT n) 0 10000 (by omega) (by have := ok.least; omega) (by omega)
  refine Ev.congr (fun k => ?_) h
  rw [impl_allTrees.f, if_pos (by omega), show ((n : Int) - 1).toNat = n - 1 by omega, ok.first]
theorem treesN_rows (n : Nat) (h1 : 1 ≤ n) (h5 : n ≤ 5) : (treesN n).length ≤ 1296 ∧ ∀ t ∈ treesN n, t.length = n ∧ isTr t = true := by
  have ok := wdOk n h1 h5
  refine ⟨by rw [treesN, List.length_map, List.length_range']; exact ok.most, fun t ht => ?_⟩
  obtain ⟨x, hx, rfl⟩ := List.mem_map.1 ht
  have hx2 : x < cntT n := by
    have := (List.mem_range'_1.1 hx).2
    omega
  exact ⟨treeN_len n x h1 ok hx2, treeN_isTr n x h1 h5 ok hx2⟩

/-- Rising, with equal ones. -/
def Up (l : List Int) : Prop := l.Pairwise (· ≤ ·)
/-- A number put where it belongs. -/
def put (x : Int) : List Int → List Int
  | [] => [x]
  | h :: t => if x ≤ h then x :: h :: t else h :: put x t
/-- A list in order. -/
def srt : List Int → List Int
  | [] => []
  | h :: t => put h (srt t)
theorem put_perm (x : Int) : ∀ l : List Int, (put x l).Perm (x :: l)
  | [] => .refl _
  | h :: t => by
    rw [put]
    split
    · exact .refl _
    · exact ((put_perm x t).cons h).trans (.swap x h t)
theorem put_up (x : Int) : ∀ l : List Int, Up l → Up (put x l)
  | [], _ => by simp [put, Up]
  | h :: t, hl => by
    have h1 := List.pairwise_cons.1 hl
    rw [put]
    split
    · refine List.pairwise_cons.2 ⟨fun y hy => ?_, hl⟩
      rcases List.mem_cons.1 hy with e | e
      · omega
      · have := h1.1 y e; omega
    · refine List.pairwise_cons.2 ⟨fun y hy => ?_, put_up x t h1.2⟩
      rcases List.mem_cons.1 ((put_perm x t).mem_iff.1 hy) with e | e
      · omega
      · exact h1.1 y e
theorem srt_perm : ∀ l : List Int, (srt l).Perm l
  | [] => .refl _
  | h :: t => (put_perm h (srt t)).trans ((srt_perm t).cons h)
theorem srt_up : ∀ l : List Int, Up (srt l)
  | [] => by simp [srt, Up]
  | h :: t => put_up h _ (srt_up t)
theorem up_unique : ∀ (a b : List Int), Up a → Up b → a.Perm b → a = b
  | [], b, _, _, h => by simpa using h.length_eq.symm
  | x :: a, [], _, _, h => by simpa using h.length_eq
  | x :: a, y :: b, ha, hb, h => by
    have h1 := List.pairwise_cons.1 ha
    have h2 := List.pairwise_cons.1 hb
    have e : x = y := by
      have hx : x ∈ y :: b := h.mem_iff.1 (by simp)
      have hy : y ∈ x :: a := h.mem_iff.2 (by simp)
      rcases List.mem_cons.1 hx with e | e
      · exact e
      · rcases List.mem_cons.1 hy with e' | e'
        · exact e'.symm
        · have := h1.1 y e'
          have := h2.1 x e
          omega
    subst e
    rw [up_unique a b h1.2 h2.2 (List.perm_cons x |>.1 h)]

/-- What is above a node, of so many steps at most. -/
def abv (par : List Int) : Nat → Int → List Int
  | 0, _ => []
  | m + 1, a => if a > 0 then rd par (a - 1) :: abv par m (rd par (a - 1)) else []
theorem abv_length (par : List Int) : ∀ (m : Nat) (a : Int), (abv par m a).length ≤ m
  | 0, a => by simp [abv]
  | m + 1, a => by
    rw [abv]
    have := abv_length par m (rd par (a - 1))
    split <;> simp <;> omega
theorem abv_range (par : List Int) (hp : ∀ x ∈ par, 0 ≤ x ∧ x ≤ par.length) : ∀ (m : Nat) (a : Int), 0 ≤ a → a ≤ par.length → ∀ x ∈ abv par m a, 0 ≤ x ∧ x ≤ par.length
  | 0, a, _, _, x, hx => by simp [abv] at hx
  | m + 1, a, h0, h1, x, hx => by
    rw [abv] at hx
    split at hx
    · have hr := hp _ (rd_mem par (a - 1) (by omega) (by omega))
      rcases List.mem_cons.1 hx with e | e
      · rw [e]; exact hr
      · exact abv_range par hp m _ hr.1 hr.2 x e
    · simp at hx
/-- All that is above a node. -/
def above (par : List Int) (a : Int) : List Int := abv par par.length a

theorem rise_unique : ∀ (a b : List Int), a.Pairwise (· < ·) → b.Pairwise (· < ·) → (∀ x, x ∈ a ↔ x ∈ b) → a = b
  | [], [], _, _, _ => rfl
  | [], y :: b, _, _, h => by have := (h y).2 (by simp); simp at this
  | x :: a, [], _, _, h => by have := (h x).1 (by simp); simp at this
  | x :: a, y :: b, ha, hb, h => by
    have h1 := List.pairwise_cons.1 ha
    have h2 := List.pairwise_cons.1 hb
    have e : x = y := by
      rcases List.mem_cons.1 ((h x).1 (by simp)) with e | e
      · exact e
      · rcases List.mem_cons.1 ((h y).2 (by simp)) with e' | e'
        · exact e'.symm
        · have := h1.1 y e'
          have := h2.1 x e
          omega
    subst e
    rw [rise_unique a b h1.2 h2.2 fun z => ?_]
    constructor
    · intro hz
      rcases List.mem_cons.1 ((h z).1 (by simp [hz])) with e | e
      · have := h1.1 z hz; omega
      · exact e
    · intro hz
      rcases List.mem_cons.1 ((h z).2 (by simp [hz])) with e | e
      · have := h2.1 z hz; omega
      · exact e
theorem srt_rising (l : List Int) (h : l.Nodup) : (srt l).Pairwise (· < ·) := by
  have h1 := srt_up l
  have h2 : (srt l).Nodup := (srt_perm l).nodup_iff.2 h
  refine List.pairwise_iff_getElem.2 fun i j hi hj hij => ?_
  have h3 := List.pairwise_iff_getElem.1 h1 i j hi hj hij
  have h4 := List.pairwise_iff_getElem.1 h2 i j hi hj hij
  omega

theorem spec_trAbove_l0 (par : List Int) (hp : ∀ x ∈ par, 0 ≤ x ∧ x ≤ par.length) (hl : par.length ≤ 1000) : ∀ (m : Nat) (a : Int) (out : List Int), 0 ≤ a → a ≤ par.length → climb par m a = true → out.length + m ≤ 5000 →
    Ev (fun k => spec_trAbove.l0 k par a out) (out ++ abv par m a)
  | 0, a, out, h0, h1, hc, ho => by
    simp only [climb, decide_eq_true_eq] at hc
    refine Ev.ret fun k => ?_
    rw [spec_trAbove.l0, if_neg (by omega), abv, List.append_nil]
  | m + 1, a, out, h0, h1, hc, ho => by
    rw [abv]
    by_cases c : a > 0
    · rw [climb, if_pos c] at hc
      have hr := hp _ (rd_mem par (a - 1) (by omega) (by omega))
      have ih := spec_trAbove_l0 par hp hl m (rd par (a - 1)) (out ++ [rd par (a - 1)]) hr.1 hr.2 hc (by simp; omega)
      have e : out ++ (rd par (a - 1) :: abv par m (rd par (a - 1))) = out ++ [rd par (a - 1)] ++ abv par m (rd par (a - 1)) := by simp
      rw [if_pos c, e]
      refine Ev.step (fun k => ?_) ih
      show spec_trAbove.l0 (k + 1) par a out = _
      rw [spec_trAbove.l0, if_pos c, w64 (by omega) (by omega), if_pos (by omega), if_pos (by omega), if_pos (by omega)]
    · rw [if_neg c, List.append_nil]
      refine Ev.ret fun k => ?_
      rw [spec_trAbove.l0, if_neg c]
theorem ev_spec_trAbove (par : List Int) (ht : isTr par = true) (a : Int) (h0 : 1 ≤ a) (h1 : a ≤ par.length) : Ev (fun k => spec_trAbove.f k par a) (above par a) := by
  obtain ⟨h8, h2, h3⟩ := (isTr_iff par).1 ht
  exact spec_trAbove_l0 par h2 (by omega) par.length a [] (by omega) h1 (h3 a h0 h1) (by simp; omega)

theorem impl_above_l0 (par : List Int) (hp : ∀ x ∈ par, 0 ≤ x ∧ x ≤ par.length) (hl : par.length ≤ 1000) : ∀ (m : Nat) (a : Int) (out : List Int), 0 ≤ a → a ≤ par.length → climb par m a = true → out.length + m ≤ 5000 →
    Ev (fun k => impl_above.l0 k par a out) (out ++ abv par m a)
  | 0, a, out, h0, h1, hc, ho => by
    simp only [climb, decide_eq_true_eq] at hc
    refine Ev.ret fun k => ?_
    rw [impl_above.l0, if_neg (by omega), abv, List.append_nil]
  | m + 1, a, out, h0, h1, hc, ho => by
    rw [abv]
    by_cases c : a > 0
    · rw [climb, if_pos c] at hc
      have hr := hp _ (rd_mem par (a - 1) (by omega) (by omega))
      have ih := impl_above_l0 par hp hl m (rd par (a - 1)) (out ++ [rd par (a - 1)]) hr.1 hr.2 hc (by simp; omega)
      have e : out ++ (rd par (a - 1) :: abv par m (rd par (a - 1))) = out ++ [rd par (a - 1)] ++ abv par m (rd par (a - 1)) := by simp
      rw [if_pos c, e]
      refine Ev.step (fun k => ?_) ih
      show impl_above.l0 (k + 1) par a out = _
      rw [impl_above.l0, if_pos c, w64 (by omega) (by omega), if_pos (by omega), if_pos (by omega), if_pos (by omega)]
    · rw [if_neg c, List.append_nil]
      refine Ev.ret fun k => ?_
      rw [impl_above.l0, if_neg c]
theorem ev_impl_above (par : List Int) (ht : isTr par = true) (a : Int) (h0 : 1 ≤ a) (h1 : a ≤ par.length) : Ev (fun k => impl_above.f k par a) (above par a) := by
  obtain ⟨h8, h2, h3⟩ := (isTr_iff par).1 ht
  exact impl_above_l0 par h2 (by omega) par.length a [] (by omega) h1 (h3 a h0 h1) (by simp; omega)

theorem mergeSort_srt (l : List Int) : (l.mergeSort fun x y => decide (x ≤ y)) = srt l := by
  refine up_unique _ _ ?_ (srt_up l) ((List.mergeSort_perm l _).trans (srt_perm l).symm)
  have h := List.pairwise_mergeSort (le := fun x y : Int => decide (x ≤ y)) (fun a b c h1 h2 => by simp at h1 h2 ⊢; omega) (fun a b => by simp; omega) l
  exact h.imp fun hab => by simpa using hab
theorem ev_impl_sortedL (l : List Int) (hl : l.length ≤ 10000000) : Ev (fun k => impl_sorted.f k l) (srt l) := by
  refine Ev.congr (fun k => ?_) (Ev.now (srt l))
  show impl_sorted.f k l = _
  rw [impl_sorted.f, if_pos hl, slices_Sort_int_int.f, if_pos (by omega), mergeSort_srt]

theorem ev_impl_sorted (l : List Int) (hl : l.length ≤ 12) : Ev (fun k => impl_sorted.f k l) (srt l) := ev_impl_sortedL l (by omega)

theorem dep_zero (par : List Int) : dep par 0 = 0 := by
  unfold dep
  cases par.length <;> simp [hgt]
theorem abv_dep (par : List Int) (ht : isTr par = true) : ∀ (m : Nat) (a : Int), 0 ≤ a → a ≤ par.length → (∀ x ∈ abv par m a, dep par x < dep par a) ∧ (abv par m a).Nodup
  | 0, a, _, _ => by simp [abv]
  | m + 1, a, h0, h1 => by
    obtain ⟨_, h2, _⟩ := (isTr_iff par).1 ht
    rw [abv]
    by_cases c : a > 0
    · rw [if_pos c]
      have hr := h2 _ (rd_mem par (a - 1) (by omega) (by omega))
      have hd := dep_step par ht a (by omega) h1
      have ih := abv_dep par ht m (rd par (a - 1)) hr.1 hr.2
      refine ⟨fun x hx => ?_, List.nodup_cons.2 ⟨fun hm => ?_, ih.2⟩⟩
      · rcases List.mem_cons.1 hx with e | e
        · rw [e]; omega
        · have := ih.1 x e; omega
      · have := ih.1 _ hm; omega
    · rw [if_neg c]; simp
/-- The numbers from one on that are in a list. -/
def rowsJ (ab : List Int) : Nat → Int → List Int
  | 0, _ => []
  | d + 1, j => if j ∈ ab then j :: rowsJ ab d (j + 1) else rowsJ ab d (j + 1)
theorem rowsJ_mem (ab : List Int) (x : Int) : ∀ (d : Nat) (j : Int), x ∈ rowsJ ab d j ↔ x ∈ ab ∧ j ≤ x ∧ x < j + d
  | 0, j => by
    simp only [rowsJ, List.not_mem_nil, false_iff]
    omega
  | d + 1, j => by
    have ih := rowsJ_mem ab x d (j + 1)
    rw [rowsJ]
    split
    · rename_i c
      rw [List.mem_cons, ih]
      constructor
      · rintro (e | ⟨h1, h2, h3⟩)
        · exact ⟨e ▸ c, by omega, by omega⟩
        · exact ⟨h1, by omega, by omega⟩
      · rintro ⟨h1, h2, h3⟩
        by_cases e : x = j
        · exact .inl e
        · exact .inr ⟨h1, by omega, by omega⟩
    · rename_i c
      rw [ih]
      constructor
      · rintro ⟨h1, h2, h3⟩
        exact ⟨h1, by omega, by omega⟩
      · rintro ⟨h1, h2, h3⟩
        have : x ≠ j := fun e => c (e ▸ h1)
        exact ⟨h1, by omega, by omega⟩
theorem rowsJ_rising (ab : List Int) : ∀ (d : Nat) (j : Int), (rowsJ ab d j).Pairwise (· < ·)
  | 0, j => by simp [rowsJ]
  | d + 1, j => by
    rw [rowsJ]
    split
    · refine List.pairwise_cons.2 ⟨fun x hx => ?_, rowsJ_rising ab d (j + 1)⟩
      have := ((rowsJ_mem ab x d (j + 1)).1 hx).2.1
      omega
    · exact rowsJ_rising ab d (j + 1)
theorem rowsJ_length (ab : List Int) : ∀ (d : Nat) (j : Int), (rowsJ ab d j).length ≤ d
  | 0, j => by simp [rowsJ]
  | d + 1, j => by
    have := rowsJ_length ab d (j + 1)
    rw [rowsJ]
    split <;> simp <;> omega
/-- The pairs of one node. -/
def rowOf (par : List Int) (a : Nat) : List (List Int) := (rowsJ (above par a) (par.length - a) ((a : Int) + 1)).map fun j => [(a : Int), j]
theorem rowOf_length (par : List Int) (a : Nat) : (rowOf par a).length ≤ par.length := by
  have := rowsJ_length (above par a) (par.length - a) ((a : Int) + 1)
  rw [rowOf, List.length_map]
  omega
/-- All pairs from one node on. -/
def rowsS (par : List Int) : Nat → Nat → List (List Int) → List (List Int)
  | 0, _, out => out
  | d + 1, a, out => rowsS par d (a + 1) (out ++ rowOf par a)
theorem rows_alike (par : List Int) (ht : isTr par = true) (a : Nat) (h0 : 1 ≤ a) (h1 : a ≤ par.length) : (srt (above par a)).filter (fun x => decide (x > (a : Int))) = rowsJ (above par a) (par.length - a) ((a : Int) + 1) := by
  obtain ⟨h8, h2, _⟩ := (isTr_iff par).1 ht
  have hn := (abv_dep par ht par.length a (by omega) (by omega)).2
  refine rise_unique _ _ ((srt_rising _ hn).filter _) (rowsJ_rising _ _ _) fun x => ?_
  rw [List.mem_filter, rowsJ_mem, (srt_perm _).mem_iff, decide_eq_true_eq]
  constructor
  · rintro ⟨h3, h4⟩
    have := abv_range par h2 par.length a (by omega) (by omega) x h3
    exact ⟨h3, by omega, by omega⟩
  · rintro ⟨h3, h4, h5⟩
    exact ⟨h3, by omega⟩
theorem spec_trPairs_l1 (par ab : List Int) (hp : par.length ≤ 8) (hab : ab.length ≤ 1000) (a : Nat) (ha : a ≤ 100) (r : List (List Int)) : ∀ (d : Nat) (j : Int) (out : List (List Int)), 0 ≤ j → j + d = (par.length : Int) + 1 → out.length + d ≤ 10000 →
    Ev (fun k => spec_trPairs.l0 k par (out ++ (rowsJ ab d j).map fun j => [(a : Int), j]) ((a : Int) + 1)) r →
    Ev (fun k => spec_trPairs.l1 k par out (a : Int) ab j) r
  | 0, j, out, h0, hj, ho, H => by
    refine Ev.step (fun k => ?_) H
    show spec_trPairs.l1 (k + 1) par out (a : Int) ab j = _
    rw [spec_trPairs.l1, if_neg (by omega), w64 (by omega) (by omega), rowsJ, List.map_nil, List.append_nil]
  | d + 1, j, out, h0, hj, ho, H => by
    refine Ev.step (f := fun k => (spec_l1Has.f k ab j).bind fun t => if t = true then (if out.length < 5864062014805 then spec_trPairs.l1 k par (out ++ [([(a : Int), j] : List Int)]) (a : Int) ab (wrap64 (j + 1)) else none) else spec_trPairs.l1 k par out (a : Int) ab (wrap64 (j + 1))) (fun k => ?_) ?_
    · rw [spec_trPairs.l1, if_pos (by omega)]
    refine Ev.bind (ev_spec_l1Has ab j (by omega)) ?_
    by_cases c : j ∈ ab
    · rw [rowsJ, if_pos c] at H
      have e : out ++ (j :: rowsJ ab d (j + 1)).map (fun j => [(a : Int), j]) = (out ++ [[(a : Int), j]]) ++ (rowsJ ab d (j + 1)).map (fun j => [(a : Int), j]) := by simp
      rw [e] at H
      have ih := spec_trPairs_l1 par ab hp hab a ha r d (j + 1) (out ++ [[(a : Int), j]]) (by omega) (by omega) (by simp; omega) H
      exact Ev.congr (fun k => by rw [if_pos (by simpa using c), if_pos (by omega), w64 (by omega) (by omega)]) ih
    · rw [rowsJ, if_neg c] at H
      have ih := spec_trPairs_l1 par ab hp hab a ha r d (j + 1) out (by omega) (by omega) (by omega) H
      exact Ev.congr (fun k => by rw [if_neg (by simpa using c), w64 (by omega) (by omega)]) ih
theorem spec_trPairs_l0 (par : List Int) (ht : isTr par = true) : ∀ (d a : Nat) (out : List (List Int)), 1 ≤ a → a + d = par.length + 1 → out.length ≤ 10 * a →
    Ev (fun k => spec_trPairs.l0 k par out (a : Int)) (rowsS par d a out)
  | 0, a, out, h0, h1, ho => by
    refine Ev.ret fun k => ?_
    rw [spec_trPairs.l0, if_neg (by omega), rowsS]
  | d + 1, a, out, h0, h1, ho => by
    obtain ⟨h8, h2, _⟩ := (isTr_iff par).1 ht
    have hr := rowOf_length par a
    have ih := spec_trPairs_l0 par ht d (a + 1) (out ++ rowOf par a) (by omega) (by omega) (by rw [List.length_append]; omega)
    rw [show ((a + 1 : Nat) : Int) = (a : Int) + 1 by omega] at ih
    have hab := abv_length par par.length a
    refine Ev.step (f := fun k => (spec_trAbove.f k par a).bind fun t => spec_trPairs.l1 k par out (a : Int) t (wrap64 ((a : Int) + 1))) (fun k => ?_) ?_
    · rw [spec_trPairs.l0, if_pos (by omega)]
    refine Ev.bind (ev_spec_trAbove par ht a (by omega) (by omega)) ?_
    rw [w64 (by omega) (by omega), rowsS]
    exact spec_trPairs_l1 par (above par a) h8 (by unfold above; omega) a (by omega) _ (par.length - a) ((a : Int) + 1) out (by omega) (by omega) (by omega) ih
theorem ev_spec_trPairs (par : List Int) (ht : isTr par = true) : Ev (fun k => spec_trPairs.f k par) (rowsS par par.length 1 []) :=
  spec_trPairs_l0 par ht par.length 1 [] (by omega) (by omega) (by simp)
theorem impl_inversions_l1 (par : List Int) (hp : par.length ≤ 8) (v : Nat) (hv : v ≤ 100) (r : List (List Int)) : ∀ (t p : List Int) (out : List (List Int)), p.length + t.length ≤ 1000 → out.length ≤ 1000 + p.length →
    Ev (fun k => impl_inversions.l0 k par (out ++ (t.filter fun x => decide (x > (v : Int) + 1)).map fun j => [(v : Int) + 1, j]) (par.length : Int) ((v : Int) + 1)) r →
    Ev (fun k => impl_inversions.l1 k par out (v : Int) (par.length : Int) (v : Int) (p ++ t) ((p ++ t).length : Int) (p.length : Int)) r
  | [], p, out, hn, ho, H => by
    refine Ev.step (fun k => ?_) H
    show impl_inversions.l1 (k + 1) par out (v : Int) (par.length : Int) (v : Int) (p ++ []) ((p ++ []).length : Int) (p.length : Int) = _
    rw [impl_inversions.l1, if_neg (by simp), w64 (by omega) (by omega)]
    simp
  | x :: t, p, out, hn, ho, H => by
    have hn' : p.length + t.length + 1 ≤ 1000 := by simpa [Nat.add_assoc] using hn
    have hm := len_mid p x t
    by_cases c : x > (v : Int) + 1
    · rw [List.filter_cons_of_pos (by simpa using c)] at H
      have e : out ++ (x :: t.filter fun x => decide (x > (v : Int) + 1)).map (fun j => [(v : Int) + 1, j]) = (out ++ [[(v : Int) + 1, x]]) ++ (t.filter fun x => decide (x > (v : Int) + 1)).map (fun j => [(v : Int) + 1, j]) := by simp
      rw [e] at H
      have ih := impl_inversions_l1 par hp v hv r t (p ++ [x]) (out ++ [[(v : Int) + 1, x]]) (by simp; omega) (by simp; omega) H
      rw [app_snoc p x t, len_snoc p x] at ih
      refine Ev.step (fun k => ?_) ih
      show impl_inversions.l1 (k + 1) par out (v : Int) (par.length : Int) (v : Int) (p ++ x :: t) ((p ++ x :: t).length : Int) (p.length : Int) = _
      rw [impl_inversions.l1, if_pos (by omega), if_pos (by omega), if_pos (by omega), rd_mid, w64 (by omega) (by omega), if_pos c, if_pos (by omega), w64 (by omega) (by omega)]
    · rw [List.filter_cons_of_neg (by simpa using c)] at H
      have ih := impl_inversions_l1 par hp v hv r t (p ++ [x]) out (by simp; omega) (by simp; omega) H
      rw [app_snoc p x t, len_snoc p x] at ih
      refine Ev.step (fun k => ?_) ih
      show impl_inversions.l1 (k + 1) par out (v : Int) (par.length : Int) (v : Int) (p ++ x :: t) ((p ++ x :: t).length : Int) (p.length : Int) = _
      rw [impl_inversions.l1, if_pos (by omega), if_pos (by omega), if_pos (by omega), rd_mid, w64 (by omega) (by omega), if_neg c, w64 (by omega) (by omega)]
theorem impl_inversions_l0 (par : List Int) (ht : isTr par = true) : ∀ (d v : Nat) (out : List (List Int)), v + d = par.length → out.length ≤ 10 * (v + 1) →
    Ev (fun k => impl_inversions.l0 k par out (par.length : Int) (v : Int)) (rowsS par d (v + 1) out)
  | 0, v, out, h1, ho => by
    refine Ev.ret fun k => ?_
    rw [impl_inversions.l0, if_neg (by omega), rowsS]
  | d + 1, v, out, h1, ho => by
    obtain ⟨h8, h2, _⟩ := (isTr_iff par).1 ht
    have hr := rowOf_length par (v + 1)
    have ih := impl_inversions_l0 par ht d (v + 1) (out ++ rowOf par (v + 1)) (by omega) (by rw [List.length_append]; omega)
    have ev : ((v + 1 : Nat) : Int) = (v : Int) + 1 := by omega
    rw [ev] at ih
    have hab : (above par ((v : Int) + 1)).length ≤ par.length := abv_length par par.length ((v : Int) + 1)
    have hsl := (srt_perm (above par ((v : Int) + 1))).length_eq
    have hra := rows_alike par ht (v + 1) (by omega) (by omega)
    refine Ev.step (f := fun k => (impl_above.f k par ((v : Int) + 1)).bind fun t => (impl_sorted.f k t).bind fun t => impl_inversions.l1 k par out (v : Int) (par.length : Int) (v : Int) t (t.length : Int) 0) (fun k => ?_) ?_
    · rw [impl_inversions.l0, if_pos (by omega), w64 (by omega) (by omega)]
    refine Ev.bind (ev_impl_above par ht ((v : Int) + 1) (by omega) (by omega)) ?_
    refine Ev.bind (ev_impl_sorted _ (by omega)) ?_
    refine impl_inversions_l1 par h8 v (by omega) _ (srt (above par ((v : Int) + 1))) [] out (by simp; omega) (by simp; omega) ?_
    rw [rowOf, ev] at ih
    rw [ev] at hra
    rw [hra, rowsS, rowOf, ev]
    exact ih
theorem ev_impl_inversions (par : List Int) (ht : isTr par = true) : Ev (fun k => impl_inversions.f k par) (rowsS par par.length 1 []) :=
  impl_inversions_l0 par ht par.length 0 [] (by omega) (by simp)

theorem rd_L1_mid (p : List (List Int)) (h : List Int) (t : List (List Int)) : rd_L1 (p ++ h :: t) (p.length : Int) = h := by
  unfold rd_L1
  simp

/-- The trees counted by their pairs. -/
def cbi : List (List Int) → List Int → List Int
  | [], out => out
  | t :: ts, out => cbi ts (out.set (rowsS t t.length 1 []).length (wrap64 (rd out ((rowsS t t.length 1 []).length : Int) + 1)))
theorem cbi_length : ∀ (ts : List (List Int)) (out : List Int), (cbi ts out).length = out.length
  | [], _ => rfl
  | t :: ts, out => by rw [cbi, cbi_length ts, List.length_set]
theorem rowsS_tight (par : List Int) : ∀ (d a : Nat) (out : List (List Int)), a + d = par.length + 1 → 2 * (rowsS par d a out).length ≤ 2 * out.length + d * (d - 1)
  | 0, a, out, _ => by simp [rowsS]
  | d + 1, a, out, h => by
    have ih := rowsS_tight par d (a + 1) (out ++ rowOf par a) (by omega)
    have h2 : (rowOf par a).length ≤ d := by
      have := rowsJ_length (above par a) (par.length - a) ((a : Int) + 1)
      rw [rowOf, List.length_map]
      omega
    rw [List.length_append] at ih
    rw [rowsS]
    have e : (d + 1) * (d + 1 - 1) = d * (d - 1) + 2 * d := by
      rw [Nat.add_sub_cancel]
      cases d with
      | zero => rfl
      | succ c =>
        rw [Nat.add_sub_cancel, Nat.add_mul, Nat.mul_add, Nat.add_mul]
        omega
    omega
/-- So long is the table. -/
def szT (n : Nat) : Nat := n * (n - 1) / 2 + 1
theorem szT_eq (n : Nat) (h1 : 1 ≤ n) (h5 : n ≤ 5) : wrap64 (wrap64 (Int.tdiv (wrap64 ((n : Int) * wrap64 ((n : Int) - 1))) 2) + 1) = (szT n : Int) := by
  have : ∀ m : Nat, m < 5 → wrap64 (wrap64 (Int.tdiv (wrap64 (((m + 1 : Nat) : Int) * wrap64 (((m + 1 : Nat) : Int) - 1))) 2) + 1) = (szT (m + 1) : Int) := by decide +kernel
  have h := this (n - 1) (by omega)
  rwa [show n - 1 + 1 = n by omega] at h
theorem pairs_in (n : Nat) (t : List Int) (hl : t.length = n) : (rowsS t t.length 1 []).length < szT n := by
  have h := rowsS_tight t t.length 1 [] (by omega)
  unfold szT
  rw [hl] at h
  simp only [List.length_nil, Nat.mul_zero, Nat.zero_add] at h
  rw [hl]
  omega
theorem spec_cbi (n : Nat) (hn : szT n ≤ 1000) : ∀ (ts p : List (List Int)) (out : List Int), p.length + ts.length ≤ 100000 → (∀ t ∈ ts, t.length = n ∧ isTr t = true) → out.length = szT n →
    Ev (fun k => spec_CountByInversions.l0 k out (p ++ ts) ((p ++ ts).length : Int) (p.length : Int)) (cbi ts out, true)
  | [], p, out, _, _, _ => Ev.ret fun k => by rw [spec_CountByInversions.l0, if_neg (by simp), cbi]
  | t :: ts, p, out, hp, ht, ho => by
    have hp' : p.length + ts.length + 1 ≤ 100000 := by simpa [Nat.add_assoc] using hp
    obtain ⟨t1, t2⟩ := ht t (List.mem_cons_self ..)
    have hx := pairs_in n t t1
    have ih := spec_cbi n hn ts (p ++ [t]) (out.set (rowsS t t.length 1 []).length (wrap64 (rd out ((rowsS t t.length 1 []).length : Int) + 1))) (by simp; omega) (fun y hy => ht y (List.mem_cons_of_mem _ hy)) (by rw [List.length_set]; exact ho)
    have e1 : (p ++ [t]) ++ ts = p ++ t :: ts := by simp
    have e2 : (((p ++ [t]).length : Nat) : Int) = (p.length : Int) + 1 := by simp
    have hm : ((p ++ t :: ts).length : Int) = (p.length : Int) + ts.length + 1 := by simp; omega
    rw [e1, e2] at ih
    refine Ev.step (fun k => by rw [spec_CountByInversions.l0, if_pos (by omega), if_pos (by omega), if_pos (by omega), rd_L1_mid]) (Ev.bind (ev_spec_trPairs t t2) ?_)
    exact Ev.congr (fun k => by rw [if_pos (by omega), if_pos (by omega), Int.toNat_natCast, w64 (x := (p.length : Int) + 1) (by omega) (by omega)]) ih
theorem impl_cbi (n : Nat) (hn : szT n ≤ 1000) : ∀ (ts p : List (List Int)) (out : List Int), p.length + ts.length ≤ 100000 → (∀ t ∈ ts, t.length = n ∧ isTr t = true) → out.length = szT n →
    Ev (fun k => impl_CountByInversions.l0 k out (p ++ ts) ((p ++ ts).length : Int) (p.length : Int)) (cbi ts out, true)
  | [], p, out, _, _, _ => Ev.ret fun k => by rw [impl_CountByInversions.l0, if_neg (by simp), cbi]
  | t :: ts, p, out, hp, ht, ho => by
    have hp' : p.length + ts.length + 1 ≤ 100000 := by simpa [Nat.add_assoc] using hp
    obtain ⟨t1, t2⟩ := ht t (List.mem_cons_self ..)
    have hx := pairs_in n t t1
    have ih := impl_cbi n hn ts (p ++ [t]) (out.set (rowsS t t.length 1 []).length (wrap64 (rd out ((rowsS t t.length 1 []).length : Int) + 1))) (by simp; omega) (fun y hy => ht y (List.mem_cons_of_mem _ hy)) (by rw [List.length_set]; exact ho)
    have e1 : (p ++ [t]) ++ ts = p ++ t :: ts := by simp
    have e2 : (((p ++ [t]).length : Nat) : Int) = (p.length : Int) + 1 := by simp
    have hm : ((p ++ t :: ts).length : Int) = (p.length : Int) + ts.length + 1 := by simp; omega
    rw [e1, e2] at ih
    refine Ev.step (fun k => by rw [impl_CountByInversions.l0, if_pos (by omega), if_pos (by omega), if_pos (by omega), rd_L1_mid]) (Ev.bind (ev_impl_inversions t t2) ?_)
    exact Ev.congr (fun k => by rw [if_pos (by omega), if_pos (by omega), Int.toNat_natCast, w64 (x := (p.length : Int) + 1) (by omega) (by omega)]) ih
/-- What CountByInversions answers. -/
def cbiR (n : Int) : List Int × Bool := if 0 ≤ n ∧ n ≤ 5 then (if n = 0 then ([1], true) else (cbi (treesN n.toNat) (List.replicate (szT n.toNat) 0), true)) else ([], false)
theorem ev_CountByInversions (n : Int) : Ev (fun k => spec_CountByInversions.f k n) (cbiR n) ∧ Ev (fun k => impl_CountByInversions.f k n) (cbiR n) := by
  unfold cbiR
  by_cases c : 0 ≤ n ∧ n ≤ 5
  · rw [if_pos c]
    have e1 : spec_l1In.f n 0 5 = some true := by rw [spec_l1In.f, if_pos (by omega), decide_eq_true (by omega)]
    have e2 : impl_between.f n 0 5 = some true := by rw [impl_between.f, if_pos (by omega), decide_eq_true (by omega)]
    by_cases c0 : n = 0
    · rw [if_pos c0]
      refine ⟨?_, ?_⟩
      · exact Ev.congr (fun k => by rw [spec_CountByInversions.f, e1, Option.bind_some, if_pos rfl, if_pos c0]) (Ev.now _)
      · exact Ev.congr (fun k => by rw [impl_CountByInversions.f, e2, Option.bind_some, if_pos rfl, if_pos c0]) (Ev.now _)
    · rw [if_neg c0]
      obtain ⟨m, rfl⟩ := Int.eq_ofNat_of_zero_le (show 0 ≤ n by omega)
      have hz := szT_eq m (by omega) (by omega)
      have hz2 : szT m ≤ 1000 := by
        have : ∀ i : Nat, i < 6 → szT i ≤ 1000 := by decide
        exact this m (by omega)
      obtain ⟨h1, h2⟩ := treesN_rows m (by omega) (by omega)
      rw [Int.toNat_natCast]
      refine ⟨?_, ?_⟩
      · refine Ev.congr (fun k => by rw [spec_CountByInversions.f, e1, Option.bind_some, if_pos rfl, if_neg c0, hz, if_pos (by omega), if_pos (by omega), Int.toNat_natCast]) (Ev.bind (ev_spec_trAll m (by omega) (by omega)) ?_)
        have := spec_cbi m hz2 (treesN m) [] (List.replicate (szT m) 0) (by simp; omega) h2 (by simp)
        exact this
      · refine Ev.congr (fun k => by rw [impl_CountByInversions.f, e2, Option.bind_some, if_pos rfl, if_neg c0, hz, if_pos (by omega), if_pos (by omega), Int.toNat_natCast]) (Ev.bind (ev_impl_allTrees m (by omega) (by omega)) ?_)
        have := impl_cbi m hz2 (treesN m) [] (List.replicate (szT m) 0) (by simp; omega) h2 (by simp)
        exact this
  · rw [if_neg c]
    have e1 : ∃ b, spec_l1In.f n 0 5 = some b ∧ b = false := by
      unfold spec_l1In.f
      by_cases d : n ≥ 0
      · rw [if_pos d]; exact ⟨_, rfl, decide_eq_false (by omega)⟩
      · rw [if_neg d]; exact ⟨_, rfl, rfl⟩
    have e2 : ∃ b, impl_between.f n 0 5 = some b ∧ b = false := by
      unfold impl_between.f
      by_cases d : n ≥ 0
      · rw [if_pos d]; exact ⟨_, rfl, decide_eq_false (by omega)⟩
      · rw [if_neg d]; exact ⟨_, rfl, rfl⟩
    obtain ⟨b1, e1, rfl⟩ := e1
    obtain ⟨b2, e2, rfl⟩ := e2
    refine ⟨?_, ?_⟩
    · exact Ev.congr (fun k => by rw [spec_CountByInversions.f, e1, Option.bind_some, if_neg (by simp)]) (Ev.now _)
    · exact Ev.congr (fun k => by rw [impl_CountByInversions.f, e2, Option.bind_some, if_neg (by simp)]) (Ev.now _)
theorem countByInversions_both (n : Int) : ∃ r : List Int × Bool, r.1.length ≤ 35184372088832 ∧ Ev (fun k => spec_CountByInversions.f k n) r ∧ Ev (fun k => impl_CountByInversions.f k n) r := by
  refine ⟨cbiR n, ?_, (ev_CountByInversions n).1, (ev_CountByInversions n).2⟩
  unfold cbiR
  split
  · rename_i c
    split
    · simp
    · show (cbi _ _).length ≤ _
      rw [cbi_length, List.length_replicate]
      have : ∀ i : Nat, i < 6 → szT i ≤ 1000 := by decide
      have := this n.toNat (by omega)
      omega
  · simp

theorem FnExactCountByInversions : laws_FnExactCountByInversions.Pure := by
  intro i0 _
  obtain ⟨r, hr, hs, hi⟩ := countByInversions_both i0
  refine Ev.rounds ?_
  refine Ev.congr (fun k => by rw [laws_FnExactCountByInversions.f]) ?_
  refine Ev.bind (hs) ?_
  refine Ev.bind (hi) ?_
  refine Ev.bind (ev_eqIntS r.1 hr) ?_
  refine Ev.congr (fun k => by rw [if_pos rfl, bne_self_eq_false]) ?_
  refine Ev.step (fun k => by rw [laws_FnExactCountByInversions.j0, if_neg (by simp)]) ?_
  refine Ev.bind (ev_markIntS r.1 1 (by omega) (by omega) hr) ?_
  refine Ev.bind (ev_heldIntS 1 r.1.length (by omega) (by omega) hr) ?_
  refine Ev.congr (fun k => by rw [if_neg (by omega), if_pos rfl]) ?_
  refine Ev.bind (hi) ?_
  refine Ev.bind (ev_eqIntS r.1 hr) ?_
  refine Ev.congr (fun k => by rw [if_pos rfl, bne_self_eq_false]) ?_
  refine Ev.step (fun k => by rw [laws_FnExactCountByInversions.j1, if_neg (by simp)]) ?_
  refine Ev.bind (ev_heldIntS 1 r.1.length (by omega) (by omega) hr) ?_
  refine Ev.congr (fun k => by rw [if_neg (by omega), if_pos rfl]) ?_
  exact Ev.now true

end Go.Proofs.Ytmollfkakalagaa.Pure
