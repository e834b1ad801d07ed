/- TreeOfPrufer of the program and of the reference agree on every list, the argument stays, and nothing is shared. -/
import Derived.Test.YtmollfkakalagaaWSized
import Derived.Test.YtmollfkakalagaaPFnExactTreeOfPruferx
namespace Go.Proofs.Ytmollfkakalagaa.PrintWords
open Go.ChangeShapes Go.WideShapes
/-- The word by the name that the printed row asks for. -/
theorem sized_ints {H : Type} {enc : TypeId × Value → H} {P : Program} {W : World} {base : Nat} {spare : Nat → Bool} {held : Bool} {t e : TypeId} {k : IntKind} {a : Option Addr} {len cap : Nat} {d : DataW H} {ps : List MemPlace} {ts : List TypeId} {ds : List (DataW H)} {j : Nat}
    (hsz : (DataW.weightsEach P ts ds).all (· ≤ reachBytes) = true) (ht : ts[j]? = some t) (hd : ds[j]? = some d) (hu : P.underlying t = some (.slice e)) (he : P.underlying e = some (.int k)) (hc : P.cellsOf e = 1) {B : Nat} (hB : P.bytesOf e = B)
    (h : DataW.Trod enc P W base spare held t (.slice a len cap) d ps) : len * B ≤ 140737488351232 :=
  Go.Proofs.YtmollfkakalagaaW.PrintWords.sized_ints hsz ht hd hu he hc hB h
end Go.Proofs.Ytmollfkakalagaa.PrintWords
namespace Go.Proofs.Ytmollfkakalagaa.Pure
open Go.RowKit Go.Proofs.Ytmollfkakalagaa.PFnExactTreeOfPrufer Go.Proofs.YtmollfkakalagaaW.PrintWords Go.Proofs.YtmollfkakalagaaW.PrintLast
set_option linter.unusedVariables false
set_option linter.unusedSimpArgs false

theorem w64 {x : Int} (h0 : -9223372036854775808 ≤ x) (h1 : x ≤ 9223372036854775807) : wrap64 x = x := by
  unfold wrap64
  omega
theorem rd_mid (p : List Int) (h : Int) (t : List Int) : rd (p ++ h :: t) (p.length : Int) = h := by
  unfold rd
  simp
theorem rd_nat (l : List Int) (i : Nat) : rd l (i : Int) = l.getD i 0 := by
  unfold rd
  simp
theorem Ev.ret {α : Type} {g : Nat → Option α} {r : α} (h : ∀ k, g (k + 1) = some r) : Ev g r :=
  Ev.step (f := fun _ => some r) h (Ev.now r)

theorem toIntS_l0 : ∀ (t p : List Int), p.length + t.length ≤ 35184372088832 →
    Ev (fun k => laws_toIntS.l0 k (p ++ t) (p ++ List.replicate t.length 0) (p.length : Int)) (p ++ t)
  | [], p, _ => by
    refine Ev.ret fun k => ?_
    rw [laws_toIntS.l0, if_neg (by simp)]
    simp
  | h :: t, p, hn => by
    have hn' : p.length + t.length + 1 ≤ 35184372088832 := by simpa [Nat.add_assoc] using hn
    have ih := toIntS_l0 t (p ++ [h]) (by simp; omega)
    have e1 : (p ++ [h]) ++ t = p ++ h :: t := by simp
    have e2 : (((p ++ [h]).length : Nat) : Int) = (p.length : Int) + 1 := by simp
    rw [e1, e2] at ih
    refine Ev.step (fun k => ?_) ih
    show laws_toIntS.l0 (k + 1) (p ++ h :: t) (p ++ List.replicate (h :: t).length 0) (p.length : Int) = _
    rw [laws_toIntS.l0, if_pos (by simp; omega), if_pos (by omega), if_pos (by simp; omega), rd_mid, w64 (by omega) (by omega)]
    congr 1
    simp [List.replicate_succ, List.set_append]
theorem ev_toIntS (l : List Int) (h : l.length ≤ 35184372088832) : Ev (fun k => laws_toIntS.f k l) l := by
  have z := toIntS_l0 l [] (by simpa using h)
  refine Ev.congr (fun k => ?_) z
  show laws_toIntS.f k l = _
  rw [laws_toIntS.f, if_pos (by omega), if_pos (by simpa using h)]
  simp

theorem eqIntS_l0 : ∀ (t p : List Int), p.length + t.length ≤ 35184372088832 →
    Ev (fun k => laws_eqIntS.l0 k (p ++ t) (p ++ t) (p.length : Int)) true
  | [], p, _ => by
    refine Ev.ret fun k => ?_
    rw [laws_eqIntS.l0, if_neg (by simp)]
  | h :: t, p, hn => by
    have hn' : p.length + t.length + 1 ≤ 35184372088832 := by simpa [Nat.add_assoc] using hn
    have ih := eqIntS_l0 t (p ++ [h]) (by simp; omega)
    have e1 : (p ++ [h]) ++ t = p ++ h :: t := by simp
    have e2 : (((p ++ [h]).length : Nat) : Int) = (p.length : Int) + 1 := by simp
    rw [e1, e2] at ih
    refine Ev.step (fun k => ?_) ih
    show laws_eqIntS.l0 (k + 1) (p ++ h :: t) (p ++ h :: t) (p.length : Int) = _
    rw [laws_eqIntS.l0, if_pos (by simp; omega), if_pos (by omega), if_pos (by simp; omega), rd_mid, if_pos rfl, w64 (by omega) (by omega)]
theorem ev_eqIntS (l : List Int) (h : l.length ≤ 35184372088832) : Ev (fun k => laws_eqIntS.f k l l) true := by
  have z := eqIntS_l0 l [] (by simpa using h)
  refine Ev.congr (fun k => ?_) z
  show laws_eqIntS.f k l l = _
  rw [laws_eqIntS.f, if_pos rfl]
  rfl

/-- n numbers from one on. -/
def marks (k : Int) : Nat → List Int
  | 0 => []
  | n + 1 => k :: marks (k + 1) n
theorem marks_length : ∀ (n : Nat) (k : Int), (marks k n).length = n
  | 0, _ => rfl
  | n + 1, k => by simp [marks, marks_length n]
theorem markIntS_l0 : ∀ (t p : List Int) (k : Int), 0 ≤ k → k + t.length ≤ 4611686018427387904 → p.length + t.length ≤ 35184372088832 →
    Ev (fun n => laws_markIntS.l0 n (p ++ t) k (p.length : Int)) (k + t.length, p ++ marks k t.length)
  | [], p, k, _, _, _ => by
    refine Ev.ret fun n => ?_
    rw [laws_markIntS.l0, if_neg (by simp)]
    simp [marks]
  | h :: t, p, k, h0, hk, hn => by
    have hn' : p.length + t.length + 1 ≤ 35184372088832 := by simpa [Nat.add_assoc] using hn
    have hk' : k + (t.length : Int) + 1 ≤ 4611686018427387904 := by simp at hk; omega
    have ih := markIntS_l0 t (p ++ [k]) (k + 1) (by omega) (by omega) (by simp; omega)
    have e1 : (p ++ [k]) ++ t = p ++ k :: t := by simp
    have e2 : (((p ++ [k]).length : Nat) : Int) = (p.length : Int) + 1 := by simp
    rw [e1, e2] at ih
    have e3 : ((k + ((h :: t).length : Int), p ++ marks k (h :: t).length) : Int × List Int) = (k + 1 + (t.length : Int), p ++ [k] ++ marks (k + 1) t.length) := by
      simp [marks]; omega
    rw [e3]
    refine Ev.step (fun n => ?_) ih
    show laws_markIntS.l0 (n + 1) (p ++ h :: t) k (p.length : Int) = _
    rw [laws_markIntS.l0, if_pos (by simp; omega), if_pos (by omega), w64 (by omega) (by omega), w64 (by omega) (by omega)]
    congr 1
    simp [List.set_append]
theorem ev_markIntS (l : List Int) (k : Int) (h0 : 0 ≤ k) (hk : k ≤ 4000000000000000000) (hl : l.length ≤ 35184372088832) : Ev (fun n => laws_markIntS.f n l k) (k + l.length, marks k l.length) :=
  markIntS_l0 l [] k h0 (by omega) (by simpa using hl)
theorem heldIntS_l0 : ∀ (m : Nat) (p : List Int) (k : Int), 0 ≤ k → k + m ≤ 4611686018427387904 → p.length + m ≤ 35184372088832 →
    Ev (fun n => laws_heldIntS.l0 n (p ++ marks k m) k (p.length : Int)) (k + m)
  | 0, p, k, _, _, _ => by
    refine Ev.ret fun n => ?_
    rw [laws_heldIntS.l0, if_neg (by simp [marks])]
    simp
  | m + 1, p, k, h0, hk, hn => by
    have ih := heldIntS_l0 m (p ++ [k]) (k + 1) (by omega) (by omega) (by simp; omega)
    have e1 : (p ++ [k]) ++ marks (k + 1) m = p ++ k :: marks (k + 1) m := by simp
    have e2 : (((p ++ [k]).length : Nat) : Int) = (p.length : Int) + 1 := by simp
    rw [e1, e2] at ih
    have e3 : k + ((m + 1 : Nat) : Int) = k + 1 + (m : Int) := by omega
    rw [e3]
    refine Ev.step (fun n => ?_) ih
    show laws_heldIntS.l0 (n + 1) (p ++ k :: marks (k + 1) m) k (p.length : Int) = _
    rw [laws_heldIntS.l0, if_pos (by simp; omega), if_pos (by omega), rd_mid, if_pos rfl, w64 (by omega) (by omega), w64 (by omega) (by omega)]
theorem ev_heldIntS (k : Int) (m : Nat) (h0 : 0 ≤ k) (hk : k ≤ 4000000000000000000) (hm : m ≤ 35184372088832) : Ev (fun n => laws_heldIntS.f n (marks k m) k) (k + m) :=
  heldIntS_l0 m [] k h0 (by omega) (by simpa using hm)

/-- One step of a walk along a list: what stands behind the place. -/
theorem len_snoc (p : List Int) (h : Int) : (((p ++ [h]).length : Nat) : Int) = (p.length : Int) + 1 := by simp
theorem app_snoc (p : List Int) (h : Int) (t : List Int) : (p ++ [h]) ++ t = p ++ h :: t := by simp
theorem len_mid (p : List Int) (h : Int) (t : List Int) : ((p ++ h :: t).length : Int) = (p.length : Int) + t.length + 1 := by simp; omega

/-- All numbers lie from lo to hi. -/
def inAll (lo hi : Int) (l : List Int) : Bool := l.all fun n => decide (lo ≤ n) && decide (n ≤ hi)
theorem inAll_iff (lo hi : Int) (l : List Int) : inAll lo hi l = true ↔ ∀ x ∈ l, lo ≤ x ∧ x ≤ hi := by
  simp [inAll, List.all_eq_true]
theorem inAll_cons (lo hi x : Int) (l : List Int) : inAll lo hi (x :: l) = ((decide (lo ≤ x) && decide (x ≤ hi)) && inAll lo hi l) := by
  simp [inAll]

/-- Parents lead to the root in so many steps at most. -/
def climb (par : List Int) : Nat → Int → Bool
  | 0, a => decide (a ≤ 0)
  | m + 1, a => if a > 0 then climb par m (rd par (a - 1)) else true
theorem climb_more (par : List Int) : ∀ (m : Nat) (a : Int), climb par m a = true → climb par (m + 1) a = true
  | 0, a, h => by
    simp only [climb, decide_eq_true_eq] at h
    simp only [climb]
    rw [if_neg (by omega)]
  | m + 1, a, h => by
    rw [climb]
    by_cases c : a > 0
    · rw [if_pos c]
      rw [climb, if_pos c] at h
      exact climb_more par m _ h
    · rw [if_neg c]
/-- The node so many steps above. -/
def up (par : List Int) : Nat → Int → Int
  | 0, a => a
  | m + 1, a => up par m (rd par (a - 1))
theorem climb_up (par : List Int) : ∀ (m : Nat) (a : Int), climb par m a = true ↔ ∃ j, j ≤ m ∧ up par j a ≤ 0
  | 0, a => by
    simp only [climb, decide_eq_true_eq]
    constructor
    · exact fun h => ⟨0, Nat.le_refl _, h⟩
    · rintro ⟨j, hj, h⟩
      obtain rfl : j = 0 := by omega
      exact h
  | m + 1, a => by
    rw [climb]
    by_cases c : a > 0
    · rw [if_pos c, climb_up par m]
      constructor
      · rintro ⟨j, hj, h⟩
        exact ⟨j + 1, by omega, h⟩
      · rintro ⟨j, hj, h⟩
        cases j with
        | zero => exact absurd h (by simp only [up]; omega)
        | succ j => exact ⟨j, by omega, h⟩
    · rw [if_neg c]
      exact ⟨fun _ => ⟨0, by omega, by simp only [up]; omega⟩, fun _ => rfl⟩
theorem up_add (par : List Int) : ∀ (i j : Nat) (a : Int), up par (i + j) a = up par j (up par i a)
  | 0, j, a => by rw [Nat.zero_add]; rfl
  | i + 1, j, a => by
    rw [Nat.add_right_comm]
    exact up_add par i j (rd par (a - 1))
/-- Of n + 1 numbers from 1 to n two are alike. -/
theorem two_alike : ∀ (n : Nat) (f : Nat → Int), (∀ i, i ≤ n → 1 ≤ f i ∧ f i ≤ n) → ∃ i j, i < j ∧ j ≤ n ∧ f i = f j
  | 0, f, h => by have := h 0 (by omega); omega
  | n + 1, f, h => by
    by_cases c : ∃ i, i ≤ n ∧ f i = f (n + 1)
    · obtain ⟨i, hi, e⟩ := c
      exact ⟨i, n + 1, by omega, by omega, e⟩
    · -- the last one's value is left out
      let g : Nat → Int := fun i => if f i > f (n + 1) then f i - 1 else f i
      have hg : ∀ i, i ≤ n → 1 ≤ g i ∧ g i ≤ n := by
        intro i hi
        have h1 := h i (by omega)
        have h2 := h (n + 1) (by omega)
        have h3 : f i ≠ f (n + 1) := fun e => c ⟨i, hi, e⟩
        show 1 ≤ (if f i > f (n + 1) then f i - 1 else f i) ∧ (if f i > f (n + 1) then f i - 1 else f i) ≤ n
        split <;> omega
      obtain ⟨i, j, hij, hj, e⟩ := two_alike n g hg
      have h3 : f i ≠ f (n + 1) := fun e => c ⟨i, by omega, e⟩
      have h4 : f j ≠ f (n + 1) := fun e => c ⟨j, by omega, e⟩
      refine ⟨i, j, hij, by omega, ?_⟩
      have e' : (if f i > f (n + 1) then f i - 1 else f i) = (if f j > f (n + 1) then f j - 1 else f j) := e
      split at e' <;> split at e' <;> omega
/-- What is reached in n + 1 steps is reached in n. -/
theorem climb_less (par : List Int) (hp : ∀ x ∈ par, 0 ≤ x ∧ x ≤ par.length) (a : Int) (ha0 : 0 ≤ a) (ha : a ≤ par.length) (h : climb par (par.length + 1) a = true) : climb par par.length a = true := by
  rw [climb_up] at h ⊢
  obtain ⟨j, hj, hu⟩ := h
  by_cases c : ∃ i, i ≤ par.length ∧ up par i a ≤ 0
  · exact c
  · exfalso
    have hpos : ∀ i, i ≤ par.length → 1 ≤ up par i a := fun i hi => by
      have : ¬ up par i a ≤ 0 := fun e => c ⟨i, hi, e⟩
      omega
    have hle : ∀ i, i ≤ par.length → up par i a ≤ par.length := by
      intro i
      induction i with
      | zero => intro _; exact ha
      | succ i ih =>
        intro hi
        have h1 := hpos i (by omega)
        have h2 := ih (by omega)
        rw [up_add par i 1]
        have hr : rd par (up par i a - 1) ∈ par := by
          unfold rd
          rw [List.getD_eq_getElem?_getD, List.getElem?_eq_getElem (by omega)]
          exact List.getElem_mem _
        exact (hp _ hr).2
    obtain ⟨i, k, hik, hk, e⟩ := two_alike par.length (fun i => up par i a) (fun i hi => ⟨hpos i hi, hle i hi⟩)
    have e : up par i a = up par k a := e
    -- j = n + 1: the same place stood earlier
    have hj' : j = par.length + 1 := by
      rcases Nat.lt_or_ge par.length j with h1 | h1
      · omega
      · exact absurd ⟨j, h1, hu⟩ c
    have e2 : up par j a = up par (i + (j - k)) a := by
      rw [show j = k + (j - k) by omega, up_add par k, up_add par i, ← e]
      congr 1
      omega
    have := hpos (i + (j - k)) (by omega)
    omega
/-- A tree: parents lead to the root from each node. -/
def isTr (par : List Int) : Bool := decide (par.length ≤ 8) && inAll 0 par.length par && (List.range par.length).all fun i => climb par par.length ((i : Int) + 1)

theorem nodup_at {l : List Int} (h : l.Nodup) {i j : Nat} (hi : i < j) (hj : j < l.length) : l[i]'(by omega) ≠ l[j] :=
  List.pairwise_iff_getElem.1 h i j (by omega) hj hi
theorem nodup_length (n : Nat) (l : List Int) (h : l.Nodup) (hr : ∀ v ∈ l, 0 ≤ v ∧ v ≤ n) : l.length ≤ n + 1 := by
  refine Classical.byContradiction fun c => ?_
  obtain ⟨i, j, hij, hj, e⟩ := two_alike (n + 1) (fun i => l.getD i 0 + 1) (fun i hi => by
    have hm : l.getD i 0 ∈ l := by
      rw [List.getD_eq_getElem?_getD, List.getElem?_eq_getElem (by omega)]
      exact List.getElem_mem _
    have := hr _ hm
    show 1 ≤ l.getD i 0 + 1 ∧ l.getD i 0 + 1 ≤ ((n + 1 : Nat) : Int)
    omega)
  have e2 : l.getD i 0 + 1 = l.getD j 0 + 1 := e
  rw [List.getD_eq_getElem?_getD, List.getD_eq_getElem?_getD, List.getElem?_eq_getElem (by omega), List.getElem?_eq_getElem (by omega)] at e2
  simp only [Option.getD_some] at e2
  exact nodup_at h hij (by omega) (by omega)

theorem rd_set (l : List Int) (i j : Nat) (x : Int) (hi : i < l.length) : rd (l.set i x) (j : Int) = if j = i then x else rd l (j : Int) := by
  rw [rd_nat, rd_nat, List.getD_eq_getElem?_getD, List.getD_eq_getElem?_getD]
  by_cases c : j = i
  · rw [if_pos c, c, List.getElem?_set_self hi]; rfl
  · rw [if_neg c, List.getElem?_set_ne (fun e => c e.symm)]

theorem rd_append (a b : List Int) (i : Int) (h0 : 0 ≤ i) (h1 : i < a.length) : rd (a ++ b) i = rd a i := by
  unfold rd
  rw [List.getD_eq_getElem?_getD, List.getD_eq_getElem?_getD, List.getElem?_append_left (by omega)]

theorem all_in : ∀ (n : Nat) (g : List Int), (∀ v : Int, 1 ≤ v → v ≤ n → v ∈ g) → n ≤ g.length
  | 0, g, _ => Nat.zero_le _
  | n + 1, g, h => by
    have hm : ((n + 1 : Nat) : Int) ∈ g := h _ (by omega) (by omega)
    have ih := all_in n (g.erase ((n + 1 : Nat) : Int)) fun v h1 h2 => (List.mem_erase_of_ne (by omega)).2 (h v h1 (by omega))
    rw [List.length_erase_of_mem hm] at ih
    have := List.length_pos_of_mem hm
    omega

/-- The greatest node up to a number that is neither gone nor to come. -/
def pk (gone rest : List Int) : Nat → Int
  | 0 => 0
  | d + 1 => if ((d : Int) + 1) ∉ gone ∧ ((d : Int) + 1) ∉ rest then (d : Int) + 1 else pk gone rest d
theorem pk_spec (gone rest : List Int) (u : Int) (hu : u ∉ gone ∧ u ∉ rest) (h1 : 1 ≤ u) : ∀ d : Nat, u ≤ d → (pk gone rest d ∉ gone ∧ pk gone rest d ∉ rest) ∧ 1 ≤ pk gone rest d ∧ pk gone rest d ≤ d
  | 0, h => by omega
  | d + 1, h => by
    rw [pk]
    by_cases c : ((d : Int) + 1) ∉ gone ∧ ((d : Int) + 1) ∉ rest
    · rw [if_pos c]
      exact ⟨c, by omega, by omega⟩
    · rw [if_neg c]
      have hd : u ≤ d := by
        refine Classical.byContradiction fun h2 => ?_
        have : u = (d : Int) + 1 := by omega
        rw [this] at hu
        exact absurd hu c
      obtain ⟨h3, h4, h5⟩ := pk_spec gone rest u hu h1 d hd
      exact ⟨h3, h4, by omega⟩
/-- What the word asks for is told by members alone. -/
theorem pk_congr (gone gone' rest rest' : List Int) (h : ∀ v : Int, 1 ≤ v → (v ∉ gone ∧ v ∉ rest ↔ v ∉ gone' ∧ v ∉ rest')) : ∀ d : Nat, pk gone rest d = pk gone' rest' d
  | 0 => rfl
  | d + 1 => by
    rw [pk, pk, pk_congr gone gone' rest rest' h d]
    by_cases c : ((d : Int) + 1) ∉ gone ∧ ((d : Int) + 1) ∉ rest
    · rw [if_pos c, if_pos ((h _ (by omega)).1 c)]
    · rw [if_neg c, if_neg (fun h2 => c ((h _ (by omega)).2 h2))]
/-- The nodes in the order in which they are taken away. -/
def gseq (n : Nat) : List Int → List Int → List Int
  | [], gone => gone
  | x :: t, gone => gseq n t (gone ++ [pk gone (x :: t) n])
/-- The parents that are told. -/
def outS (n : Nat) : List Int → List Int → List Int → List Int
  | [], _, out => out
  | x :: t, gone, out => outS n t (gone ++ [pk gone (x :: t) n]) (out.set (pk gone (x :: t) n - 1).toNat x)
/-- So many are taken away. -/
structure Sq (n : Nat) (whole gone : List Int) : Prop where
  nd : gone.Nodup
  range : ∀ v ∈ gone, 1 ≤ v ∧ v ≤ n
  le : gone.length ≤ n
  free : ∀ j : Nat, j < gone.length → rd gone (j : Int) ∉ whole.drop j
theorem rd_snoc_lt (l : List Int) (x : Int) (j : Nat) (h : j < l.length) : rd (l ++ [x]) (j : Int) = rd l (j : Int) := by
  rw [rd_nat, rd_nat, List.getD_eq_getElem?_getD, List.getD_eq_getElem?_getD, List.getElem?_append_left h]
theorem rd_snoc_eq (l : List Int) (x : Int) : rd (l ++ [x]) (l.length : Int) = x := by
  rw [rd_nat, List.getD_eq_getElem?_getD, List.getElem?_append_right (Nat.le_refl _)]
  simp
theorem rd_in (l : List Int) (j : Nat) (h : j < l.length) : rd l (j : Int) ∈ l := by
  rw [rd_nat, List.getD_eq_getElem?_getD, List.getElem?_eq_getElem h]
  exact List.getElem_mem h
theorem in_rd (l : List Int) (v : Int) (h : v ∈ l) : ∃ j : Nat, j < l.length ∧ rd l (j : Int) = v := by
  obtain ⟨j, hj, e⟩ := List.mem_iff_getElem.1 h
  refine ⟨j, hj, ?_⟩
  rw [rd_nat, List.getD_eq_getElem?_getD, List.getElem?_eq_getElem hj, e]
  rfl
theorem free_node (n : Nat) (l : List Int) (h : l.length < n) : ∃ u : Int, 1 ≤ u ∧ u ≤ n ∧ u ∉ l := by
  refine Classical.byContradiction fun hn => ?_
  have := all_in n l fun v h0 h1 => Classical.byContradiction fun h2 => hn ⟨v, h0, h1, h2⟩
  omega
theorem free_pk (n : Nat) (gone t : List Int) (h : gone.length + t.length < n) : ∃ u : Int, 1 ≤ u ∧ u ≤ n ∧ u ∉ gone ∧ u ∉ t ++ [0] := by
  obtain ⟨u, h0, h1, h2⟩ := free_node n (gone ++ t) (by simp; omega)
  rw [List.mem_append, not_or] at h2
  refine ⟨u, h0, h1, h2.1, fun hm => ?_⟩
  rcases List.mem_append.1 hm with h3 | h3
  · exact h2.2 h3
  · rw [List.mem_singleton] at h3; omega
theorem Sq.step {n : Nat} {word gone : List Int} (h : Sq n (word ++ [0]) gone) (hw : word.length + 1 = n) (hk : gone.length < n) :
    Sq n (word ++ [0]) (gone ++ [pk gone ((word ++ [0]).drop gone.length) n]) ∧ pk gone ((word ++ [0]).drop gone.length) n ∉ gone ∧ 1 ≤ pk gone ((word ++ [0]).drop gone.length) n ∧ pk gone ((word ++ [0]).drop gone.length) n ≤ n := by
  have hd : (word ++ [0]).drop gone.length = word.drop gone.length ++ [0] := by rw [List.drop_append_of_le_length (by omega)]
  obtain ⟨u, u0, u1, u2, u3⟩ := free_pk n gone (word.drop gone.length) (by rw [List.length_drop]; omega)
  rw [← hd] at u3
  obtain ⟨⟨p1, p2⟩, p3, p4⟩ := pk_spec gone ((word ++ [0]).drop gone.length) u ⟨u2, u3⟩ u0 n u1
  refine ⟨⟨?_, ?_, by simp; omega, ?_⟩, p1, p3, p4⟩
  · refine List.nodup_append.2 ⟨h.nd, by simp, ?_⟩
    intro a ha b hb e
    rw [List.mem_singleton] at hb
    exact p1 (by rw [← hb, ← e]; exact ha)
  · intro v hv
    rcases List.mem_append.1 hv with h2 | h2
    · exact h.range v h2
    · rw [List.mem_singleton] at h2; omega
  · intro j hj
    rw [List.length_append, List.length_singleton] at hj
    by_cases c : j < gone.length
    · rw [rd_snoc_lt _ _ _ c]
      exact h.free j c
    · obtain rfl : j = gone.length := by omega
      rw [rd_snoc_eq]
      exact p2
theorem Sq.none (n : Nat) (whole : List Int) : Sq n whole [] := ⟨by simp, by simp, by simp, by simp⟩
/-- What the two lists tell at the end. -/
structure Told (n : Nat) (whole E T : List Int) : Prop where
  sq : Sq n whole E
  len : E.length = n
  tlen : T.length = n
  at_ : ∀ j : Nat, j < n → rd T (rd E (j : Int) - 1) = rd whole (j : Int)
structure OutOk (n : Nat) (whole gone out : List Int) : Prop where
  len : out.length = n
  told : ∀ j : Nat, j < gone.length → rd out (rd gone (j : Int) - 1) = rd whole (j : Int)
  left : ∀ v : Int, 1 ≤ v → v ≤ n → v ∉ gone → rd out (v - 1) = -1
theorem rd_setI (l : List Int) (v u x : Int) (h0 : 1 ≤ v) (h1 : v ≤ l.length) (h2 : 1 ≤ u) : rd (l.set (v - 1).toNat x) (u - 1) = if u = v then x else rd l (u - 1) := by
  have := rd_set l (v - 1).toNat (u - 1).toNat x (by omega)
  rw [show (((u - 1).toNat : Nat) : Int) = u - 1 by omega] at this
  rw [this]
  by_cases c : u = v
  · rw [if_pos c, if_pos (by rw [c])]
  · rw [if_neg c, if_neg (by omega)]
theorem OutOk.step {n : Nat} {whole gone out : List Int} (h : OutOk n whole gone out) (hs : Sq n whole gone) {v : Int} (hv : v ∉ gone) (h0 : 1 ≤ v) (h1 : v ≤ n) : OutOk n whole (gone ++ [v]) (out.set (v - 1).toNat (rd whole (gone.length : Int))) := by
  have hl := h.len
  refine ⟨by simp [hl], ?_, ?_⟩
  · intro j hj
    rw [List.length_append, List.length_singleton] at hj
    by_cases c : j < gone.length
    · have hm := rd_in gone j c
      have hr := hs.range _ hm
      rw [rd_snoc_lt _ _ _ c, rd_setI _ _ _ _ h0 (by omega) hr.1, if_neg (fun e => hv (by rw [← e]; exact hm))]
      exact h.told j c
    · obtain rfl : j = gone.length := by omega
      rw [rd_snoc_eq, rd_setI _ _ _ _ h0 (by omega) h0, if_pos rfl]
  · intro u g0 g1 hu
    rw [List.mem_append, not_or, List.mem_singleton] at hu
    rw [rd_setI _ _ _ _ h0 (by omega) g0, if_neg hu.2]
    exact h.left u g0 g1 hu.1
theorem gseq_told (n : Nat) (word : List Int) (hw : word.length + 1 = n) : ∀ (d : Nat) (gone out : List Int), gone.length + d = n → Sq n (word ++ [0]) gone → OutOk n (word ++ [0]) gone out →
    Told n (word ++ [0]) (gseq n ((word ++ [0]).drop gone.length) gone) (outS n ((word ++ [0]).drop gone.length) gone out)
  | 0, gone, out, hd, hs, ho => by
    have hl : (word ++ [0]).length = n := by simp; omega
    rw [List.drop_eq_nil_of_le (by omega), gseq, outS]
    exact ⟨hs, by omega, ho.len, fun j hj => ho.told j (by omega)⟩
  | d + 1, gone, out, hd, hs, ho => by
    have hl : (word ++ [0]).length = n := by simp; omega
    obtain ⟨s1, s2, s3, s4⟩ := hs.step hw (by omega)
    have hc : (word ++ [0]).drop gone.length = rd (word ++ [0]) (gone.length : Int) :: (word ++ [0]).drop (gone.length + 1) := by
      rw [List.drop_eq_getElem_cons (by omega), rd_nat, List.getD_eq_getElem?_getD, List.getElem?_eq_getElem (by omega)]
      rfl
    have ih := gseq_told n word hw d (gone ++ [pk gone ((word ++ [0]).drop gone.length) n]) (out.set (pk gone ((word ++ [0]).drop gone.length) n - 1).toNat (rd (word ++ [0]) (gone.length : Int))) (by simp; omega) s1 (ho.step hs s2 s3 s4)
    rw [List.length_append, List.length_singleton] at ih
    rw [hc] at ih ⊢
    exact ih
theorem told_all (n : Nat) (word : List Int) (hw : word.length + 1 = n) : Told n (word ++ [0]) (gseq n (word ++ [0]) []) (outS n (word ++ [0]) [] (List.replicate n (-1))) := by
  refine gseq_told n word hw n [] (List.replicate n (-1)) (by simp) (Sq.none _ _) ⟨by simp, by simp, ?_⟩
  intro v h0 h1 _
  unfold rd
  rw [List.getD_eq_getElem?_getD, List.getElem?_replicate]
  rw [if_pos (by omega)]
  rfl
theorem Sq.covers {n : Nat} {whole E : List Int} (h : Sq n whole E) (hl : E.length = n) (v : Int) (h0 : 1 ≤ v) (h1 : v ≤ n) : ∃ j : Nat, j < n ∧ rd E (j : Int) = v := by
  have hm : v ∈ E := by
    refine Classical.byContradiction fun hn => ?_
    have := nodup_length n (0 :: v :: E) (by
      refine List.nodup_cons.2 ⟨?_, List.nodup_cons.2 ⟨hn, h.nd⟩⟩
      intro hz
      rcases List.mem_cons.1 hz with e | e
      · omega
      · have := h.range 0 e; omega) (by
      intro u hu
      rcases List.mem_cons.1 hu with e | e
      · omega
      · rcases List.mem_cons.1 e with e | e
        · omega
        · have := h.range u e; omega)
    simp at this
    omega
  obtain ⟨j, hj, e⟩ := in_rd E v hm
  exact ⟨j, by omega, e⟩
theorem Sq.inj {n : Nat} {whole E : List Int} (h : Sq n whole E) {i j : Nat} (hi : i < E.length) (hj : j < E.length) (e : rd E (i : Int) = rd E (j : Int)) : i = j := by
  rw [rd_nat, rd_nat, List.getD_eq_getElem?_getD, List.getD_eq_getElem?_getD, List.getElem?_eq_getElem hi, List.getElem?_eq_getElem hj] at e
  have e2 : E[i] = E[j] := e
  rcases Nat.lt_trichotomy i j with c | c | c
  · exact absurd e2 (nodup_at h.nd c hj)
  · exact c
  · exact absurd e2.symm (nodup_at h.nd c hi)
/-- A list of that length with the same parents is the same. -/
theorem Told.unique {n : Nat} {whole E T T' : List Int} (h : Told n whole E T) (hl : T'.length = n) (ha : ∀ j : Nat, j < n → rd T' (rd E (j : Int) - 1) = rd whole (j : Int)) : T' = T := by
  apply List.ext_getElem (by rw [hl, h.tlen])
  intro i h1 h2
  obtain ⟨j, hj, e⟩ := h.sq.covers h.len ((i : Int) + 1) (by omega) (by omega)
  have a1 := ha j hj
  have a2 := h.at_ j hj
  rw [e, show (i : Int) + 1 - 1 = (i : Int) by omega, rd_nat, List.getD_eq_getElem?_getD] at a1 a2
  rw [List.getElem?_eq_getElem h1] at a1
  rw [List.getElem?_eq_getElem h2] at a2
  exact a1.trans a2.symm
/-- A neighbour goes later, or is the root. -/
theorem Told.later {n : Nat} {word E T : List Int} (h : Told n (word ++ [0]) E T) (hw : word.length + 1 = n) (hx : ∀ x ∈ word, 0 ≤ x ∧ x ≤ n) (j : Nat) (hj : j < n) : rd (word ++ [0]) (j : Int) = 0 ∨ ∃ i : Nat, j < i ∧ i < n ∧ rd E (i : Int) = rd (word ++ [0]) (j : Int) := by
  have hl : (word ++ [0]).length = n := by simp; omega
  have hr : 0 ≤ rd (word ++ [0]) (j : Int) ∧ rd (word ++ [0]) (j : Int) ≤ n := by
    rcases List.mem_append.1 (rd_in (word ++ [0]) j (by omega)) with h1 | h1
    · exact hx _ h1
    · rw [List.mem_singleton] at h1; omega
  by_cases c : rd (word ++ [0]) (j : Int) = 0
  · exact .inl c
  · obtain ⟨i, hi, e⟩ := h.sq.covers h.len _ (by omega) hr.2
    refine .inr ⟨i, Classical.byContradiction fun hn => ?_, hi, e⟩
    refine h.sq.free i (by rw [h.len]; exact hi) ?_
    rw [e]
    have hi2 : i ≤ j := by omega
    rw [rd_nat, List.getD_eq_getElem?_getD, List.getElem?_eq_getElem (by omega)]
    show (word ++ [0])[j] ∈ _
    rw [List.mem_iff_getElem]
    refine ⟨j - i, by rw [List.length_drop]; omega, ?_⟩
    rw [List.getElem_drop]
    congr 1
    omega

/-- What is reached: 0 and nodes, each once. -/
structure Rch (n : Nat) (reached : List Int) : Prop where
  nd : reached.Nodup
  zero : 0 ∈ reached
  range : ∀ v ∈ reached, 0 ≤ v ∧ v ≤ n
theorem Rch.add {n : Nat} {reached : List Int} (h : Rch n reached) {v : Int} (hv : v ∉ reached) (h0 : 0 ≤ v) (h1 : v ≤ n) : Rch n (reached ++ [v]) := by
  refine ⟨List.nodup_append.2 ⟨h.nd, by simp, ?_⟩, List.mem_append_left _ h.zero, ?_⟩
  · intro a ha b hb e
    rw [List.mem_singleton] at hb
    exact hv (by rw [← hb, ← e]; exact ha)
  · intro u hu
    rcases List.mem_append.1 hu with h2 | h2
    · exact h.range u h2
    · rw [List.mem_singleton] at h2; omega

/-- How many steps lead to the root, of so many at most. -/
def hgt (par : List Int) : Nat → Int → Nat
  | 0, _ => 0
  | m + 1, a => if a > 0 then hgt par m (rd par (a - 1)) + 1 else 0
theorem hgt_more (par : List Int) : ∀ (m : Nat) (a : Int), climb par m a = true → hgt par (m + 1) a = hgt par m a
  | 0, a, h => by
    simp only [climb, decide_eq_true_eq] at h
    simp only [hgt]
    rw [if_neg (by omega)]
  | m + 1, a, h => by
    rw [climb] at h
    show (if a > 0 then hgt par (m + 1) (rd par (a - 1)) + 1 else 0) = (if a > 0 then hgt par m (rd par (a - 1)) + 1 else 0)
    by_cases c : a > 0
    · rw [if_pos c] at h
      rw [if_pos c, if_pos c, hgt_more par m _ h]
    · rw [if_neg c, if_neg c]
/-- The depth of a node. -/
def dep (par : List Int) (a : Int) : Nat := hgt par par.length a
theorem isTr_iff (par : List Int) : isTr par = true ↔ par.length ≤ 8 ∧ (∀ x ∈ par, 0 ≤ x ∧ x ≤ par.length) ∧ ∀ a : Int, 1 ≤ a → a ≤ par.length → climb par par.length a = true := by
  simp only [isTr, Bool.and_eq_true, decide_eq_true_eq, inAll_iff, List.all_eq_true, List.mem_range]
  constructor
  · rintro ⟨⟨h1, h2⟩, h3⟩
    refine ⟨h1, h2, fun a ha hb => ?_⟩
    have := h3 (a - 1).toNat (by omega)
    rwa [show (((a - 1).toNat : Nat) : Int) + 1 = a by omega] at this
  · rintro ⟨h1, h2, h3⟩
    exact ⟨⟨h1, h2⟩, fun i hi => h3 _ (by omega) (by omega)⟩
theorem rd_mem (l : List Int) (i : Int) (h0 : 0 ≤ i) (h1 : i < l.length) : rd l i ∈ l := by
  unfold rd
  rw [List.getD_eq_getElem?_getD, List.getElem?_eq_getElem (by omega)]
  exact List.getElem_mem _
/-- In a tree a node is one deeper than its parent. -/
theorem dep_step (par : List Int) (ht : isTr par = true) (a : Int) (h0 : 1 ≤ a) (h1 : a ≤ par.length) : dep par a = dep par (rd par (a - 1)) + 1 := by
  obtain ⟨_, h2, h3⟩ := (isTr_iff par).1 ht
  have hc := h3 a h0 h1
  unfold dep
  obtain ⟨m, hm⟩ : ∃ m, par.length = m + 1 := ⟨par.length - 1, by omega⟩
  rw [hm] at hc ⊢
  rw [climb, if_pos (by omega)] at hc
  rw [hgt, if_pos (by omega), hgt_more par m _ hc]

theorem spec_l1Has_l0 (x : Int) : ∀ (t p : List Int), p.length + t.length ≤ 35184372088832 →
    Ev (fun k => spec_l1Has.l0 k x (p ++ t) ((p ++ t).length : Int) (p.length : Int)) (decide (x ∈ t))
  | [], p, _ => by
    refine Ev.ret fun k => ?_
    rw [spec_l1Has.l0, if_neg (by simp)]
    simp
  | h :: t, p, hn => by
    have hn' : p.length + t.length + 1 ≤ 35184372088832 := by simpa [Nat.add_assoc] using hn
    have hm := len_mid p h t
    by_cases c : h = x
    · rw [decide_eq_true (by simp [c] : x ∈ h :: t)]
      refine Ev.ret fun k => ?_
      rw [spec_l1Has.l0, if_pos (by omega), if_pos (by omega), if_pos (by omega), rd_mid, if_pos c]
    · have ih := spec_l1Has_l0 x t (p ++ [h]) (by simp; omega)
      rw [app_snoc, len_snoc] at ih
      have e : decide (x ∈ h :: t) = decide (x ∈ t) := decide_eq_decide.2 (by simp [Ne.symm c])
      rw [e]
      refine Ev.step (fun k => ?_) ih
      show spec_l1Has.l0 (k + 1) x (p ++ h :: t) ((p ++ h :: t).length : Int) (p.length : Int) = _
      rw [spec_l1Has.l0, if_pos (by omega), if_pos (by omega), if_pos (by omega), rd_mid, if_neg c, w64 (by omega) (by omega)]
theorem ev_spec_l1Has (l : List Int) (x : Int) (hl : l.length ≤ 35184372088832) : Ev (fun k => spec_l1Has.f k l x) (decide (x ∈ l)) :=
  spec_l1Has_l0 x l [] (by simpa using hl)

/-- What the walk over the edges keeps: who is reached, by whom. -/
structure EInv (n : Nat) (E O par reached : List Int) : Prop where
  plen : par.length = n
  rch : Rch n reached
  inv : ∀ j : Nat, j < n → rd E (j : Int) ∈ reached → rd O (j : Int) ∈ reached ∧ rd par (rd E (j : Int) - 1) = rd O (j : Int)
def Closed (n : Nat) (E O reached : List Int) (u : Int) : Prop := ∀ j : Nat, j < n → rd O (j : Int) = u → rd E (j : Int) ∈ reached
theorem trEdgesV_l1 (n : Nat) (hn : n ≤ 1000) (E O T : List Int) (hE : E.length = n) (hO : O.length = n) (nd : ∀ i j : Nat, i < n → j < n → rd E (i : Int) = rd E (j : Int) → i = j) (rE : ∀ x ∈ E, 1 ≤ x ∧ x ≤ n) (k9 : Nat) (hk9 : k9 ≤ 2000) : ∀ (d i : Nat) (par reached : List Int), i + d = n → EInv n E O par reached → k9 < reached.length →
    (∀ m : Nat, m < k9 → Closed n E O reached (rd reached (m : Int))) → (∀ j : Nat, j < i → rd O (j : Int) = rd reached (k9 : Int) → rd E (j : Int) ∈ reached) →
    (∀ (p2 r2 : List Int), EInv n E O p2 r2 → k9 < r2.length → (∀ m : Nat, m < k9 + 1 → Closed n E O r2 (rd r2 (m : Int))) → Ev (fun k => spec_trEdges.l0 k E O p2 r2 ((k9 : Int) + 1)) T) →
    Ev (fun k => spec_trEdges.l1 k E O par reached (k9 : Int) (n : Int) (i : Int)) T
  | 0, i, par, reached, hd, hv, hk, hcl, hci, H => by
    refine Ev.step (fun k => ?_) (H par reached hv hk (fun m hm => ?_))
    · show spec_trEdges.l1 (k + 1) E O par reached (k9 : Int) (n : Int) (i : Int) = _
      rw [spec_trEdges.l1, if_neg (by omega), w64 (by omega) (by omega)]
    · by_cases c : m < k9
      · exact hcl m c
      · obtain rfl : m = k9 := by omega
        exact fun j hj e => hci j (by omega) e
  | d + 1, i, par, reached, hd, hv, hk, hcl, hci, H => by
    have hp := hv.plen
    have hr := hv.rch
    have he := rE (rd E i) (rd_mem E i (by omega) (by omega))
    have hlen := nodup_length n reached hr.nd hr.range
    have e1 : ((i + 1 : Nat) : Int) = (i : Int) + 1 := by omega
    have stay := fun (hst : rd O (i : Int) = rd reached (k9 : Int) → rd E (i : Int) ∈ reached) => trEdgesV_l1 n hn E O T hE hO nd rE k9 hk9 d (i + 1) par reached (by omega) hv hk hcl (fun j hj e => by
      by_cases c : j < i
      · exact hci j c e
      · obtain rfl : j = i := by omega
        exact hst e) H
    rw [e1] at stay
    by_cases c : rd O i = rd reached k9
    · have hom : rd O (i : Int) ∈ reached := by rw [c]; exact rd_in reached k9 hk
      by_cases g : rd E i ∈ reached
      · refine Ev.step (f := fun k => (spec_l1Has.f k reached (rd E i)).bind fun t => if t = true then spec_trEdges.l1 k E O par reached (k9 : Int) (n : Int) ((i : Int) + 1) else (if 0 ≤ (wrap64 ((rd E i) - 1)) then (if (wrap64 ((rd E i) - 1)) < (par.length : Int) then (if reached.length < 17592186044416 then (spec_trEdges.l1 k E O (par.set ((wrap64 ((rd E i) - 1)) : Int).toNat (rd O i)) (reached ++ [rd E i]) (k9 : Int) (n : Int) (wrap64 ((i : Int) + 1))) else (none)) else (none)) else (none))) (fun k => ?_) (Ev.bind (ev_spec_l1Has reached _ (by omega)) ?_)
        · rw [spec_trEdges.l1, if_pos (by omega), if_pos (by omega), if_pos (by omega), if_pos (by omega), if_pos (by omega), if_pos (by omega), if_pos c, w64 (x := (i : Int) + 1) (by omega) (by omega)]
        · exact Ev.congr (fun k => by rw [if_pos (by simpa using g)]) (stay fun _ => g)
      · have grow := trEdgesV_l1 n hn E O T hE hO nd rE k9 hk9 d (i + 1) (par.set (rd E i - 1).toNat (rd O i)) (reached ++ [rd E i]) (by omega) ⟨by simp [hp], hr.add g (by omega) he.2, fun j hj hm => by
            rw [rd_setI _ _ _ _ he.1 (by omega) (by have := rE _ (rd_in E j (by omega)); omega)]
            by_cases q : rd E (j : Int) = rd E (i : Int)
            · obtain rfl := nd j i hj (by omega) q
              rw [if_pos rfl]
              exact ⟨List.mem_append_left _ hom, rfl⟩
            · rw [if_neg q]
              rcases List.mem_append.1 hm with h2 | h2
              · obtain ⟨h3, h4⟩ := hv.inv j hj h2
                exact ⟨List.mem_append_left _ h3, h4⟩
              · rw [List.mem_singleton] at h2; exact absurd h2 q⟩ (by simp; omega)
            (fun m hm j hj e => List.mem_append_left _ (hcl m hm j hj (by rw [e, rd_snoc_lt _ _ _ (by omega)])))
            (fun j hj e => by
              rw [rd_snoc_lt _ _ _ hk] at e
              by_cases q : j < i
              · exact List.mem_append_left _ (hci j q e)
              · obtain rfl : j = i := by omega
                exact List.mem_append_right _ (by simp)) H
        rw [e1] at grow
        refine Ev.step (f := fun k => (spec_l1Has.f k reached (rd E i)).bind fun t => if t = true then spec_trEdges.l1 k E O par reached (k9 : Int) (n : Int) ((i : Int) + 1) else (if 0 ≤ (rd E i) - 1 then (if (rd E i) - 1 < (par.length : Int) then (if reached.length < 17592186044416 then (spec_trEdges.l1 k E O (par.set ((rd E i) - 1).toNat (rd O i)) (reached ++ [rd E i]) (k9 : Int) (n : Int) ((i : Int) + 1)) else (none)) else (none)) else (none))) (fun k => ?_) (Ev.bind (ev_spec_l1Has reached _ (by omega)) ?_)
        · rw [spec_trEdges.l1, if_pos (by omega), if_pos (by omega), if_pos (by omega), if_pos (by omega), if_pos (by omega), if_pos (by omega), if_pos c, w64 (x := (i : Int) + 1) (by omega) (by omega), w64 (by omega) (by omega)]
        · exact Ev.congr (fun k => by rw [if_neg (by simpa using g), if_pos (by omega), if_pos (by omega), if_pos (by omega)]) grow
    · by_cases c2 : rd E i = rd reached k9
      · have g : rd O i ∈ reached := (hv.inv i (by omega) (by rw [c2]; exact rd_in reached k9 hk)).1
        refine Ev.step (f := fun k => (spec_l1Has.f k reached (rd O i)).bind fun t => if t = true then spec_trEdges.l1 k E O par reached (k9 : Int) (n : Int) ((i : Int) + 1) else (if 0 ≤ (wrap64 ((rd O i) - 1)) then (if (wrap64 ((rd O i) - 1)) < (par.length : Int) then (if reached.length < 17592186044416 then (spec_trEdges.l1 k E O (par.set ((wrap64 ((rd O i) - 1)) : Int).toNat (rd E i)) (reached ++ [rd O i]) (k9 : Int) (n : Int) (wrap64 ((i : Int) + 1))) else (none)) else (none)) else (none))) (fun k => ?_) (Ev.bind (ev_spec_l1Has reached _ (by omega)) ?_)
        · rw [spec_trEdges.l1, if_pos (by omega), if_pos (by omega), if_pos (by omega), if_pos (by omega), if_pos (by omega), if_pos (by omega), if_neg c, if_pos c2, w64 (x := (i : Int) + 1) (by omega) (by omega)]
        · exact Ev.congr (fun k => by rw [if_pos (by simpa using g)]) (stay fun e => absurd e c)
      · refine Ev.step (fun k => ?_) (stay fun e => absurd e c)
        show spec_trEdges.l1 (k + 1) E O par reached (k9 : Int) (n : Int) (i : Int) = _
        rw [spec_trEdges.l1, if_pos (by omega), if_pos (by omega), if_pos (by omega), if_pos (by omega), if_pos (by omega), if_pos (by omega), if_neg c, if_neg c2, w64 (x := (i : Int) + 1) (by omega) (by omega)]
theorem trEdgesV_l0 (n : Nat) (hn : n ≤ 1000) (word E T : List Int) (h : Told n (word ++ [0]) E T) (hw : word.length + 1 = n) (hx : ∀ x ∈ word, 0 ≤ x ∧ x ≤ n) : ∀ (d k9 : Nat) (par reached : List Int), k9 + d = n + 1 → EInv n E (word ++ [0]) par reached → k9 ≤ reached.length → (∀ m : Nat, m < k9 → Closed n E (word ++ [0]) reached (rd reached (m : Int))) →
    Ev (fun k => spec_trEdges.l0 k E (word ++ [0]) par reached (k9 : Int)) T
  | d, k9, par, reached, hd, hv, hle, hcl => by
    have hl : (word ++ [0]).length = n := by simp; omega
    have hlen := nodup_length n reached hv.rch.nd hv.rch.range
    by_cases c : k9 < reached.length
    · match d, hd with
      | 0, hd => omega
      | d + 1, hd =>
      refine Ev.step (fun k => ?_) (trEdgesV_l1 n hn E (word ++ [0]) T h.len hl (fun i j hi hj e => h.sq.inj (by rw [h.len]; exact hi) (by rw [h.len]; exact hj) e) h.sq.range k9 (by omega) n 0 par reached (by omega) hv c hcl (fun j hj => by omega) (fun p2 r2 h3 h4 h5 => by
        have := trEdgesV_l0 n hn word E T h hw hx d (k9 + 1) p2 r2 (by omega) h3 (by omega) h5
        rw [show ((k9 + 1 : Nat) : Int) = (k9 : Int) + 1 by omega] at this
        exact this))
      show spec_trEdges.l0 (k + 1) E (word ++ [0]) par reached (k9 : Int) = _
      rw [spec_trEdges.l0, if_pos (by omega), h.len]
      rfl
    · have hall : ∀ (q j : Nat), j + q + 1 = n → rd E (j : Int) ∈ reached := by
        intro q
        induction q using Nat.strongRecOn with
        | _ q ih =>
          intro j hj
          rcases h.later hw hx j (by omega) with h0 | ⟨i, h1, h2, h3⟩
          · obtain ⟨m, hm, e⟩ := in_rd reached 0 hv.rch.zero
            exact hcl m (by omega) j (by omega) (by rw [h0, e])
          · have := ih (n - 1 - i) (by omega) i (by omega)
            rw [h3] at this
            obtain ⟨m, hm, e⟩ := in_rd reached _ this
            exact hcl m (by omega) j (by omega) e.symm
      have hT : par = T := h.unique hv.plen fun j hj => (hv.inv j hj (hall (n - 1 - j) j (by omega))).2
      refine Ev.ret fun k => ?_
      rw [spec_trEdges.l0, if_neg (by omega), hT]
theorem trEdges_val (n : Nat) (hn : n ≤ 1000) (word E T : List Int) (h : Told n (word ++ [0]) E T) (hw : word.length + 1 = n) (hx : ∀ x ∈ word, 0 ≤ x ∧ x ≤ n) : Ev (fun k => spec_trEdges.f k (n : Int) E (word ++ [0])) T := by
  have z := trEdgesV_l0 n hn word E T h hw hx (n + 1) 0 (List.replicate n 0) [0] (by omega) ⟨by simp, ⟨by simp, by simp, by simp⟩, fun j hj hm => by
    have := h.sq.range _ (rd_in E j (by rw [h.len]; exact hj))
    rw [List.mem_singleton] at hm
    omega⟩ (by simp) (fun m hm => by omega)
  exact Ev.congr (fun k => by rw [spec_trEdges.f, if_pos (by omega), if_pos (by omega)]; rfl) z

theorem trOfV_l1 (n : Nat) (hn : n ≤ 1000) (word gone others : List Int) (k : Nat) (x : Int) (L : List Int) (m : Int) (hk : k ≤ word.length) (hw : word.length ≤ 1000) (hg : gone.length ≤ 1000) (ho : others.length ≤ 1000)
    (u : Int) (h1 : 1 ≤ u) (hu : u ∉ gone ∧ u ∉ word.drop k) (r : List Int) : ∀ d : Nat, u ≤ d → d ≤ n →
    Ev (fun kk => spec_trOf.l0 kk word (n : Int) (gone ++ [pk gone (word.drop k) d]) (others ++ [x]) L m ((k : Int) + 1)) r →
    Ev (fun kk => spec_trOf.l1 kk word (n : Int) gone others (k : Int) x (d : Int) L m (k : Int)) r
  | 0, h, _, _ => by omega
  | d + 1, h, hd, H => by
    have ed : ((d + 1 : Nat) : Int) = (d : Int) + 1 := by omega
    rw [ed]
    have less : ((d : Int) + 1 ∈ gone ∨ (d : Int) + 1 ∈ word.drop k) → u ≤ d := fun hm => by
      refine Classical.byContradiction fun h2 => ?_
      have e : u = (d : Int) + 1 := by omega
      rw [e] at hu
      rcases hm with h3 | h3
      · exact hu.1 h3
      · exact hu.2 h3
    have ih := fun c => trOfV_l1 n hn word gone others k x L m hk hw hg ho u h1 hu r d c (by omega)
    rw [pk] at H
    by_cases g : (d : Int) + 1 ∈ gone
    · rw [if_neg (fun h2 => h2.1 g)] at H
      refine Ev.step (fun kk => by rw [spec_trOf.l1, w64 (x := (d : Int) + 1 - 1) (by omega) (by omega), show (d : Int) + 1 - 1 = (d : Int) by omega]) (Ev.bind (ev_spec_l1Has gone _ (by omega)) ?_)
      exact Ev.congr (fun kk => by rw [if_pos (by simpa using g)]) (ih (less (.inl g)) H)
    · by_cases g2 : (d : Int) + 1 ∈ word.drop k
      · rw [if_neg (fun h2 => h2.2 g2)] at H
        refine Ev.step (fun kk => by rw [spec_trOf.l1, w64 (x := (d : Int) + 1 - 1) (by omega) (by omega), show (d : Int) + 1 - 1 = (d : Int) by omega]) (Ev.bind (ev_spec_l1Has gone _ (by omega)) ?_)
        refine Ev.congr (fun kk => by rw [if_neg (by simpa using g), if_pos (by omega), if_pos (by omega), Int.toNat_natCast]) (Ev.bind (ev_spec_l1Has (word.drop k) _ (by simp; omega)) ?_)
        exact Ev.congr (fun kk => by rw [if_pos (by simpa using g2)]) (ih (less (.inr g2)) H)
      · rw [if_pos ⟨g, g2⟩] at H
        refine Ev.step (fun kk => by rw [spec_trOf.l1]) (Ev.bind (ev_spec_l1Has gone _ (by omega)) ?_)
        refine Ev.congr (fun kk => by rw [if_neg (by simpa using g), if_pos (by omega), if_pos (by omega), Int.toNat_natCast]) (Ev.bind (ev_spec_l1Has (word.drop k) _ (by simp; omega)) ?_)
        exact Ev.congr (fun kk => by rw [if_neg (by simpa using g2), if_pos (by omega), if_pos (by omega), w64 (by omega) (by omega)]) H
theorem only_left (n : Nat) (gone : List Int) (hs : gone.Nodup) (hr : ∀ v ∈ gone, 1 ≤ v ∧ v ≤ n) (hl : gone.length + 1 = n) (v u : Int) (h0 : 1 ≤ v) (h1 : v ≤ n) (hv : v ∉ gone) (g0 : 1 ≤ u) (g1 : u ≤ n) (hu : u ∉ gone) : v = u := by
  refine Classical.byContradiction fun hne => ?_
  have := nodup_length n (0 :: v :: u :: gone) (by
    refine List.nodup_cons.2 ⟨?_, List.nodup_cons.2 ⟨?_, List.nodup_cons.2 ⟨hu, hs⟩⟩⟩
    · intro hz
      rcases List.mem_cons.1 hz with e | e
      · omega
      · rcases List.mem_cons.1 e with e | e
        · omega
        · have := hr 0 e; omega
    · intro hz
      rcases List.mem_cons.1 hz with e | e
      · exact hne e
      · exact hv e) (by
    intro w hw
    rcases List.mem_cons.1 hw with e | e
    · omega
    · rcases List.mem_cons.1 e with e | e
      · omega
      · rcases List.mem_cons.1 e with e | e
        · omega
        · have := hr w e; omega)
  simp at this
  omega
theorem trOfV_l2 (n : Nat) (hn : n ≤ 1000) (gone others T : List Int) (hs : gone.Nodup) (hr : ∀ v ∈ gone, 1 ≤ v ∧ v ≤ n) (hol : others.length = gone.length) (hlen : gone.length + 1 = n) (u : Int) (h1 : 1 ≤ u) (hu : u ≤ n) (hug : u ∉ gone)
    (H : Ev (fun kk => spec_trEdges.f kk (n : Int) (gone ++ [u]) (others ++ [0])) T) : ∀ (d : Nat) (v : Int), 1 ≤ v → v + d = u →
    Ev (fun kk => spec_trOf.l2 kk (n : Int) gone others v) T
  | d, v, hv, hd => by
    by_cases g : v ∈ gone
    · match d, hd with
      | 0, hd => exact absurd (by rw [show u = v by omega]; exact g) hug
      | d + 1, hd =>
        have h3 := trOfV_l2 n hn gone others T hs hr hol hlen u h1 hu hug H d (v + 1) (by omega) (by omega)
        refine Ev.step (fun kk => by rw [spec_trOf.l2, if_pos (by omega), w64 (x := v + 1) (by omega) (by omega)]) (Ev.bind (ev_spec_l1Has gone _ (by omega)) ?_)
        exact Ev.congr (fun kk => by rw [if_pos (by simpa using g)]) h3
    · obtain rfl := only_left n gone hs hr hlen v u hv (by omega) g h1 hu hug
      refine Ev.step (fun kk => by rw [spec_trOf.l2, if_pos (by omega)]) (Ev.bind (ev_spec_l1Has gone _ (by omega)) ?_)
      exact Ev.congr (fun kk => by rw [if_neg (by simpa using g), if_pos (by omega), if_pos (by omega)]) (Ev.bind H (Ev.now _))
theorem trOfV_l0 (n : Nat) (hn : n ≤ 1000) (word T : List Int) (hw : word.length + 1 = n) (hx : ∀ x ∈ word, 0 ≤ x ∧ x ≤ n) (hT : Told n (word ++ [0]) (gseq n (word ++ [0]) []) T) : ∀ (d k : Nat) (gone : List Int), k + d = word.length → gone.length = k → Sq n (word ++ [0]) gone → gseq n ((word ++ [0]).drop k) gone = gseq n (word ++ [0]) [] →
    Ev (fun kk => spec_trOf.l0 kk word (n : Int) gone (word.take k) word (word.length : Int) (k : Int)) T
  | 0, k, gone, hd, hg, h, he => by
    have hk : k = word.length := by omega
    obtain ⟨s1, s2, s3, s4⟩ := h.step hw (by omega)
    have hdr : (word ++ [0]).drop gone.length = [0] := by rw [List.drop_append_of_le_length (by omega), List.drop_eq_nil_of_le (by omega)]; rfl
    rw [hdr] at s1 s2 s3 s4
    have e0 : (word ++ [0]).drop k = [0] := by rw [← hg]; exact hdr
    rw [e0, gseq, gseq] at he
    refine Ev.step (fun kk => by rw [spec_trOf.l0, if_neg (by omega)]) (trOfV_l2 n hn gone (word.take k) T h.nd h.range (by rw [List.length_take]; omega) (by omega) _ s3 s4 s2 ?_ (pk gone [0] n - 1).toNat 1 (by omega) (by omega))
    rw [he, show word.take k = word by rw [hk, List.take_length]]
    exact trEdges_val n hn word _ T hT hw hx
  | d + 1, k, gone, hd, hg, h, he => by
    obtain ⟨s1, s2, s3, s4⟩ := h.step hw (by omega)
    rw [hg] at s1 s2 s3 s4
    have hdr : (word ++ [0]).drop k = word.drop k ++ [0] := by rw [List.drop_append_of_le_length (by omega)]
    have hpk : ∀ d : Nat, pk gone ((word ++ [0]).drop k) d = pk gone (word.drop k) d := pk_congr _ _ _ _ fun v hv => by
      rw [hdr, List.mem_append, List.mem_singleton]
      constructor
      · rintro ⟨a, b⟩
        exact ⟨a, fun c => b (.inl c)⟩
      · rintro ⟨a, b⟩
        exact ⟨a, fun c => c.elim b (by omega)⟩
    have hc : (word ++ [0]).drop k = rd word (k : Int) :: (word ++ [0]).drop (k + 1) := by
      rw [List.drop_eq_getElem_cons (by simp; omega), rd_nat, List.getD_eq_getElem?_getD, List.getElem?_eq_getElem (by omega), List.getElem_append_left (by omega)]
      rfl
    have htk : word.take (k + 1) = word.take k ++ [rd word (k : Int)] := by
      rw [List.take_succ_eq_append_getElem (by omega), rd_nat, List.getD_eq_getElem?_getD, List.getElem?_eq_getElem (by omega)]
      rfl
    have ih := trOfV_l0 n hn word T hw hx hT d (k + 1) (gone ++ [pk gone ((word ++ [0]).drop k) n]) (by omega) (by simp [hg]) s1 (by
      rw [← he, hc, gseq])
    rw [show ((k + 1 : Nat) : Int) = (k : Int) + 1 by omega, htk, hpk] at ih
    obtain ⟨u, u0, u1, u2, u3⟩ := free_pk n gone (word.drop k) (by rw [List.length_drop]; omega)
    have u4 : u ∉ word.drop k := fun hm => u3 (List.mem_append_left _ hm)
    refine Ev.step (fun kk => by rw [spec_trOf.l0, if_pos (by omega), if_pos (by omega), if_pos (by omega)]) (trOfV_l1 n hn word gone (word.take k) k (rd word k) word (word.length : Int) (by omega) (by omega) (by omega) (by simp; omega) u u0 ⟨u2, u4⟩ T n u1 (Nat.le_refl _) ih)
/-- The tree of a word: the parents that are told. -/
def treeS (word : List Int) : List Int := outS (word.length + 1) (word ++ [0]) [] (List.replicate (word.length + 1) (-1))
theorem treeS_told (word : List Int) : Told (word.length + 1) (word ++ [0]) (gseq (word.length + 1) (word ++ [0]) []) (treeS word) := told_all (word.length + 1) word rfl
theorem ev_spec_trOf (word : List Int) (hw : word.length ≤ 900) (hx : ∀ x ∈ word, 0 ≤ x ∧ x ≤ (word.length : Int) + 1) : Ev (fun kk => spec_trOf.f kk word) (treeS word) := by
  have z := trOfV_l0 (word.length + 1) (by omega) word (treeS word) rfl (fun x h => by have := hx x h; omega) (treeS_told word) word.length 0 [] (by omega) rfl (Sq.none _ _) rfl
  exact Ev.congr (fun kk => by rw [spec_trOf.f, w64 (by omega) (by omega), show (word.length : Int) + 1 = ((word.length + 1 : Nat) : Int) by omega]; rfl) z

/-- Where a number first stands; -1 if it doesn't. -/
def idxOf (x : Int) : List Int → Int → Int
  | [], _ => -1
  | h :: t, i => if x = h then i else idxOf x t (i + 1)
theorem idxOf_spec (x : Int) : ∀ (l : List Int) (i : Int), 0 ≤ i → (x ∈ l → i ≤ idxOf x l i ∧ idxOf x l i < i + l.length ∧ rd l (idxOf x l i - i) = x) ∧ (x ∉ l → idxOf x l i = -1)
  | [], i, _ => by simp [idxOf]
  | h :: t, i, hi => by
    have ih := idxOf_spec x t (i + 1) (by omega)
    have e : ((h :: t).length : Int) = (t.length : Int) + 1 := by simp
    by_cases c : x = h
    · refine ⟨fun _ => ?_, fun hn => absurd (by simp [c]) hn⟩
      rw [idxOf, if_pos c, e]
      refine ⟨by omega, by omega, ?_⟩
      rw [Int.sub_self, c]
      rfl
    · rw [idxOf, if_neg c, e]
      refine ⟨fun hm => ?_, fun hn => ih.2 (fun hm => hn (by simp [hm]))⟩
      obtain ⟨h1, h2, h3⟩ := ih.1 (by simpa [c] using hm)
      refine ⟨by omega, by omega, ?_⟩
      have h4 : rd (h :: t) (idxOf x t (i + 1) - i) = rd t (idxOf x t (i + 1) - (i + 1)) := by
        unfold rd
        rw [show (idxOf x t (i + 1) - i).toNat = (idxOf x t (i + 1) - (i + 1)).toNat + 1 by omega, List.getD_cons_succ]
      rw [h4, h3]
theorem slices_Index_l0 (x : Int) : ∀ (t p : List Int), p.length + t.length ≤ 35184372088832 →
    Ev (fun k => slices_Index_int_int.l0 k (p ++ t) x ((p ++ t).length : Int) (p.length : Int)) (idxOf x t p.length)
  | [], p, _ => by
    refine Ev.ret fun k => ?_
    rw [slices_Index_int_int.l0, if_neg (by simp)]
    rfl
  | h :: t, p, hn => by
    have hn' : p.length + t.length + 1 ≤ 35184372088832 := by simpa [Nat.add_assoc] using hn
    have hm := len_mid p h t
    by_cases c : x = h
    · rw [idxOf, if_pos c]
      refine Ev.ret fun k => ?_
      rw [slices_Index_int_int.l0, if_pos (by omega), if_pos (by omega), if_pos (by omega), rd_mid, if_pos c]
    · have ih := slices_Index_l0 x t (p ++ [h]) (by simp; omega)
      rw [app_snoc, len_snoc] at ih
      rw [idxOf, if_neg c]
      refine Ev.step (fun k => ?_) ih
      show slices_Index_int_int.l0 (k + 1) (p ++ h :: t) x ((p ++ h :: t).length : Int) (p.length : Int) = _
      rw [slices_Index_int_int.l0, if_pos (by omega), if_pos (by omega), if_pos (by omega), rd_mid, if_neg c, w64 (by omega) (by omega)]
theorem ev_slices_Index (l : List Int) (x : Int) (hl : l.length ≤ 35184372088832) : Ev (fun k => slices_Index_int_int.f k l x) (idxOf x l 0) :=
  slices_Index_l0 x l [] (by simpa using hl)

theorem ev_slices_Contains (l : List Int) (x : Int) (hl : l.length ≤ 35184372088832) : Ev (fun k => slices_Contains_int_int.f k l x) (decide (x ∈ l)) := by
  have e : decide (idxOf x l 0 ≥ 0) = decide (x ∈ l) := by
    have h := idxOf_spec x l 0 (by omega)
    refine decide_eq_decide.2 ⟨fun h1 => ?_, fun h1 => (h.1 h1).1⟩
    by_cases c : x ∈ l
    · exact c
    · rw [h.2 c] at h1; omega
  rw [← e]
  exact Ev.congr (fun k => rfl) (Ev.bind (ev_slices_Index l x hl) (Ev.now _))

theorem ev_slices_Clone (l : List Int) (h : l.length < 17592186044416) : slices_Clone_int_int.f l = some l := by
  unfold slices_Clone_int_int.f
  simp only [Option.bind_some]
  rw [if_pos (by simp; omega)]
  simp

theorem slices_IndexFunc_l0 (q : Int → Bool) : ∀ (t p : List Int), p.length + t.length ≤ 35184372088832 →
    ∃ r : Int, decide (r ≥ 0) = t.any q ∧ Ev (fun k => slices_IndexFunc_int_int.l0 q k (p ++ t) ((p ++ t).length : Int) (p.length : Int)) r
  | [], p, _ => by
    refine ⟨-1, by simp, Ev.ret fun k => ?_⟩
    rw [slices_IndexFunc_int_int.l0, if_neg (by simp)]
  | h :: t, p, hn => by
    have hn' : p.length + t.length + 1 ≤ 35184372088832 := by simpa [Nat.add_assoc] using hn
    have hm := len_mid p h t
    cases c : q h with
    | true =>
      refine ⟨p.length, by simp [c], Ev.ret fun k => ?_⟩
      rw [slices_IndexFunc_int_int.l0, if_pos (by omega), if_pos (by omega), if_pos (by omega), rd_mid, c, Option.bind_some, if_pos rfl]
    | false =>
      obtain ⟨r, hr, ih⟩ := slices_IndexFunc_l0 q t (p ++ [h]) (by simp; omega)
      rw [app_snoc, len_snoc] at ih
      refine ⟨r, by simpa [c] using hr, Ev.step (fun k => ?_) ih⟩
      show slices_IndexFunc_int_int.l0 q (k + 1) (p ++ h :: t) ((p ++ h :: t).length : Int) (p.length : Int) = _
      rw [slices_IndexFunc_int_int.l0, if_pos (by omega), if_pos (by omega), if_pos (by omega), rd_mid, c, Option.bind_some, if_neg (by simp), w64 (by omega) (by omega)]
theorem ev_containsFunc (q : Int → Bool) (l : List Int) (hl : l.length ≤ 35184372088832) : Ev (fun k => slices_ContainsFunc_int_int.f q k l) (l.any q) := by
  obtain ⟨r, hr, h⟩ := slices_IndexFunc_l0 q l [] (by simpa using hl)
  rw [← hr]
  exact Ev.congr (fun k => rfl) (Ev.bind h (Ev.now _))

theorem ev_impl_between (a b c : Int) : impl_between.f a b c = some (decide (b ≤ a) && decide (a ≤ c)) := by
  unfold impl_between.f
  by_cases h : a ≥ b
  · rw [if_pos h]; simp [show b ≤ a from h]
  · rw [if_neg h]; simp [show ¬ b ≤ a from h]

theorem ev_impl_areBetween (l : List Int) (lo hi : Int) (hl : l.length ≤ 35184372088832) : Ev (fun k => impl_areBetween.f k l lo hi) (inAll lo hi l) := by
  have e : (!(l.any (impl_areBetween_1.p lo hi))) = inAll lo hi l := by
    have hp : ∀ n, impl_areBetween_1.p lo hi n = !(decide (lo ≤ n) && decide (n ≤ hi)) := fun n => by
      simp [impl_areBetween_1.p, ev_impl_between]
    unfold inAll
    induction l with
    | nil => rfl
    | cons x t ih =>
      rw [List.any_cons, List.all_cons, Bool.not_or, ih (by simp at hl; omega), hp, Bool.not_not]
  rw [← e]
  exact Ev.congr (fun k => rfl) (Ev.bind (ev_containsFunc (impl_areBetween_1.p lo hi) l hl) (Ev.now _))

theorem ev_spec_l1In (a b c : Int) : spec_l1In.f a b c = some (decide (b ≤ a) && decide (a ≤ c)) := by
  unfold spec_l1In.f
  by_cases h : a ≥ b
  · rw [if_pos h]; simp [show b ≤ a from h]
  · rw [if_neg h]; simp [show ¬ b ≤ a from h]

theorem spec_l1All_l0 (lo hi : Int) : ∀ (t p : List Int), p.length + t.length ≤ 35184372088832 →
    Ev (fun k => spec_l1All.l0 k lo hi (p ++ t) ((p ++ t).length : Int) (p.length : Int)) (inAll lo hi t)
  | [], p, _ => by
    refine Ev.ret fun k => ?_
    rw [spec_l1All.l0, if_neg (by simp)]
    rfl
  | h :: t, p, hn => by
    have hn' : p.length + t.length + 1 ≤ 35184372088832 := by simpa [Nat.add_assoc] using hn
    have hm := len_mid p h t
    rw [inAll_cons]
    cases c : decide (lo ≤ h) && decide (h ≤ hi) with
    | true =>
      have ih := spec_l1All_l0 lo hi t (p ++ [h]) (by simp; omega)
      rw [app_snoc, len_snoc] at ih
      rw [Bool.true_and]
      refine Ev.step (fun k => ?_) ih
      show spec_l1All.l0 (k + 1) lo hi (p ++ h :: t) ((p ++ h :: t).length : Int) (p.length : Int) = _
      rw [spec_l1All.l0, if_pos (by omega), if_pos (by omega), if_pos (by omega), rd_mid, ev_spec_l1In, c, Option.bind_some, if_pos rfl, w64 (by omega) (by omega)]
    | false =>
      rw [Bool.false_and]
      refine Ev.ret fun k => ?_
      rw [spec_l1All.l0, if_pos (by omega), if_pos (by omega), if_pos (by omega), rd_mid, ev_spec_l1In, c]
      rfl
theorem ev_spec_l1All (l : List Int) (lo hi : Int) (hl : l.length ≤ 35184372088832) : Ev (fun k => spec_l1All.f k l lo hi) (inAll lo hi l) :=
  spec_l1All_l0 lo hi l [] (by simpa using hl)

theorem OutOk.sign {n : Nat} {whole gone out : List Int} (h : OutOk n whole gone out) (hs : gone.length ≤ whole.length) (hx : ∀ x ∈ whole, 0 ≤ x) (v : Int) (h0 : 1 ≤ v) (h1 : v ≤ n) : rd out (v - 1) ≥ 0 ↔ v ∈ gone := by
  constructor
  · intro hp
    refine Classical.byContradiction fun hn => ?_
    have := h.left v h0 h1 hn
    omega
  · intro hm
    obtain ⟨j, hj, e⟩ := in_rd gone v hm
    have := h.told j hj
    rw [e] at this
    rw [this]
    exact hx _ (rd_in whole j (by omega))
theorem impl_tp_l1 (n : Nat) (hn : n ≤ 1000) (whole gone out : List Int) (hw : whole.length = n) (ho : OutOk n whole gone out) (hgl : gone.length ≤ n) (hx : ∀ x ∈ whole, 0 ≤ x) (k : Nat) (hk : k ≤ n) (x m : Int) (u : Int) (h1 : 1 ≤ u) (hu : u ∉ gone ∧ u ∉ whole.drop k) (r : List Int) : ∀ d : Nat, u ≤ d → d ≤ n →
    Ev (fun kk => impl_treeOfPrufer.l0 kk (n : Int) (out.set (pk gone (whole.drop k) d - 1).toNat x) whole whole m ((k : Int) + 1)) r →
    Ev (fun kk => impl_treeOfPrufer.l1 kk (n : Int) out whole (k : Int) x (d : Int) whole m (k : Int)) r
  | 0, h, _, _ => by omega
  | d + 1, h, hd, H => by
    have ed : ((d + 1 : Nat) : Int) = (d : Int) + 1 := by omega
    rw [ed]
    have hol := ho.len
    have less : ((d : Int) + 1 ∈ gone ∨ (d : Int) + 1 ∈ whole.drop k) → u ≤ d := fun hm => by
      refine Classical.byContradiction fun h2 => ?_
      have e : u = (d : Int) + 1 := by omega
      rw [e] at hu
      rcases hm with h3 | h3
      · exact hu.1 h3
      · exact hu.2 h3
    have ih := fun c => impl_tp_l1 n hn whole gone out hw ho hgl hx k hk x m u h1 hu r d c (by omega)
    have hsg := ho.sign (by omega) hx ((d : Int) + 1) (by omega) (by omega)
    rw [show (d : Int) + 1 - 1 = (d : Int) by omega] at hsg
    rw [pk] at H
    by_cases g : (d : Int) + 1 ∈ gone
    · rw [if_neg (fun h2 => h2.1 g)] at H
      refine Ev.step (fun kk => ?_) (ih (less (.inl g)) H)
      show impl_treeOfPrufer.l1 (kk + 1) (n : Int) out whole (k : Int) x ((d : Int) + 1) whole m (k : Int) = _
      rw [impl_treeOfPrufer.l1, w64 (x := (d : Int) + 1 - 1) (by omega) (by omega), show (d : Int) + 1 - 1 = (d : Int) by omega, if_pos (by omega), if_pos (by omega), if_pos (hsg.2 g)]
    · have hneg : ¬ rd out (d : Int) ≥ 0 := fun hp => g (hsg.1 hp)
      by_cases g2 : (d : Int) + 1 ∈ whole.drop k
      · rw [if_neg (fun h2 => h2.2 g2)] at H
        refine Ev.step (fun kk => by rw [impl_treeOfPrufer.l1, w64 (x := (d : Int) + 1 - 1) (by omega) (by omega), show (d : Int) + 1 - 1 = (d : Int) by omega, if_pos (by omega), if_pos (by omega), if_neg hneg, if_pos (by omega), if_pos (by omega), Int.toNat_natCast]) (Ev.bind (ev_slices_Contains (whole.drop k) _ (by simp; omega)) ?_)
        exact Ev.congr (fun kk => by rw [if_pos (by simpa using g2)]) (ih (less (.inr g2)) H)
      · rw [if_pos ⟨g, g2⟩, show (d : Int) + 1 - 1 = (d : Int) by omega] at H
        refine Ev.step (fun kk => by rw [impl_treeOfPrufer.l1, w64 (x := (d : Int) + 1 - 1) (by omega) (by omega), show (d : Int) + 1 - 1 = (d : Int) by omega, if_pos (by omega), if_pos (by omega), if_neg hneg, if_pos (by omega), if_pos (by omega), Int.toNat_natCast]) (Ev.bind (ev_slices_Contains (whole.drop k) _ (by simp; omega)) ?_)
        exact Ev.congr (fun kk => by rw [if_neg (by simpa using g2), w64 (by omega) (by omega)]) H
theorem impl_tp_l0 (n : Nat) (hn : n ≤ 1000) (word : List Int) (hw : word.length + 1 = n) (hx : ∀ x ∈ word ++ [0], 0 ≤ x) : ∀ (d : Nat) (gone out : List Int), gone.length + d = n → Sq n (word ++ [0]) gone → OutOk n (word ++ [0]) gone out →
    Ev (fun kk => impl_treeOfPrufer.l0 kk (n : Int) out (word ++ [0]) (word ++ [0]) ((word ++ [0]).length : Int) (gone.length : Int)) (outS n ((word ++ [0]).drop gone.length) gone out)
  | 0, gone, out, hd, hs, ho => by
    have hl : (word ++ [0]).length = n := by simp; omega
    rw [List.drop_eq_nil_of_le (by omega), outS]
    exact Ev.ret fun kk => by rw [impl_treeOfPrufer.l0, if_neg (by omega)]
  | d + 1, gone, out, hd, hs, ho => by
    have hl : (word ++ [0]).length = n := by simp; omega
    obtain ⟨s1, s2, s3, s4⟩ := hs.step hw (by omega)
    have hc : (word ++ [0]).drop gone.length = rd (word ++ [0]) (gone.length : Int) :: (word ++ [0]).drop (gone.length + 1) := by
      rw [List.drop_eq_getElem_cons (by omega), rd_nat, List.getD_eq_getElem?_getD, List.getElem?_eq_getElem (by omega)]
      rfl
    have ih := impl_tp_l0 n hn word hw hx d (gone ++ [pk gone ((word ++ [0]).drop gone.length) n]) (out.set (pk gone ((word ++ [0]).drop gone.length) n - 1).toNat (rd (word ++ [0]) (gone.length : Int))) (by simp; omega) s1 (ho.step hs s2 s3 s4)
    have el : (gone ++ [pk gone ((word ++ [0]).drop gone.length) n]).length = gone.length + 1 := by simp
    rw [el, show ((gone.length + 1 : Nat) : Int) = (gone.length : Int) + 1 by omega] at ih
    have e : outS n ((word ++ [0]).drop gone.length) gone out = outS n ((word ++ [0]).drop (gone.length + 1)) (gone ++ [pk gone ((word ++ [0]).drop gone.length) n]) (out.set (pk gone ((word ++ [0]).drop gone.length) n - 1).toNat (rd (word ++ [0]) (gone.length : Int))) := by
      rw [hc, outS]
    rw [e]
    obtain ⟨u, u0, u1, u2, u3⟩ := free_pk n gone (word.drop gone.length) (by rw [List.length_drop]; omega)
    have hdr : (word ++ [0]).drop gone.length = word.drop gone.length ++ [0] := by rw [List.drop_append_of_le_length (by omega)]
    rw [← hdr] at u3
    refine Ev.step (fun kk => by rw [impl_treeOfPrufer.l0, if_pos (by omega), if_pos (by omega), if_pos (by omega)]) (impl_tp_l1 n hn (word ++ [0]) gone out hl ho (by omega) hx gone.length (by omega) _ _ u u0 ⟨u2, u3⟩ _ n u1 (Nat.le_refl _) ih)
theorem ev_impl_treeOfPrufer (word : List Int) (hw : word.length ≤ 900) (hx : ∀ x ∈ word, 0 ≤ x) : Ev (fun kk => impl_treeOfPrufer.f kk word) (treeS word) := by
  have z := impl_tp_l0 (word.length + 1) (by omega) word rfl (fun x h => by
    rcases List.mem_append.1 h with h2 | h2
    · exact hx x h2
    · rw [List.mem_singleton] at h2; omega) (word.length + 1) [] (List.replicate (word.length + 1) (-1)) (by simp) (Sq.none _ _) ⟨by simp, by simp, by
    intro u h0 h1 _
    unfold rd
    rw [List.getD_eq_getElem?_getD, List.getElem?_replicate, if_pos (by omega)]
    rfl⟩
  rw [List.length_nil, List.drop_zero] at z
  have hr : slices_Repeat_int_int.f [(-1)] (wrap64 ((word.length : Int) + 1)) = some (List.replicate (word.length + 1) (-1)) := by
    rw [w64 (by omega) (by omega), slices_Repeat_int_int.f, if_pos (show ([(-1)] : List Int).length = 1 from rfl), if_pos (by omega), if_pos (by omega), show ((word.length : Int) + 1).toNat = word.length + 1 by omega]
    rfl
  refine Ev.congr (fun kk => by rw [impl_treeOfPrufer.f, hr, Option.bind_some, ev_slices_Clone word (by omega), Option.bind_some, if_pos (by omega), Option.bind_some, w64 (by omega) (by omega), show (word.length : Int) + 1 = ((word.length + 1 : Nat) : Int) by omega]; rfl) z
theorem treeOfPrufer_both (l : List Int) (hl : l.length ≤ 35184372088832) : ∃ r : List Int × Bool, r.1.length ≤ 35184372088832 ∧ Ev (fun k => spec_TreeOfPrufer.f k l) r ∧ Ev (fun k => impl_TreeOfPrufer.f k l) r := by
  by_cases h8 : (l.length : Int) ≥ 8
  · exact ⟨([], false), by simp, Ev.congr (fun k => by rw [spec_TreeOfPrufer.f, if_pos h8]) (Ev.now _), Ev.congr (fun k => by rw [impl_TreeOfPrufer.f, if_pos h8]) (Ev.now _)⟩
  · have hs := ev_spec_l1All l 0 ((l.length : Int) + 1) (by omega)
    have hi := ev_impl_areBetween l 0 ((l.length : Int) + 1) (by omega)
    cases c : inAll 0 ((l.length : Int) + 1) l with
    | false =>
      rw [c] at hs hi
      refine ⟨([], false), by simp, ?_, ?_⟩
      · exact Ev.congr (fun k => by rw [spec_TreeOfPrufer.f, if_neg h8, w64 (by omega) (by omega)]) (Ev.bind hs (Ev.congr (fun k => by rw [if_neg (by simp)]) (Ev.now _)))
      · exact Ev.congr (fun k => by rw [impl_TreeOfPrufer.f, if_neg h8, w64 (by omega) (by omega)]) (Ev.bind hi (Ev.congr (fun k => by rw [if_neg (by simp)]) (Ev.now _)))
    | true =>
      have hin := (inAll_iff _ _ _).1 c
      rw [c] at hs hi
      refine ⟨(treeS l, true), by show (treeS l).length ≤ _; rw [(treeS_told l).tlen]; omega, ?_, ?_⟩
      · exact Ev.congr (fun k => by rw [spec_TreeOfPrufer.f, if_neg h8, w64 (by omega) (by omega)]) (Ev.bind hs (Ev.congr (fun k => by rw [if_pos rfl]) (Ev.bind (ev_spec_trOf l (by omega) hin) (Ev.now _))))
      · exact Ev.congr (fun k => by rw [impl_TreeOfPrufer.f, if_neg h8, w64 (by omega) (by omega)]) (Ev.bind hi (Ev.congr (fun k => by rw [if_pos rfl]) (Ev.bind (ev_impl_treeOfPrufer l (by omega) (fun x h => (hin x h).1)) (Ev.now _))))

theorem FnExactTreeOfPrufer : laws_FnExactTreeOfPrufer.Pure := by
  intro l0 _ _ _
  by_cases c0 : (l0.length : Int) > 1048576
  · refine ⟨0, ?_⟩
    rw [laws_FnExactTreeOfPrufer.f, if_pos c0]
  have hl0 : l0.length ≤ 35184372088832 := by omega
  obtain ⟨r, hr, hs, hi⟩ := treeOfPrufer_both l0 hl0
  refine Ev.rounds ?_
  refine Ev.congr (fun k => by rw [laws_FnExactTreeOfPrufer.f, if_neg c0]) ?_
  refine Ev.bind (ev_toIntS l0 hl0) ?_
  refine Ev.bind (hs) ?_
  refine Ev.bind (ev_toIntS l0 hl0) ?_
  refine Ev.bind (hi) ?_
  refine Ev.bind (ev_eqIntS r.1 hr) ?_
  refine Ev.congr (fun k => by rw [if_pos rfl, bne_self_eq_false]) ?_
  refine Ev.step (fun k => by rw [laws_FnExactTreeOfPrufer.j0, if_neg (by simp)]) ?_
  refine Ev.bind (ev_toIntS l0 hl0) ?_
  refine Ev.bind (ev_eqIntS l0 hl0) ?_
  refine Ev.congr (fun k => by rw [if_pos rfl]) ?_
  refine Ev.bind (ev_markIntS l0 (1) (by omega) (by omega) hl0) ?_
  refine Ev.congr (fun k => by rw [if_neg (by omega)]) ?_
  refine Ev.bind (ev_eqIntS r.1 hr) ?_
  refine Ev.congr (fun k => by rw [if_pos rfl, bne_self_eq_false]) ?_
  refine Ev.step (fun k => by rw [laws_FnExactTreeOfPrufer.j1, if_neg (by simp)]) ?_
  refine Ev.bind (ev_markIntS r.1 1 (by omega) (by omega) hr) ?_
  refine Ev.bind (ev_heldIntS 1 r.1.length (by omega) (by omega) hr) ?_
  refine Ev.congr (fun k => by rw [if_neg (by omega), if_pos rfl]) ?_
  refine Ev.bind (ev_toIntS l0 hl0) ?_
  refine Ev.bind (hi) ?_
  refine Ev.bind (ev_eqIntS r.1 hr) ?_
  refine Ev.congr (fun k => by rw [if_pos rfl, bne_self_eq_false]) ?_
  refine Ev.step (fun k => by rw [laws_FnExactTreeOfPrufer.j2, if_neg (by simp)]) ?_
  refine Ev.bind (ev_heldIntS 1 r.1.length (by omega) (by omega) hr) ?_
  refine Ev.congr (fun k => by rw [if_neg (by omega), if_pos rfl]) ?_
  exact Ev.now true

end Go.Proofs.Ytmollfkakalagaa.Pure
