/- TreeOfParking of the program and of the reference agree on every list, the argument stays, and nothing is shared. -/
import Derived.Test.YtkmojdkkiolalaaWSized
import Derived.Test.YtkmojdkkiolalaaPFnExactTreeOfParkingx
namespace Go.Proofs.Ytkmojdkkiolalaa.PrintWords
open Go.ChangeShapes Go.WideShapes
/-- The word by the name that the printed row asks for. -/
theorem sized_ints {H : Type} {enc : TypeId × Value → H} {P : Program} {W : World} {base : Nat} {spare : Nat → Bool} {held : Bool} {t e : TypeId} {k : IntKind} {a : Option Addr} {len cap : Nat} {d : DataW H} {ps : List MemPlace} {ts : List TypeId} {ds : List (DataW H)} {j : Nat}
    (hsz : (DataW.weightsEach P ts ds).all (· ≤ reachBytes) = true) (ht : ts[j]? = some t) (hd : ds[j]? = some d) (hu : P.underlying t = some (.slice e)) (he : P.underlying e = some (.int k)) (hc : P.cellsOf e = 1) {B : Nat} (hB : P.bytesOf e = B)
    (h : DataW.Trod enc P W base spare held t (.slice a len cap) d ps) : len * B ≤ 140737488351232 :=
  Go.Proofs.YtkmojdkkiolalaaW.PrintWords.sized_ints hsz ht hd hu he hc hB h
end Go.Proofs.Ytkmojdkkiolalaa.PrintWords
namespace Go.Proofs.Ytkmojdkkiolalaa.Pure
open Go.RowKit Go.Proofs.Ytkmojdkkiolalaa.PFnExactTreeOfParking Go.Proofs.YtkmojdkkiolalaaW.PrintWords Go.Proofs.YtkmojdkkiolalaaW.PrintLast
set_option linter.unusedVariables false
set_option linter.unusedSimpArgs false

theorem w64 {x : Int} (h0 : -9223372036854775808 ≤ x) (h1 : x ≤ 9223372036854775807) : wrap64 x = x := by
  unfold wrap64
  omega
theorem rd_mid (p : List Int) (h : Int) (t : List Int) : rd (p ++ h :: t) (p.length : Int) = h := by
  unfold rd
  simp
theorem rd_nat (l : List Int) (i : Nat) : rd l (i : Int) = l.getD i 0 := by
  unfold rd
  simp
theorem Ev.ret {α : Type} {g : Nat → Option α} {r : α} (h : ∀ k, g (k + 1) = some r) : Ev g r :=
  Ev.step (f := fun _ => some r) h (Ev.now r)

theorem toIntS_l0 : ∀ (t p : List Int), p.length + t.length ≤ 35184372088832 →
    Ev (fun k => laws_toIntS.l0 k (p ++ t) (p ++ List.replicate t.length 0) (p.length : Int)) (p ++ t)
  | [], p, _ => by
    refine Ev.ret fun k => ?_
    rw [laws_toIntS.l0, if_neg (by simp)]
    simp
  | h :: t, p, hn => by
    have hn' : p.length + t.length + 1 ≤ 35184372088832 := by simpa [Nat.add_assoc] using hn
    have ih := toIntS_l0 t (p ++ [h]) (by simp; omega)
    have e1 : (p ++ [h]) ++ t = p ++ h :: t := by simp
    have e2 : (((p ++ [h]).length : Nat) : Int) = (p.length : Int) + 1 := by simp
    rw [e1, e2] at ih
    refine Ev.step (fun k => ?_) ih
    show laws_toIntS.l0 (k + 1) (p ++ h :: t) (p ++ List.replicate (h :: t).length 0) (p.length : Int) = _
    rw [laws_toIntS.l0, if_pos (by simp; omega), if_pos (by omega), if_pos (by simp; omega), rd_mid, w64 (by omega) (by omega)]
    congr 1
    simp [List.replicate_succ, List.set_append]
theorem ev_toIntS (l : List Int) (h : l.length ≤ 35184372088832) : Ev (fun k => laws_toIntS.f k l) l := by
  have z := toIntS_l0 l [] (by simpa using h)
  refine Ev.congr (fun k => ?_) z
  show laws_toIntS.f k l = _
  rw [laws_toIntS.f, if_pos (by omega), if_pos (by simpa using h)]
  simp

theorem eqIntS_l0 : ∀ (t p : List Int), p.length + t.length ≤ 35184372088832 →
    Ev (fun k => laws_eqIntS.l0 k (p ++ t) (p ++ t) (p.length : Int)) true
  | [], p, _ => by
    refine Ev.ret fun k => ?_
    rw [laws_eqIntS.l0, if_neg (by simp)]
  | h :: t, p, hn => by
    have hn' : p.length + t.length + 1 ≤ 35184372088832 := by simpa [Nat.add_assoc] using hn
    have ih := eqIntS_l0 t (p ++ [h]) (by simp; omega)
    have e1 : (p ++ [h]) ++ t = p ++ h :: t := by simp
    have e2 : (((p ++ [h]).length : Nat) : Int) = (p.length : Int) + 1 := by simp
    rw [e1, e2] at ih
    refine Ev.step (fun k => ?_) ih
    show laws_eqIntS.l0 (k + 1) (p ++ h :: t) (p ++ h :: t) (p.length : Int) = _
    rw [laws_eqIntS.l0, if_pos (by simp; omega), if_pos (by omega), if_pos (by simp; omega), rd_mid, if_pos rfl, w64 (by omega) (by omega)]
theorem ev_eqIntS (l : List Int) (h : l.length ≤ 35184372088832) : Ev (fun k => laws_eqIntS.f k l l) true := by
  have z := eqIntS_l0 l [] (by simpa using h)
  refine Ev.congr (fun k => ?_) z
  show laws_eqIntS.f k l l = _
  rw [laws_eqIntS.f, if_pos rfl]
  rfl

/-- n numbers from one on. -/
def marks (k : Int) : Nat → List Int
  | 0 => []
  | n + 1 => k :: marks (k + 1) n
theorem marks_length : ∀ (n : Nat) (k : Int), (marks k n).length = n
  | 0, _ => rfl
  | n + 1, k => by simp [marks, marks_length n]
theorem markIntS_l0 : ∀ (t p : List Int) (k : Int), 0 ≤ k → k + t.length ≤ 4611686018427387904 → p.length + t.length ≤ 35184372088832 →
    Ev (fun n => laws_markIntS.l0 n (p ++ t) k (p.length : Int)) (k + t.length, p ++ marks k t.length)
  | [], p, k, _, _, _ => by
    refine Ev.ret fun n => ?_
    rw [laws_markIntS.l0, if_neg (by simp)]
    simp [marks]
  | h :: t, p, k, h0, hk, hn => by
    have hn' : p.length + t.length + 1 ≤ 35184372088832 := by simpa [Nat.add_assoc] using hn
    have hk' : k + (t.length : Int) + 1 ≤ 4611686018427387904 := by simp at hk; omega
    have ih := markIntS_l0 t (p ++ [k]) (k + 1) (by omega) (by omega) (by simp; omega)
    have e1 : (p ++ [k]) ++ t = p ++ k :: t := by simp
    have e2 : (((p ++ [k]).length : Nat) : Int) = (p.length : Int) + 1 := by simp
    rw [e1, e2] at ih
    have e3 : ((k + ((h :: t).length : Int), p ++ marks k (h :: t).length) : Int × List Int) = (k + 1 + (t.length : Int), p ++ [k] ++ marks (k + 1) t.length) := by
      simp [marks]; omega
    rw [e3]
    refine Ev.step (fun n => ?_) ih
    show laws_markIntS.l0 (n + 1) (p ++ h :: t) k (p.length : Int) = _
    rw [laws_markIntS.l0, if_pos (by simp; omega), if_pos (by omega), w64 (by omega) (by omega), w64 (by omega) (by omega)]
    congr 1
    simp [List.set_append]
theorem ev_markIntS (l : List Int) (k : Int) (h0 : 0 ≤ k) (hk : k ≤ 4000000000000000000) (hl : l.length ≤ 35184372088832) : Ev (fun n => laws_markIntS.f n l k) (k + l.length, marks k l.length) :=
  markIntS_l0 l [] k h0 (by omega) (by simpa using hl)
theorem heldIntS_l0 : ∀ (m : Nat) (p : List Int) (k : Int), 0 ≤ k → k + m ≤ 4611686018427387904 → p.length + m ≤ 35184372088832 →
    Ev (fun n => laws_heldIntS.l0 n (p ++ marks k m) k (p.length : Int)) (k + m)
  | 0, p, k, _, _, _ => by
    refine Ev.ret fun n => ?_
    rw [laws_heldIntS.l0, if_neg (by simp [marks])]
    simp
  | m + 1, p, k, h0, hk, hn => by
    have ih := heldIntS_l0 m (p ++ [k]) (k + 1) (by omega) (by omega) (by simp; omega)
    have e1 : (p ++ [k]) ++ marks (k + 1) m = p ++ k :: marks (k + 1) m := by simp
    have e2 : (((p ++ [k]).length : Nat) : Int) = (p.length : Int) + 1 := by simp
    rw [e1, e2] at ih
    have e3 : k + ((m + 1 : Nat) : Int) = k + 1 + (m : Int) := by omega
    rw [e3]
    refine Ev.step (fun n => ?_) ih
    show laws_heldIntS.l0 (n + 1) (p ++ k :: marks (k + 1) m) k (p.length : Int) = _
    rw [laws_heldIntS.l0, if_pos (by simp; omega), if_pos (by omega), rd_mid, if_pos rfl, w64 (by omega) (by omega), w64 (by omega) (by omega)]
theorem ev_heldIntS (k : Int) (m : Nat) (h0 : 0 ≤ k) (hk : k ≤ 4000000000000000000) (hm : m ≤ 35184372088832) : Ev (fun n => laws_heldIntS.f n (marks k m) k) (k + m) :=
  heldIntS_l0 m [] k h0 (by omega) (by simpa using hm)

/-- One step of a walk along a list: what stands behind the place. -/
theorem len_snoc (p : List Int) (h : Int) : (((p ++ [h]).length : Nat) : Int) = (p.length : Int) + 1 := by simp
theorem app_snoc (p : List Int) (h : Int) (t : List Int) : (p ++ [h]) ++ t = p ++ h :: t := by simp
theorem len_mid (p : List Int) (h : Int) (t : List Int) : ((p ++ h :: t).length : Int) = (p.length : Int) + t.length + 1 := by simp; omega

/-- The first free place from x on, of d that are left; -1 if there is none. -/
def seek (out : List Int) : Nat → Int → Int
  | 0, _ => -1
  | d + 1, x => if x ∈ out then seek out d (x + 1) else x
theorem seek_range (out : List Int) : ∀ (d : Nat) (x : Int), seek out d x = -1 ∨ x ≤ seek out d x ∧ seek out d x < x + d ∧ seek out d x ∉ out
  | 0, x => .inl rfl
  | d + 1, x => by
    simp only [seek]
    by_cases c : x ∈ out
    · rw [if_pos c]
      rcases seek_range out d (x + 1) with h | ⟨h1, h2, h3⟩
      · exact .inl h
      · exact .inr ⟨by omega, by omega, h3⟩
    · rw [if_neg c]
      exact .inr ⟨by omega, by omega, c⟩
/-- The places of cars that come behind others, -1 for those that fail. -/
def driveS (places : Int) (out : List Int) : List Int → List Int
  | [] => out
  | c :: t => driveS places (out ++ [seek out (places - c).toNat c]) t
theorem driveS_prefix (places : Int) : ∀ (t out : List Int), ∃ s, s.length = t.length ∧ driveS places out t = out ++ s
  | [], out => ⟨[], rfl, by simp [driveS]⟩
  | c :: t, out => by
    obtain ⟨s, hl, h⟩ := driveS_prefix places t (out ++ [seek out (places - c).toNat c])
    exact ⟨seek out (places - c).toNat c :: s, by simp [hl], by rw [driveS, h]; simp⟩
theorem driveS_length (places : Int) (t out : List Int) : (driveS places out t).length = out.length + t.length := by
  obtain ⟨s, hl, h⟩ := driveS_prefix places t out
  rw [h]; simp [hl]
/-- Which places are taken. -/
def Tk (places : Int) (out : List Int) (taken : List Bool) : Prop :=
  (taken.length : Int) = places ∧ ∀ j : Nat, (j : Int) < places → taken.getD j false = decide ((j : Int) ∈ out)
theorem Tk.at {places : Int} {out : List Int} {taken : List Bool} (h : Tk places out taken) (x : Int) (h0 : 0 ≤ x) (h1 : x < places) : rdOf false taken x = decide (x ∈ out) := by
  have := h.2 x.toNat (by omega)
  have e : ((x.toNat : Nat) : Int) = x := by omega
  rw [e] at this
  exact this
theorem Tk.fail {places : Int} {out : List Int} {taken : List Bool} (h : Tk places out taken) : Tk places (out ++ [-1]) taken := by
  refine ⟨h.1, fun j hj => ?_⟩
  rw [h.2 j hj]
  exact decide_eq_decide.2 (by simp)
theorem Tk.take {places : Int} {out : List Int} {taken : List Bool} (h : Tk places out taken) (x : Int) (h0 : 0 ≤ x) (h1 : x < places) : Tk places (out ++ [x]) (taken.set x.toNat true) := by
  refine ⟨by simp [h.1], fun j hj => ?_⟩
  have hl := h.1
  have hx : x.toNat < taken.length := by omega
  have hjl : j < taken.length := by omega
  have e := h.2 j hj
  rw [List.getD_eq_getElem?_getD] at e ⊢
  by_cases c : x.toNat = j
  · rw [c, List.getElem?_set_self (by omega)]
    have : (j : Int) ∈ out ++ [x] := by simp; right; omega
    simp [this]
  · rw [List.getElem?_set_ne c, e]
    refine decide_eq_decide.2 ?_
    have : (j : Int) ≠ x := by omega
    simp [this]
theorem Tk.none (places : Int) (h0 : 0 ≤ places) : Tk places [] (List.replicate places.toNat false) := by
  refine ⟨by simp; omega, fun j hj => ?_⟩
  rw [List.getD_eq_getElem?_getD, List.getElem?_replicate]
  split <;> simp

/-- All numbers lie from lo to hi. -/
def inAll (lo hi : Int) (l : List Int) : Bool := l.all fun n => decide (lo ≤ n) && decide (n ≤ hi)
theorem inAll_iff (lo hi : Int) (l : List Int) : inAll lo hi l = true ↔ ∀ x ∈ l, lo ≤ x ∧ x ≤ hi := by
  simp [inAll, List.all_eq_true]
theorem inAll_cons (lo hi x : Int) (l : List Int) : inAll lo hi (x :: l) = ((decide (lo ≤ x) && decide (x ≤ hi)) && inAll lo hi l) := by
  simp [inAll]

/-- A parking function. -/
def pf (l : List Int) : Bool := decide (l.length ≤ 8) && (inAll 0 ((l.length : Int) - 1) l && !(decide ((-1 : Int) ∈ driveS l.length [] l)))
theorem pf_iff (l : List Int) : pf l = true ↔ l.length ≤ 8 ∧ (∀ x ∈ l, 0 ≤ x ∧ x ≤ (l.length : Int) - 1) ∧ (-1 : Int) ∉ driveS l.length [] l := by
  simp only [pf, Bool.and_eq_true, decide_eq_true_eq, inAll_iff, Bool.not_eq_true', decide_eq_false_iff_not]
/-- A favourite at or behind the end fails. -/
theorem driveS_over (places : Int) : ∀ (t out : List Int), (∃ c ∈ t, places ≤ c) → (-1 : Int) ∈ driveS places out t
  | [], out, h => by obtain ⟨c, hc, _⟩ := h; cases hc
  | c :: t, out, h => by
    rw [driveS]
    by_cases d : places ≤ c
    · rw [show (places - c).toNat = 0 by omega]
      obtain ⟨s, _, hs⟩ := driveS_prefix places t (out ++ [seek out 0 c])
      rw [hs]
      simp [seek]
    · refine driveS_over places t _ ?_
      obtain ⟨x, hx, h1⟩ := h
      rcases List.mem_cons.1 hx with rfl | h2
      · exact absurd h1 d
      · exact ⟨x, h2, h1⟩

/-- How many numbers are so. -/
def cnt (q : Int → Bool) : List Int → Int
  | [] => 0
  | h :: t => (if q h = true then 1 else 0) + cnt q t
theorem cnt_range (q : Int → Bool) : ∀ l : List Int, 0 ≤ cnt q l ∧ cnt q l ≤ l.length
  | [] => by simp [cnt]
  | h :: t => by
    have := cnt_range q t
    have e : ((h :: t).length : Int) = (t.length : Int) + 1 := by simp
    simp only [cnt]
    rw [e]
    split <;> omega
theorem cnt_append (q : Int → Bool) : ∀ a b : List Int, cnt q (a ++ b) = cnt q a + cnt q b
  | [], b => by simp [cnt]
  | h :: t, b => by simp only [List.cons_append, cnt, cnt_append q t b]; omega

/-- Parents lead to the root in so many steps at most. -/
def climb (par : List Int) : Nat → Int → Bool
  | 0, a => decide (a ≤ 0)
  | m + 1, a => if a > 0 then climb par m (rd par (a - 1)) else true
theorem climb_more (par : List Int) : ∀ (m : Nat) (a : Int), climb par m a = true → climb par (m + 1) a = true
  | 0, a, h => by
    simp only [climb, decide_eq_true_eq] at h
    simp only [climb]
    rw [if_neg (by omega)]
  | m + 1, a, h => by
    rw [climb]
    by_cases c : a > 0
    · rw [if_pos c]
      rw [climb, if_pos c] at h
      exact climb_more par m _ h
    · rw [if_neg c]
/-- The node so many steps above. -/
def up (par : List Int) : Nat → Int → Int
  | 0, a => a
  | m + 1, a => up par m (rd par (a - 1))
theorem climb_up (par : List Int) : ∀ (m : Nat) (a : Int), climb par m a = true ↔ ∃ j, j ≤ m ∧ up par j a ≤ 0
  | 0, a => by
    simp only [climb, decide_eq_true_eq]
    constructor
    · exact fun h => ⟨0, Nat.le_refl _, h⟩
    · rintro ⟨j, hj, h⟩
      obtain rfl : j = 0 := by omega
      exact h
  | m + 1, a => by
    rw [climb]
    by_cases c : a > 0
    · rw [if_pos c, climb_up par m]
      constructor
      · rintro ⟨j, hj, h⟩
        exact ⟨j + 1, by omega, h⟩
      · rintro ⟨j, hj, h⟩
        cases j with
        | zero => exact absurd h (by simp only [up]; omega)
        | succ j => exact ⟨j, by omega, h⟩
    · rw [if_neg c]
      exact ⟨fun _ => ⟨0, by omega, by simp only [up]; omega⟩, fun _ => rfl⟩
theorem up_add (par : List Int) : ∀ (i j : Nat) (a : Int), up par (i + j) a = up par j (up par i a)
  | 0, j, a => by rw [Nat.zero_add]; rfl
  | i + 1, j, a => by
    rw [Nat.add_right_comm]
    exact up_add par i j (rd par (a - 1))
/-- Of n + 1 numbers from 1 to n two are alike. -/
theorem two_alike : ∀ (n : Nat) (f : Nat → Int), (∀ i, i ≤ n → 1 ≤ f i ∧ f i ≤ n) → ∃ i j, i < j ∧ j ≤ n ∧ f i = f j
  | 0, f, h => by have := h 0 (by omega); omega
  | n + 1, f, h => by
    by_cases c : ∃ i, i ≤ n ∧ f i = f (n + 1)
    · obtain ⟨i, hi, e⟩ := c
      exact ⟨i, n + 1, by omega, by omega, e⟩
    · -- the last one's value is left out
      let g : Nat → Int := fun i => if f i > f (n + 1) then f i - 1 else f i
      have hg : ∀ i, i ≤ n → 1 ≤ g i ∧ g i ≤ n := by
        intro i hi
        have h1 := h i (by omega)
        have h2 := h (n + 1) (by omega)
        have h3 : f i ≠ f (n + 1) := fun e => c ⟨i, hi, e⟩
        show 1 ≤ (if f i > f (n + 1) then f i - 1 else f i) ∧ (if f i > f (n + 1) then f i - 1 else f i) ≤ n
        split <;> omega
      obtain ⟨i, j, hij, hj, e⟩ := two_alike n g hg
      have h3 : f i ≠ f (n + 1) := fun e => c ⟨i, by omega, e⟩
      have h4 : f j ≠ f (n + 1) := fun e => c ⟨j, by omega, e⟩
      refine ⟨i, j, hij, by omega, ?_⟩
      have e' : (if f i > f (n + 1) then f i - 1 else f i) = (if f j > f (n + 1) then f j - 1 else f j) := e
      split at e' <;> split at e' <;> omega
/-- What is reached in n + 1 steps is reached in n. -/
theorem climb_less (par : List Int) (hp : ∀ x ∈ par, 0 ≤ x ∧ x ≤ par.length) (a : Int) (ha0 : 0 ≤ a) (ha : a ≤ par.length) (h : climb par (par.length + 1) a = true) : climb par par.length a = true := by
  rw [climb_up] at h ⊢
  obtain ⟨j, hj, hu⟩ := h
  by_cases c : ∃ i, i ≤ par.length ∧ up par i a ≤ 0
  · exact c
  · exfalso
    have hpos : ∀ i, i ≤ par.length → 1 ≤ up par i a := fun i hi => by
      have : ¬ up par i a ≤ 0 := fun e => c ⟨i, hi, e⟩
      omega
    have hle : ∀ i, i ≤ par.length → up par i a ≤ par.length := by
      intro i
      induction i with
      | zero => intro _; exact ha
      | succ i ih =>
        intro hi
        have h1 := hpos i (by omega)
        have h2 := ih (by omega)
        rw [up_add par i 1]
        have hr : rd par (up par i a - 1) ∈ par := by
          unfold rd
          rw [List.getD_eq_getElem?_getD, List.getElem?_eq_getElem (by omega)]
          exact List.getElem_mem _
        exact (hp _ hr).2
    obtain ⟨i, k, hik, hk, e⟩ := two_alike par.length (fun i => up par i a) (fun i hi => ⟨hpos i hi, hle i hi⟩)
    have e : up par i a = up par k a := e
    -- j = n + 1: the same place stood earlier
    have hj' : j = par.length + 1 := by
      rcases Nat.lt_or_ge par.length j with h1 | h1
      · omega
      · exact absurd ⟨j, h1, hu⟩ c
    have e2 : up par j a = up par (i + (j - k)) a := by
      rw [show j = k + (j - k) by omega, up_add par k, up_add par i, ← e]
      congr 1
      omega
    have := hpos (i + (j - k)) (by omega)
    omega
/-- A tree: parents lead to the root from each node. -/
def isTr (par : List Int) : Bool := decide (par.length ≤ 8) && inAll 0 par.length par && (List.range par.length).all fun i => climb par par.length ((i : Int) + 1)

theorem driveS_nodup (P : Int) : ∀ (t out : List Int), out.Nodup → (-1 : Int) ∉ driveS P out t → (driveS P out t).Nodup
  | [], out, h, _ => h
  | c :: t, out, h, hn => by
    rw [driveS] at hn ⊢
    obtain ⟨s, _, hs⟩ := driveS_prefix P t (out ++ [seek out (P - c).toNat c])
    have hm : seek out (P - c).toNat c ∈ driveS P (out ++ [seek out (P - c).toNat c]) t := by rw [hs]; simp
    refine driveS_nodup P t _ ?_ hn
    rcases seek_range out (P - c).toNat c with h5 | ⟨_, _, h5⟩
    · exact absurd (by rw [← h5]; exact hm) hn
    · rw [List.nodup_append]
      refine ⟨h, by simp, fun a ha b hb => ?_⟩
      rw [List.mem_singleton] at hb
      rw [hb]
      exact fun e => h5 (e ▸ ha)
theorem driveS_cnt (P k : Int) : ∀ (t out : List Int), (-1 : Int) ∉ driveS P out t → cnt (fun x => decide (x < k)) (driveS P out t) ≤ cnt (fun x => decide (x < k)) out + cnt (fun x => decide (x < k)) t
  | [], out, _ => by simp [driveS, cnt]
  | c :: t, out, hn => by
    rw [driveS] at hn ⊢
    obtain ⟨s, _, hs⟩ := driveS_prefix P t (out ++ [seek out (P - c).toNat c])
    have hm : seek out (P - c).toNat c ∈ driveS P (out ++ [seek out (P - c).toNat c]) t := by rw [hs]; simp
    have ih := driveS_cnt P k t (out ++ [seek out (P - c).toNat c]) hn
    rw [cnt_append] at ih
    have h4 : c ≤ seek out (P - c).toNat c := by
      rcases seek_range out (P - c).toNat c with h5 | ⟨h5, _, _⟩
      · exact absurd (by rw [← h5]; exact hm) hn
      · exact h5
    have e : cnt (fun x => decide (x < k)) [seek out (P - c).toNat c] ≤ (if decide (c < k) = true then 1 else 0) := by
      simp only [cnt]
      by_cases d : seek out (P - c).toNat c < k
      · rw [if_pos (by simpa using d), if_pos (by simp; omega)]
        omega
      · rw [if_neg (by simpa using d)]
        split <;> omega
    simp only [cnt] at ih e ⊢
    omega
/-- Different numbers of a range are no more than the range holds. -/
theorem nodup_bound (s : List Int) (a : Int) (m : Nat) (hn : s.Nodup) (hr : ∀ x ∈ s, a ≤ x ∧ x < a + m) : s.length ≤ m := by
  rcases Nat.lt_or_ge m s.length with h | h
  · exfalso
    obtain ⟨i, j, hij, hj, e⟩ := two_alike m (fun i => s.getD i 0 - a + 1) (fun i hi => by
      have hx : s.getD i 0 ∈ s := by
        rw [List.getD_eq_getElem?_getD, List.getElem?_eq_getElem (by omega)]
        exact List.getElem_mem _
      have := hr _ hx
      omega)
    have hi : i < s.length := by omega
    have hj' : j < s.length := by omega
    have e2 : s[i] = s[j] := by
      have e3 : s.getD i 0 = s.getD j 0 := by have : s.getD i 0 - a + 1 = s.getD j 0 - a + 1 := e; omega
      rw [List.getD_eq_getElem?_getD, List.getD_eq_getElem?_getD, List.getElem?_eq_getElem hi, List.getElem?_eq_getElem hj'] at e3
      exact e3
    exact (List.pairwise_iff_getElem.1 hn) i j hi hj' hij e2
  · exact h
theorem cnt_filter (k : Int) : ∀ s : List Int, cnt (fun x => decide (x < k)) s + (s.filter fun x => decide (k ≤ x)).length = s.length
  | [] => by simp [cnt]
  | h :: t => by
    have ih := cnt_filter k t
    simp only [cnt, List.filter_cons, List.length_cons]
    by_cases c : h < k
    · rw [if_pos (by simpa using c), if_neg (by simp; omega)]
      omega
    · rw [if_neg (by simpa using c), if_pos (by simp; omega)]
      simp only [List.length_cons]
      omega
/-- Of a parking function at least k favourites are less than k. -/
theorem pf_count (l : List Int) (h : pf l = true) (k : Nat) (hk : k ≤ l.length) : (k : Int) ≤ cnt (fun x => decide (x < (k : Int))) l := by
  obtain ⟨_, h2, h3⟩ := (pf_iff l).1 h
  have hnd := driveS_nodup (l.length : Int) l [] (by simp) h3
  have hc := driveS_cnt (l.length : Int) (k : Int) l [] h3
  have hlen : (driveS (l.length : Int) [] l).length = l.length := by rw [driveS_length]; simp
  have hr : ∀ v ∈ driveS (l.length : Int) [] l, 0 ≤ v ∧ v < l.length := fun v hv => by
    have : ∀ (t out : List Int), (∀ c ∈ t, 0 ≤ c) → (∀ v ∈ out, v = -1 ∨ 0 ≤ v ∧ v < (l.length : Int)) → ∀ v ∈ driveS (l.length : Int) out t, v = -1 ∨ 0 ≤ v ∧ v < (l.length : Int) := by
      intro t
      induction t with
      | nil => intro out _ ho v hv; exact ho v hv
      | cons c t ih =>
        intro out hc ho v hv
        rw [driveS] at hv
        refine ih _ (fun x hx => hc x (by simp [hx])) (fun w hw => ?_) v hv
        rcases List.mem_append.1 hw with h | h
        · exact ho w h
        · rw [List.mem_singleton] at h
          subst h
          have h3 := hc c (by simp)
          rcases seek_range out ((l.length : Int) - c).toNat c with h5 | ⟨h5, h6, _⟩
          · exact .inl h5
          · exact .inr ⟨by omega, by omega⟩
    rcases this l [] (fun c hc => (h2 c hc).1) (by simp) v hv with h4 | h4
    · exact absurd (h4 ▸ hv) h3
    · exact h4
  have hb := nodup_bound ((driveS (l.length : Int) [] l).filter fun x => decide ((k : Int) ≤ x)) (k : Int) (l.length - k) (hnd.filter _) (fun x hx => by
    rw [List.mem_filter] at hx
    have h4 := hr x hx.1
    have h5 : (k : Int) ≤ x := by simpa using hx.2
    omega)
  have hf := cnt_filter (k : Int) (driveS (l.length : Int) [] l)
  simp only [cnt] at hc
  omega

theorem spec_l1Has_l0 (x : Int) : ∀ (t p : List Int), p.length + t.length ≤ 35184372088832 →
    Ev (fun k => spec_l1Has.l0 k x (p ++ t) ((p ++ t).length : Int) (p.length : Int)) (decide (x ∈ t))
  | [], p, _ => by
    refine Ev.ret fun k => ?_
    rw [spec_l1Has.l0, if_neg (by simp)]
    simp
  | h :: t, p, hn => by
    have hn' : p.length + t.length + 1 ≤ 35184372088832 := by simpa [Nat.add_assoc] using hn
    have hm := len_mid p h t
    by_cases c : h = x
    · rw [decide_eq_true (by simp [c] : x ∈ h :: t)]
      refine Ev.ret fun k => ?_
      rw [spec_l1Has.l0, if_pos (by omega), if_pos (by omega), if_pos (by omega), rd_mid, if_pos c]
    · have ih := spec_l1Has_l0 x t (p ++ [h]) (by simp; omega)
      rw [app_snoc, len_snoc] at ih
      have e : decide (x ∈ h :: t) = decide (x ∈ t) := decide_eq_decide.2 (by simp [Ne.symm c])
      rw [e]
      refine Ev.step (fun k => ?_) ih
      show spec_l1Has.l0 (k + 1) x (p ++ h :: t) ((p ++ h :: t).length : Int) (p.length : Int) = _
      rw [spec_l1Has.l0, if_pos (by omega), if_pos (by omega), if_pos (by omega), rd_mid, if_neg c, w64 (by omega) (by omega)]
theorem ev_spec_l1Has (l : List Int) (x : Int) (hl : l.length ≤ 35184372088832) : Ev (fun k => spec_l1Has.f k l x) (decide (x ∈ l)) :=
  spec_l1Has_l0 x l [] (by simpa using hl)

theorem spec_paDrive_l1 (places : Int) (cars : List Int) (n i : Int) (out : List Int) (ho : out.length ≤ 1000) (r : List Int) : ∀ (d : Nat) (x : Int), x + d = places → 0 ≤ x → places ≤ 1000 →
    Ev (fun k => spec_paDrive.l0 k places (out ++ [seek out d x]) cars n (wrap64 (i + 1))) r → Ev (fun k => spec_paDrive.l1 k places out x cars n i) r
  | 0, x, hx, h0, hp, h => by
    refine Ev.step (fun k => ?_) h
    show spec_paDrive.l1 (k + 1) places out x cars n i = _
    rw [spec_paDrive.l1, if_neg (by omega), if_pos (by omega), if_pos (by omega)]
    rfl
  | d + 1, x, hx, h0, hp, h => by
    by_cases c : x ∈ out
    · have ih := spec_paDrive_l1 places cars n i out ho r d (x + 1) (by omega) (by omega) hp (by rw [seek, if_pos c] at h; exact h)
      refine Ev.step (f := fun k => (spec_l1Has.f k out x).bind fun t => if t = true then spec_paDrive.l1 k places out (wrap64 (x + 1)) cars n i else if x ≥ places then if out.length < 17592186044416 then spec_paDrive.l0 k places (out ++ [-1]) cars n (wrap64 (i + 1)) else none else if out.length < 17592186044416 then spec_paDrive.l0 k places (out ++ [x]) cars n (wrap64 (i + 1)) else none) (fun k => ?_) ?_
      · rw [spec_paDrive.l1, if_pos (by omega)]
      · refine Ev.bind (ev_spec_l1Has out x (by omega)) ?_
        rw [decide_eq_true c, w64 (by omega) (by omega)]
        exact ih
    · refine Ev.step (f := fun k => (spec_l1Has.f k out x).bind fun t => if t = true then spec_paDrive.l1 k places out (wrap64 (x + 1)) cars n i else if x ≥ places then if out.length < 17592186044416 then spec_paDrive.l0 k places (out ++ [-1]) cars n (wrap64 (i + 1)) else none else if out.length < 17592186044416 then spec_paDrive.l0 k places (out ++ [x]) cars n (wrap64 (i + 1)) else none) (fun k => ?_) ?_
      · rw [spec_paDrive.l1, if_pos (by omega)]
      · refine Ev.bind (ev_spec_l1Has out x (by omega)) ?_
        rw [decide_eq_false c]
        rw [seek, if_neg c] at h
        refine Ev.congr (fun k => ?_) h
        show (if false = true then _ else _) = _
        rw [if_neg (by simp), if_neg (by omega), if_pos (by omega)]
theorem spec_paDrive_l0 (places : Int) (hp : places ≤ 1000) : ∀ (t p out : List Int), (∀ c ∈ t, 0 ≤ c ∧ c ≤ places) → p.length + t.length ≤ 500 → out.length + t.length ≤ 500 →
    Ev (fun k => spec_paDrive.l0 k places out (p ++ t) ((p ++ t).length : Int) (p.length : Int)) (driveS places out t)
  | [], p, out, _, _, _ => by
    refine Ev.ret fun k => ?_
    rw [spec_paDrive.l0, if_neg (by simp)]
    rfl
  | c :: t, p, out, hc, hn, ho => by
    have hn' : p.length + t.length + 1 ≤ 500 := by simpa [Nat.add_assoc] using hn
    have ho' : out.length + t.length + 1 ≤ 500 := by simpa [Nat.add_assoc] using ho
    have hm := len_mid p c t
    have h0 := hc c (by simp)
    have ih := spec_paDrive_l0 places hp t (p ++ [c]) (out ++ [seek out (places - c).toNat c]) (fun x hx => hc x (by simp [hx])) (by simp; omega) (by simp; omega)
    rw [app_snoc, len_snoc] at ih
    refine Ev.step (fun k => ?_) (spec_paDrive_l1 places (p ++ c :: t) ((p ++ c :: t).length : Int) (p.length : Int) out (by omega) _ (places - c).toNat c (by omega) (by omega) hp ?_)
    · show spec_paDrive.l0 (k + 1) places out (p ++ c :: t) ((p ++ c :: t).length : Int) (p.length : Int) = _
      rw [spec_paDrive.l0, if_pos (by omega), if_pos (by omega), if_pos (by omega), rd_mid]
    · rw [w64 (by omega) (by omega)]
      exact ih
theorem ev_spec_paDrive (l : List Int) (places : Int) (hp : places ≤ 1000) (hl : l.length ≤ 500) (hc : ∀ c ∈ l, 0 ≤ c ∧ c ≤ places) : Ev (fun k => spec_paDrive.f k l places) (driveS places [] l) :=
  spec_paDrive_l0 places hp l [] [] hc (by simpa using hl) (by simpa using hl)

theorem ev_spec_l1In (a b c : Int) : spec_l1In.f a b c = some (decide (b ≤ a) && decide (a ≤ c)) := by
  unfold spec_l1In.f
  by_cases h : a ≥ b
  · rw [if_pos h]; simp [show b ≤ a from h]
  · rw [if_neg h]; simp [show ¬ b ≤ a from h]

theorem spec_l1All_l0 (lo hi : Int) : ∀ (t p : List Int), p.length + t.length ≤ 35184372088832 →
    Ev (fun k => spec_l1All.l0 k lo hi (p ++ t) ((p ++ t).length : Int) (p.length : Int)) (inAll lo hi t)
  | [], p, _ => by
    refine Ev.ret fun k => ?_
    rw [spec_l1All.l0, if_neg (by simp)]
    rfl
  | h :: t, p, hn => by
    have hn' : p.length + t.length + 1 ≤ 35184372088832 := by simpa [Nat.add_assoc] using hn
    have hm := len_mid p h t
    rw [inAll_cons]
    cases c : decide (lo ≤ h) && decide (h ≤ hi) with
    | true =>
      have ih := spec_l1All_l0 lo hi t (p ++ [h]) (by simp; omega)
      rw [app_snoc, len_snoc] at ih
      rw [Bool.true_and]
      refine Ev.step (fun k => ?_) ih
      show spec_l1All.l0 (k + 1) lo hi (p ++ h :: t) ((p ++ h :: t).length : Int) (p.length : Int) = _
      rw [spec_l1All.l0, if_pos (by omega), if_pos (by omega), if_pos (by omega), rd_mid, ev_spec_l1In, c, Option.bind_some, if_pos rfl, w64 (by omega) (by omega)]
    | false =>
      rw [Bool.false_and]
      refine Ev.ret fun k => ?_
      rw [spec_l1All.l0, if_pos (by omega), if_pos (by omega), if_pos (by omega), rd_mid, ev_spec_l1In, c]
      rfl
theorem ev_spec_l1All (l : List Int) (lo hi : Int) (hl : l.length ≤ 35184372088832) : Ev (fun k => spec_l1All.f k l lo hi) (inAll lo hi l) :=
  spec_l1All_l0 lo hi l [] (by simpa using hl)

theorem ev_spec_paParking (l : List Int) (hl : l.length ≤ 35184372088832) : Ev (fun k => spec_paParking.f k l) (pf l) := by
  by_cases c8 : l.length ≤ 8
  · refine Ev.congr (fun k => by rw [spec_paParking.f, if_pos (by omega), w64 (by omega) (by omega)]) ?_
    refine Ev.bind (ev_spec_l1All l 0 ((l.length : Int) - 1) hl) ?_
    cases c : inAll 0 ((l.length : Int) - 1) l with
    | false =>
      have e : pf l = false := by simp [pf, c]
      rw [e]
      exact Ev.congr (fun k => by rw [if_neg (by simp)]) (Ev.now false)
    | true =>
      have hp := (inAll_iff _ _ _).1 c
      have e : pf l = !(decide ((-1 : Int) ∈ driveS l.length [] l)) := by simp [pf, c, c8]
      rw [e]
      refine Ev.congr (fun k => by rw [if_pos rfl]) ?_
      refine Ev.bind (a := !(decide ((-1 : Int) ∈ driveS l.length [] l))) ?_ (Ev.now _)
      refine Ev.congr (fun k => rfl) (Ev.bind (ev_spec_paDrive l l.length (by omega) (by omega) (fun x hx => by have := hp x hx; omega)) ?_)
      exact Ev.bind (ev_spec_l1Has _ (-1) (by rw [driveS_length]; simp; omega)) (Ev.now _)
  · have e : pf l = false := by simp [pf, c8]
    rw [e]
    exact Ev.congr (fun k => by rw [spec_paParking.f, if_neg (by omega)]) (Ev.now false)

/-- What a drive hands back. -/
def orNone (l : List Int) : List Int × Bool := if (-1 : Int) ∈ l then ([], false) else (l, true)
theorem orNone_length (l : List Int) : (orNone l).1.length ≤ l.length := by
  unfold orNone
  split
  · simp
  · exact Nat.le_refl _

/-- What stands behind a car: it has failed, or it stands. -/
def DriveGoes (places : Int) (out : List Int) (w : Int) (cars : List Int) (n i : Int) (r : List Int × Bool) : Prop :=
  (w = -1 → r = ([], false)) ∧ (w ≠ -1 → ∀ taken', Tk places (out ++ [w]) taken' → Ev (fun k => impl_drive.l0 k places taken' (out ++ [w]) cars n (wrap64 (i + 1))) r)
theorem impl_drive_l1 (places : Int) (taken : List Bool) (out : List Int) (ht : Tk places out taken) (cars : List Int) (n i : Int) (ho : out.length ≤ 1000) (hp : places ≤ 1000) (r : List Int × Bool) : ∀ (d : Nat) (x : Int), (places - x).toNat = d → 0 ≤ x →
    DriveGoes places out (seek out d x) cars n i r → Ev (fun k => impl_drive.l1 k places taken out x cars n i) r
  | 0, x, hx, h0, h => by
    obtain rfl := h.1 rfl
    refine Ev.ret fun k => ?_
    rw [impl_drive.l1, if_neg (by omega), if_pos (by omega)]
  | d + 1, x, hx, h0, h => by
    have ha := ht.at x h0 (by omega)
    have hl := ht.1
    by_cases c : x ∈ out
    · rw [seek, if_pos c] at h
      refine Ev.step (fun k => ?_) (impl_drive_l1 places taken out ht cars n i ho hp r d (x + 1) (by omega) (by omega) h)
      show impl_drive.l1 (k + 1) places taken out x cars n i = _
      rw [impl_drive.l1, if_pos (by omega), if_pos (by omega), if_pos (by omega), ha, decide_eq_true c, if_pos rfl, w64 (by omega) (by omega)]
    · rw [seek, if_neg c] at h
      refine Ev.step (fun k => ?_) (h.2 (by omega) _ (ht.take x h0 (by omega)))
      show impl_drive.l1 (k + 1) places taken out x cars n i = _
      rw [impl_drive.l1, if_pos (by omega), if_pos (by omega), if_pos (by omega), ha, decide_eq_false c, if_neg (by simp), if_neg (by omega), if_pos (by omega)]
theorem impl_drive_l0 (places : Int) (hp : places ≤ 1000) : ∀ (t p out : List Int) (taken : List Bool), Tk places out taken → (-1 : Int) ∉ out → (∀ c ∈ t, 0 ≤ c) → p.length + t.length ≤ 500 → out.length + t.length ≤ 500 →
    Ev (fun k => impl_drive.l0 k places taken out (p ++ t) ((p ++ t).length : Int) (p.length : Int)) (orNone (driveS places out t))
  | [], p, out, taken, _, hnot, _, _, _ => by
    refine Ev.ret fun k => ?_
    rw [impl_drive.l0, if_neg (by simp)]
    show some (out, true) = some (orNone out)
    rw [orNone, if_neg hnot]
  | c :: t, p, out, taken, ht, hnot, hc, hn, ho => by
    have hn' : p.length + t.length + 1 ≤ 500 := by simpa [Nat.add_assoc] using hn
    have ho' : out.length + t.length + 1 ≤ 500 := by simpa [Nat.add_assoc] using ho
    have hm := len_mid p c t
    have h0 := hc c (by simp)
    refine Ev.step (fun k => ?_) (impl_drive_l1 places taken out ht (p ++ c :: t) ((p ++ c :: t).length : Int) (p.length : Int) (by omega) hp (orNone (driveS places out (c :: t))) (places - c).toNat c rfl h0 ⟨fun e => ?_, fun e taken' ht' => ?_⟩)
    · show impl_drive.l0 (k + 1) places taken out (p ++ c :: t) ((p ++ c :: t).length : Int) (p.length : Int) = _
      rw [impl_drive.l0, if_pos (by omega), if_pos (by omega), if_pos (by omega), rd_mid]
    · obtain ⟨s, _, hs⟩ := driveS_prefix places t (out ++ [-1])
      simp only [driveS, e, hs]
      unfold orNone
      rw [if_pos (by simp)]
    · have ih := impl_drive_l0 places hp t (p ++ [c]) (out ++ [seek out (places - c).toNat c]) taken' ht' (by simp [hnot]; exact fun h => e h.symm) (fun x hx => hc x (by simp [hx])) (by simp; omega) (by simp; omega)
      rw [app_snoc, len_snoc] at ih
      rw [w64 (by omega) (by omega)]
      exact ih
theorem ev_impl_drive (l : List Int) (places : Int) (hp0 : 0 ≤ places) (hp : places ≤ 1000) (hl : l.length ≤ 500) (hc : ∀ c ∈ l, 0 ≤ c) : Ev (fun k => impl_drive.f k l places) (orNone (driveS places [] l)) := by
  refine Ev.congr (fun k => by rw [impl_drive.f, if_pos hp0, if_pos (by omega)]) ?_
  exact impl_drive_l0 places hp l [] [] _ (Tk.none places hp0) (by simp) hc (by simpa using hl) (by simpa using hl)

theorem slices_IndexFunc_l0 (q : Int → Bool) : ∀ (t p : List Int), p.length + t.length ≤ 35184372088832 →
    ∃ r : Int, decide (r ≥ 0) = t.any q ∧ Ev (fun k => slices_IndexFunc_int_int.l0 q k (p ++ t) ((p ++ t).length : Int) (p.length : Int)) r
  | [], p, _ => by
    refine ⟨-1, by simp, Ev.ret fun k => ?_⟩
    rw [slices_IndexFunc_int_int.l0, if_neg (by simp)]
  | h :: t, p, hn => by
    have hn' : p.length + t.length + 1 ≤ 35184372088832 := by simpa [Nat.add_assoc] using hn
    have hm := len_mid p h t
    cases c : q h with
    | true =>
      refine ⟨p.length, by simp [c], Ev.ret fun k => ?_⟩
      rw [slices_IndexFunc_int_int.l0, if_pos (by omega), if_pos (by omega), if_pos (by omega), rd_mid, c, Option.bind_some, if_pos rfl]
    | false =>
      obtain ⟨r, hr, ih⟩ := slices_IndexFunc_l0 q t (p ++ [h]) (by simp; omega)
      rw [app_snoc, len_snoc] at ih
      refine ⟨r, by simpa [c] using hr, Ev.step (fun k => ?_) ih⟩
      show slices_IndexFunc_int_int.l0 q (k + 1) (p ++ h :: t) ((p ++ h :: t).length : Int) (p.length : Int) = _
      rw [slices_IndexFunc_int_int.l0, if_pos (by omega), if_pos (by omega), if_pos (by omega), rd_mid, c, Option.bind_some, if_neg (by simp), w64 (by omega) (by omega)]
theorem ev_containsFunc (q : Int → Bool) (l : List Int) (hl : l.length ≤ 35184372088832) : Ev (fun k => slices_ContainsFunc_int_int.f q k l) (l.any q) := by
  obtain ⟨r, hr, h⟩ := slices_IndexFunc_l0 q l [] (by simpa using hl)
  rw [← hr]
  exact Ev.congr (fun k => rfl) (Ev.bind h (Ev.now _))

theorem ev_impl_between (a b c : Int) : impl_between.f a b c = some (decide (b ≤ a) && decide (a ≤ c)) := by
  unfold impl_between.f
  by_cases h : a ≥ b
  · rw [if_pos h]; simp [show b ≤ a from h]
  · rw [if_neg h]; simp [show ¬ b ≤ a from h]

theorem ev_impl_areBetween (l : List Int) (lo hi : Int) (hl : l.length ≤ 35184372088832) : Ev (fun k => impl_areBetween.f k l lo hi) (inAll lo hi l) := by
  have e : (!(l.any (impl_areBetween_1.p lo hi))) = inAll lo hi l := by
    have hp : ∀ n, impl_areBetween_1.p lo hi n = !(decide (lo ≤ n) && decide (n ≤ hi)) := fun n => by
      simp [impl_areBetween_1.p, ev_impl_between]
    unfold inAll
    induction l with
    | nil => rfl
    | cons x t ih =>
      rw [List.any_cons, List.all_cons, Bool.not_or, ih (by simp at hl; omega), hp, Bool.not_not]
  rw [← e]
  exact Ev.congr (fun k => rfl) (Ev.bind (ev_containsFunc (impl_areBetween_1.p lo hi) l hl) (Ev.now _))

theorem ev_impl_areCars (l : List Int) (hl : l.length ≤ 35184372088832) : Ev (fun k => impl_areCars.f k l) (decide (l.length ≤ 8) && inAll 0 99 l) := by
  by_cases c8 : l.length ≤ 8
  · rw [decide_eq_true c8, Bool.true_and]
    refine Ev.congr (fun k => by rw [impl_areCars.f, if_pos (by omega)]) ?_
    exact Ev.bind (ev_impl_areBetween l 0 99 hl) (Ev.now _)
  · rw [decide_eq_false c8, Bool.false_and]
    exact Ev.congr (fun k => by rw [impl_areCars.f, if_neg (by omega)]) (Ev.now false)
theorem ev_impl_isParking (l : List Int) (hl : l.length ≤ 35184372088832) : Ev (fun k => impl_isParking.f k l) (pf l) := by
  refine Ev.congr (fun k => rfl) (Ev.bind (ev_impl_areCars l hl) ?_)
  cases c : decide (l.length ≤ 8) && inAll 0 99 l with
  | false =>
    have e : pf l = false := by
      cases d : pf l with
      | false => rfl
      | true =>
        obtain ⟨h1, h2, _⟩ := (pf_iff l).1 d
        rw [decide_eq_true h1, Bool.true_and] at c
        have : inAll 0 99 l = true := (inAll_iff _ _ _).2 fun x hx => by have := h2 x hx; omega
        rw [this] at c; cases c
    rw [e]
    exact Ev.congr (fun k => by rw [if_neg (by simp)]) (Ev.now false)
  | true =>
    have cc : l.length ≤ 8 ∧ inAll 0 99 l = true := by simpa only [Bool.and_eq_true, decide_eq_true_eq] using c
    have hx := (inAll_iff _ _ _).1 cc.2
    refine Ev.congr (fun k => by rw [if_pos rfl]) ?_
    refine Ev.bind (ev_impl_drive l l.length (by omega) (by omega) (by omega) (fun x h => (hx x h).1)) ?_
    have e : (orNone (driveS l.length [] l)).2 = pf l := by
      unfold orNone
      by_cases d : (-1 : Int) ∈ driveS l.length [] l
      · rw [if_pos d]
        symm
        simp [pf, d]
      · rw [if_neg d]
        symm
        rw [pf_iff]
        refine ⟨cc.1, fun x h => ⟨(hx x h).1, ?_⟩, d⟩
        have : ¬ (l.length : Int) ≤ x := fun h1 => d (driveS_over _ _ _ ⟨x, h, h1⟩)
        omega
    rw [← e]
    exact Ev.now _

/-- The places of the numbers that are so. -/
def places (q : Int → Bool) : List Int → Int → List Int
  | [], _ => []
  | h :: t, i => if q h = true then i :: places q t (i + 1) else places q t (i + 1)
theorem places_length (q : Int → Bool) : ∀ (l : List Int) (i : Int), ((places q l i).length : Int) = cnt q l
  | [], i => by simp [places, cnt]
  | h :: t, i => by
    rw [places, cnt]
    have := places_length q t (i + 1)
    split
    · simp; omega
    · omega
theorem places_mem (q : Int → Bool) (x : Int) : ∀ (l : List Int) (i : Int), x ∈ places q l i ↔ ∃ j : Nat, ∃ v, l[j]? = some v ∧ q v = true ∧ x = i + j
  | [], i => by simp [places]
  | h :: t, i => by
    rw [places]
    have ih := places_mem q x t (i + 1)
    constructor
    · intro hx
      have : x = i ∧ q h = true ∨ x ∈ places q t (i + 1) := by
        split at hx
        · rename_i c
          rcases List.mem_cons.1 hx with h1 | h1
          · exact .inl ⟨h1, c⟩
          · exact .inr h1
        · exact .inr hx
      rcases this with ⟨h1, h2⟩ | h1
      · exact ⟨0, h, by simp, h2, by omega⟩
      · obtain ⟨j, v, h2, h3, h4⟩ := ih.1 h1
        exact ⟨j + 1, v, by simpa using h2, h3, by omega⟩
    · rintro ⟨j, v, h2, h3, h4⟩
      cases j with
      | zero =>
        have e : h = v := by simpa using h2
        rw [e, if_pos h3]
        exact List.mem_cons.2 (.inl (by omega))
      | succ j =>
        have h1 : x ∈ places q t (i + 1) := ih.2 ⟨j, v, by simpa using h2, h3, by omega⟩
        split
        · exact List.mem_cons_of_mem _ h1
        · exact h1
theorem places_rising (q : Int → Bool) : ∀ (l : List Int) (i : Int), (places q l i).Pairwise (· < ·)
  | [], i => by simp [places]
  | h :: t, i => by
    rw [places]
    split
    · rw [List.pairwise_cons]
      refine ⟨fun x hx => ?_, places_rising q t (i + 1)⟩
      obtain ⟨j, v, _, _, e⟩ := (places_mem q x t (i + 1)).1 hx
      omega
    · exact places_rising q t (i + 1)

theorem impl_indices_l0 (q : Int → Bool) : ∀ (t p out : List Int), p.length + t.length ≤ 1000000 → out.length ≤ p.length →
    Ev (fun k => impl_indices.l0 q k out (p ++ t) ((p ++ t).length : Int) (p.length : Int)) (out ++ places q t p.length)
  | [], p, out, _, _ => by
    refine Ev.ret fun k => ?_
    rw [impl_indices.l0, if_neg (by simp)]
    simp [places]
  | h :: t, p, out, hn, ho => by
    have hn' : p.length + t.length + 1 ≤ 1000000 := by simpa [Nat.add_assoc] using hn
    have hm := len_mid p h t
    cases c : q h with
    | true =>
      have ih := impl_indices_l0 q t (p ++ [h]) (out ++ [(p.length : Int)]) (by simp; omega) (by simp; omega)
      rw [app_snoc, len_snoc] at ih
      have e : out ++ places q (h :: t) p.length = out ++ [(p.length : Int)] ++ places q t (p.length + 1) := by rw [places, if_pos c]; simp
      rw [e]
      refine Ev.step (fun k => ?_) ih
      show impl_indices.l0 q (k + 1) out (p ++ h :: t) ((p ++ h :: t).length : Int) (p.length : Int) = _
      rw [impl_indices.l0, if_pos (by omega), if_pos (by omega), if_pos (by omega), rd_mid, c, Option.bind_some, if_pos rfl, if_pos (by omega), w64 (by omega) (by omega)]
    | false =>
      have ih := impl_indices_l0 q t (p ++ [h]) out (by simp; omega) (by simp; omega)
      rw [app_snoc, len_snoc] at ih
      have e : out ++ places q (h :: t) p.length = out ++ places q t (p.length + 1) := by rw [places, if_neg (by simp [c])]
      rw [e]
      refine Ev.step (fun k => ?_) ih
      show impl_indices.l0 q (k + 1) out (p ++ h :: t) ((p ++ h :: t).length : Int) (p.length : Int) = _
      rw [impl_indices.l0, if_pos (by omega), if_pos (by omega), if_pos (by omega), rd_mid, c, Option.bind_some, if_neg (by simp), w64 (by omega) (by omega)]
theorem ev_impl_indices (q : Int → Bool) (l : List Int) (hl : l.length ≤ 1000000) : Ev (fun k => impl_indices.f q k l) (places q l 0) := by
  have := impl_indices_l0 q l [] [] (by simpa using hl) (by simp)
  exact this

/-- One number at many places. -/
def setAll (l : List Int) (v : Int) : List Int → List Int
  | [] => l
  | i :: t => setAll (l.set i.toNat v) v t
theorem setAll_length (v : Int) : ∀ (t l : List Int), (setAll l v t).length = l.length
  | [], l => rfl
  | i :: t, l => by rw [setAll, setAll_length v t]; simp
theorem rd_append (a b : List Int) (i : Int) (h0 : 0 ≤ i) (h1 : i < a.length) : rd (a ++ b) i = rd a i := by
  unfold rd
  rw [List.getD_eq_getElem?_getD, List.getD_eq_getElem?_getD, List.getElem?_append_left (by omega)]
theorem spec_TreeOfParking_l1 (l : List Int) (n : Nat) (hn : l.length = n) (hn8 : n ≤ 8) (k : Nat) (hk8 : k ≤ 20) (v : Int) (r : List Int × Bool) : ∀ (t p par ord : List Int), l = p ++ t → par.length = n → (k : Int) < ord.length → rd ord k = v → ord.length ≤ 100 + p.length →
    Ev (fun kk => spec_TreeOfParking.l0 kk l (setAll par v (places (fun x => decide (x = (k : Int))) t p.length)) (ord ++ (places (fun x => decide (x = (k : Int))) t p.length).map (· + 1)) ((k : Int) + 1)) r →
    Ev (fun kk => spec_TreeOfParking.l1 kk l par ord (k : Int) l (l.length : Int) (p.length : Int)) r
  | [], p, par, ord, hl, _, _, _, _, h => by
    subst hl
    refine Ev.step (fun kk => ?_) h
    show spec_TreeOfParking.l1 (kk + 1) (p ++ []) par ord (k : Int) (p ++ []) ((p ++ []).length : Int) (p.length : Int) = _
    rw [spec_TreeOfParking.l1, if_neg (by simp), w64 (by omega) (by omega)]
    simp [places, setAll]
  | x :: t, p, par, ord, hl, hpl, hk, hv, hol, h => by
    have hm := len_mid p x t
    have hll : (l.length : Int) = (p.length : Int) + t.length + 1 := by rw [hl]; exact hm
    have e1 : l = (p ++ [x]) ++ t := by rw [hl]; simp
    have hrd : rd l (p.length : Int) = x := by rw [hl]; exact rd_mid p x t
    by_cases c : x = (k : Int)
    · rw [places, if_pos (by simp [c])] at h
      have ih := spec_TreeOfParking_l1 l n hn hn8 k hk8 v r t (p ++ [x]) (par.set (p.length : Int).toNat v) (ord ++ [(p.length : Int) + 1]) e1 (by simp [hpl]) (by simp; omega) (by rw [rd_append _ _ _ (by omega) hk]; exact hv) (by simp; omega)
      rw [len_snoc] at ih
      have e2 : ord ++ ((p.length : Int) :: places (fun x => decide (x = (k : Int))) t (p.length + 1)).map (· + 1) = (ord ++ [(p.length : Int) + 1]) ++ (places (fun x => decide (x = (k : Int))) t (p.length + 1)).map (· + 1) := by simp
      rw [setAll, e2] at h
      refine Ev.step (fun kk => ?_) (ih h)
      show spec_TreeOfParking.l1 (kk + 1) l par ord (k : Int) l (l.length : Int) (p.length : Int) = _
      rw [spec_TreeOfParking.l1, if_pos (by omega), if_pos (by omega), if_pos (by omega), hrd, if_pos c, if_pos (by omega), if_pos (by omega), if_pos (by omega), if_pos (by omega), hv, w64 (by omega) (by omega)]
    · rw [places, if_neg (by simp [c])] at h
      have ih := spec_TreeOfParking_l1 l n hn hn8 k hk8 v r t (p ++ [x]) par ord e1 hpl hk hv (by simp; omega)
      rw [len_snoc] at ih
      refine Ev.step (fun kk => ?_) (ih h)
      show spec_TreeOfParking.l1 (kk + 1) l par ord (k : Int) l (l.length : Int) (p.length : Int) = _
      rw [spec_TreeOfParking.l1, if_pos (by omega), if_pos (by omega), if_pos (by omega), hrd, if_neg c, w64 (by omega) (by omega)]
theorem impl_TreeOfParking_l1 (l : List Int) (n : Nat) (hn8 : n ≤ 8) (k : Nat) (hk8 : k ≤ 20) (v : Int) (r : List Int × Bool) : ∀ (t p par ord : List Int), p.length + t.length ≤ 100 → par.length = n → (∀ i ∈ t, 0 ≤ i ∧ i < n) → (k : Int) < ord.length → rd ord k = v → ord.length ≤ 100 + p.length →
    Ev (fun kk => impl_TreeOfParking.l0 kk l (ord ++ t.map (· + 1)) (setAll par v t) (n : Int) ((k : Int) + 1)) r →
    Ev (fun kk => impl_TreeOfParking.l1 kk l ord par (n : Int) (k : Int) (p ++ t) ((p ++ t).length : Int) (p.length : Int) (k : Int)) r
  | [], p, par, ord, _, _, _, _, _, _, h => by
    refine Ev.step (fun kk => ?_) h
    show impl_TreeOfParking.l1 (kk + 1) l ord par (n : Int) (k : Int) (p ++ []) ((p ++ []).length : Int) (p.length : Int) (k : Int) = _
    rw [impl_TreeOfParking.l1, if_neg (by simp), w64 (by omega) (by omega)]
    simp [setAll]
  | i :: t, p, par, ord, hpt, hpl, hi, hk, hv, hol, h => by
    have hpt' : p.length + t.length + 1 ≤ 100 := by simpa [Nat.add_assoc] using hpt
    have hm := len_mid p i t
    have hi0 := hi i (by simp)
    have ih := impl_TreeOfParking_l1 l n hn8 k hk8 v r t (p ++ [i]) (par.set i.toNat v) (ord ++ [i + 1]) (by simp; omega) (by simp [hpl]) (fun j hj => hi j (by simp [hj])) (by simp; omega) (by rw [rd_append _ _ _ (by omega) hk]; exact hv) (by simp; omega)
    rw [app_snoc p i t, len_snoc p i] at ih
    have e2 : ord ++ (i :: t).map (· + 1) = (ord ++ [i + 1]) ++ t.map (· + 1) := by simp
    rw [setAll, e2] at h
    refine Ev.step (fun kk => ?_) (ih h)
    show impl_TreeOfParking.l1 (kk + 1) l ord par (n : Int) (k : Int) (p ++ i :: t) ((p ++ i :: t).length : Int) (p.length : Int) (k : Int) = _
    rw [impl_TreeOfParking.l1, if_pos (by omega), if_pos (by omega), if_pos (by omega), if_pos (by omega), if_pos (by omega), rd_mid, if_pos (by omega), if_pos (by omega), if_pos (by omega), hv, w64 (by omega) (by omega), w64 (by omega) (by omega)]
theorem cnt_step (k : Int) : ∀ l : List Int, cnt (fun x => decide (x < k + 1)) l = cnt (fun x => decide (x < k)) l + cnt (fun x => decide (x = k)) l
  | [] => rfl
  | h :: t => by
    have ih := cnt_step k t
    simp only [cnt]
    by_cases c : h < k
    · rw [if_pos (by simp; omega), if_pos (by simpa using c), if_neg (by simp; omega)]
      omega
    · by_cases d : h = k
      · rw [if_pos (by simp; omega), if_neg (by simpa using c), if_pos (by simpa using d)]
        omega
      · rw [if_neg (by simp; omega), if_neg (by simpa using c), if_neg (by simpa using d)]
        omega
theorem cnt_le_of (p q : Int → Bool) : ∀ l : List Int, cnt p l ≤ l.length
  | l => (cnt_range p l).2
theorem treeOfParking_l0 (l : List Int) (hpf : pf l = true) : ∀ (d k : Nat) (par ord : List Int), k + d = l.length → par.length = l.length → (ord.length : Int) = 1 + cnt (fun x => decide (x < (k : Int))) l →
    ∃ r : List Int, r.length = l.length ∧ Ev (fun kk => spec_TreeOfParking.l0 kk l par ord (k : Int)) (r, true) ∧ Ev (fun kk => impl_TreeOfParking.l0 kk l ord par (l.length : Int) (k : Int)) (r, true)
  | 0, k, par, ord, hk, hpl, ho => by
    obtain ⟨h8, h2, _⟩ := (pf_iff l).1 hpf
    have hle := (cnt_range (fun x => decide (x < (k : Int))) l).2
    have hge := pf_count l hpf k (by omega)
    refine ⟨par, hpl, ?_, Ev.ret fun kk => ?_⟩
    · have hnone : places (fun x => decide (x = (k : Int))) l 0 = [] := by
        cases hq : places (fun x => decide (x = (k : Int))) l 0 with
        | nil => rfl
        | cons a t =>
          exfalso
          obtain ⟨j, w, h3, h4, _⟩ := (places_mem (fun x => decide (x = (k : Int))) a l 0).1 (by rw [hq]; simp)
          have h5 : w = (k : Int) := by simpa using h4
          have h6 := h2 w (List.mem_of_getElem? h3)
          omega
      refine Ev.step (f := fun kk => spec_TreeOfParking.l1 kk l par ord (k : Int) l (l.length : Int) 0) (fun kk => ?_) (spec_TreeOfParking_l1 l l.length rfl h8 k (by omega) (rd ord k) _ l [] par ord rfl hpl (by omega) rfl (by simp; omega) ?_)
      · rw [spec_TreeOfParking.l0, if_pos (by omega)]
      · simp only [List.length_nil]
        have e0 : ((0 : Nat) : Int) = 0 := rfl
        rw [e0, hnone]
        simp only [setAll, List.map_nil, List.append_nil]
        refine Ev.ret fun kk => ?_
        rw [spec_TreeOfParking.l0, if_neg (by omega)]
    · rw [impl_TreeOfParking.l0, if_neg (by omega)]
  | d + 1, k, par, ord, hk, hpl, ho => by
    obtain ⟨h8, h2, _⟩ := (pf_iff l).1 hpf
    have hle := (cnt_range (fun x => decide (x < (k : Int))) l).2
    have hge := pf_count l hpf k (by omega)
    have hst := cnt_step (k : Int) l
    have hpn := places_length (fun x => decide (x = (k : Int))) l 0
    have hcr := (cnt_range (fun x => decide (x = (k : Int))) l).2
    obtain ⟨r, h3, h4, h5⟩ := treeOfParking_l0 l hpf d (k + 1) (setAll par (rd ord k) (places (fun x => decide (x = (k : Int))) l 0)) (ord ++ (places (fun x => decide (x = (k : Int))) l 0).map (· + 1)) (by omega) (by rw [setAll_length]; exact hpl) (by
      have e : ((k + 1 : Nat) : Int) = (k : Int) + 1 := by omega
      rw [e, hst]
      simp
      omega)
    have ek : ((k + 1 : Nat) : Int) = (k : Int) + 1 := by omega
    rw [ek] at h4 h5
    refine ⟨r, h3, ?_, ?_⟩
    · refine Ev.step (f := fun kk => spec_TreeOfParking.l1 kk l par ord (k : Int) l (l.length : Int) 0) (fun kk => ?_) (spec_TreeOfParking_l1 l l.length rfl h8 k (by omega) (rd ord k) _ l [] par ord rfl hpl (by omega) rfl (by simp; omega) h4)
      rw [spec_TreeOfParking.l0, if_pos (by omega)]
    · have hidx := ev_impl_indices (impl_TreeOfParking_1.p (k : Int)) l (by omega)
      have hpe : impl_TreeOfParking_1.p (k : Int) = (fun x => decide (x = (k : Int))) := rfl
      rw [hpe] at hidx
      refine Ev.step (f := fun kk => (impl_TreeOfParking_1.f kk l (k : Int)).bind fun t => impl_TreeOfParking.l1 kk l ord par (l.length : Int) (k : Int) t (t.length : Int) 0 (k : Int)) (fun kk => ?_) (Ev.bind hidx ?_)
      · rw [impl_TreeOfParking.l0, if_pos (by omega)]
      · have := impl_TreeOfParking_l1 l l.length h8 k (by omega) (rd ord k) (r, true) (places (fun x => decide (x = (k : Int))) l 0) [] par ord (by simp; omega) hpl (fun i hi => by
          obtain ⟨j, w, h6, _, e⟩ := (places_mem _ _ _ _).1 hi
          have := (List.getElem?_eq_some_iff.1 h6).1
          omega) (by omega) rfl (by simp; omega) h5
        exact this
theorem treeOfParking_both (l : List Int) (hl : l.length ≤ 35184372088832) : ∃ r : List Int × Bool, r.1.length ≤ 35184372088832 ∧ Ev (fun k => spec_TreeOfParking.f k l) r ∧ Ev (fun k => impl_TreeOfParking.f k l) r := by
  cases c : pf l with
  | false =>
    refine ⟨([], false), by simp, ?_, ?_⟩
    · refine Ev.congr (fun k => rfl) (Ev.bind (ev_spec_paParking l hl) ?_)
      rw [c]; exact Ev.now _
    · refine Ev.congr (fun k => rfl) (Ev.bind (ev_impl_isParking l hl) ?_)
      rw [c]; exact Ev.now _
  | true =>
    obtain ⟨h8, h2, _⟩ := (pf_iff l).1 c
    have hz : cnt (fun x => decide (x < ((0 : Nat) : Int))) l = 0 := by
      have := cnt_filter 0 l
      have e : (l.filter fun x => decide ((0 : Int) ≤ x)) = l := List.filter_eq_self.2 fun x hx => by have := h2 x hx; simp; omega
      rw [e] at this
      have e0 : ((0 : Nat) : Int) = 0 := rfl
      rw [e0]
      omega
    obtain ⟨r, h3, h4, h5⟩ := treeOfParking_l0 l c l.length 0 (List.replicate l.length 0) [0] (by omega) (by simp) (by rw [hz]; simp)
    refine ⟨(r, true), by show r.length ≤ _; omega, ?_, ?_⟩
    · refine Ev.congr (fun k => rfl) (Ev.bind (ev_spec_paParking l hl) ?_)
      rw [c]
      refine Ev.congr (fun k => by rw [if_pos rfl, if_pos (by omega), if_pos (by simpa using hl)]) ?_
      exact h4
    · refine Ev.congr (fun k => rfl) (Ev.bind (ev_impl_isParking l hl) ?_)
      rw [c]
      refine Ev.congr (fun k => by rw [if_pos rfl, if_pos (by omega), if_pos (by simpa using hl)]) ?_
      exact h5

theorem FnExactTreeOfParking : laws_FnExactTreeOfParking.Pure := by
  intro l0 _ _ _
  by_cases c0 : (l0.length : Int) > 1048576
  · refine ⟨0, ?_⟩
    rw [laws_FnExactTreeOfParking.f, if_pos c0]
  have hl0 : l0.length ≤ 35184372088832 := by omega
  obtain ⟨r, hr, hs, hi⟩ := treeOfParking_both l0 hl0
  refine Ev.rounds ?_
  refine Ev.congr (fun k => by rw [laws_FnExactTreeOfParking.f, if_neg c0]) ?_
  refine Ev.bind (ev_toIntS l0 hl0) ?_
  refine Ev.bind (hs) ?_
  refine Ev.bind (ev_toIntS l0 hl0) ?_
  refine Ev.bind (hi) ?_
  refine Ev.bind (ev_eqIntS r.1 hr) ?_
  refine Ev.congr (fun k => by rw [if_pos rfl, bne_self_eq_false]) ?_
  refine Ev.step (fun k => by rw [laws_FnExactTreeOfParking.j0, if_neg (by simp)]) ?_
  refine Ev.bind (ev_toIntS l0 hl0) ?_
  refine Ev.bind (ev_eqIntS l0 hl0) ?_
  refine Ev.congr (fun k => by rw [if_pos rfl]) ?_
  refine Ev.bind (ev_markIntS l0 (1) (by omega) (by omega) hl0) ?_
  refine Ev.congr (fun k => by rw [if_neg (by omega)]) ?_
  refine Ev.bind (ev_eqIntS r.1 hr) ?_
  refine Ev.congr (fun k => by rw [if_pos rfl, bne_self_eq_false]) ?_
  refine Ev.step (fun k => by rw [laws_FnExactTreeOfParking.j1, if_neg (by simp)]) ?_
  refine Ev.bind (ev_markIntS r.1 1 (by omega) (by omega) hr) ?_
  refine Ev.bind (ev_heldIntS 1 r.1.length (by omega) (by omega) hr) ?_
  refine Ev.congr (fun k => by rw [if_neg (by omega), if_pos rfl]) ?_
  refine Ev.bind (ev_toIntS l0 hl0) ?_
  refine Ev.bind (hi) ?_
  refine Ev.bind (ev_eqIntS r.1 hr) ?_
  refine Ev.congr (fun k => by rw [if_pos rfl, bne_self_eq_false]) ?_
  refine Ev.step (fun k => by rw [laws_FnExactTreeOfParking.j2, if_neg (by simp)]) ?_
  refine Ev.bind (ev_heldIntS 1 r.1.length (by omega) (by omega) hr) ?_
  refine Ev.congr (fun k => by rw [if_neg (by omega), if_pos rfl]) ?_
  exact Ev.now true

end Go.Proofs.Ytkmojdkkiolalaa.Pure
