/- TouchesOf of the program and of the reference agree on every walk, the argument stays, and nothing is shared. -/
import Derived.Test.YtmollfkakalagaaWSized
import Derived.Test.YtmollfkakalagaaPFnExactTouchesOfx
namespace Go.Proofs.Ytmollfkakalagaa.PrintWords
open Go.ChangeShapes Go.WideShapes
/-- The word by the name that the printed row asks for. -/
theorem sized_ints {H : Type} {enc : TypeId × Value → H} {P : Program} {W : World} {base : Nat} {spare : Nat → Bool} {held : Bool} {t e : TypeId} {k : IntKind} {a : Option Addr} {len cap : Nat} {d : DataW H} {ps : List MemPlace} {ts : List TypeId} {ds : List (DataW H)} {j : Nat}
    (hsz : (DataW.weightsEach P ts ds).all (· ≤ reachBytes) = true) (ht : ts[j]? = some t) (hd : ds[j]? = some d) (hu : P.underlying t = some (.slice e)) (he : P.underlying e = some (.int k)) (hc : P.cellsOf e = 1) {B : Nat} (hB : P.bytesOf e = B)
    (h : DataW.Trod enc P W base spare held t (.slice a len cap) d ps) : len * B ≤ 140737488351232 :=
  Go.Proofs.YtmollfkakalagaaW.PrintWords.sized_ints hsz ht hd hu he hc hB h
end Go.Proofs.Ytmollfkakalagaa.PrintWords
namespace Go.Proofs.Ytmollfkakalagaa.Pure
open Go.RowKit Go.Proofs.Ytmollfkakalagaa.PFnExactTouchesOf Go.Proofs.YtmollfkakalagaaW.PrintWords Go.Proofs.YtmollfkakalagaaW.PrintLast
set_option linter.unusedVariables false
set_option linter.unusedSimpArgs false

theorem w64 {x : Int} (h0 : -9223372036854775808 ≤ x) (h1 : x ≤ 9223372036854775807) : wrap64 x = x := by
  unfold wrap64
  omega
theorem rd_mid (p : List Int) (h : Int) (t : List Int) : rd (p ++ h :: t) (p.length : Int) = h := by
  unfold rd
  simp
theorem rd_nat (l : List Int) (i : Nat) : rd l (i : Int) = l.getD i 0 := by
  unfold rd
  simp
theorem Ev.ret {α : Type} {g : Nat → Option α} {r : α} (h : ∀ k, g (k + 1) = some r) : Ev g r :=
  Ev.step (f := fun _ => some r) h (Ev.now r)

theorem toIntS_l0 : ∀ (t p : List Int), p.length + t.length ≤ 35184372088832 →
    Ev (fun k => laws_toIntS.l0 k (p ++ t) (p ++ List.replicate t.length 0) (p.length : Int)) (p ++ t)
  | [], p, _ => by
    refine Ev.ret fun k => ?_
    rw [laws_toIntS.l0, if_neg (by simp)]
    simp
  | h :: t, p, hn => by
    have hn' : p.length + t.length + 1 ≤ 35184372088832 := by simpa [Nat.add_assoc] using hn
    have ih := toIntS_l0 t (p ++ [h]) (by simp; omega)
    have e1 : (p ++ [h]) ++ t = p ++ h :: t := by simp
    have e2 : (((p ++ [h]).length : Nat) : Int) = (p.length : Int) + 1 := by simp
    rw [e1, e2] at ih
    refine Ev.step (fun k => ?_) ih
    show laws_toIntS.l0 (k + 1) (p ++ h :: t) (p ++ List.replicate (h :: t).length 0) (p.length : Int) = _
    rw [laws_toIntS.l0, if_pos (by simp; omega), if_pos (by omega), if_pos (by simp; omega), rd_mid, w64 (by omega) (by omega)]
    congr 1
    simp [List.replicate_succ, List.set_append]
theorem ev_toIntS (l : List Int) (h : l.length ≤ 35184372088832) : Ev (fun k => laws_toIntS.f k l) l := by
  have z := toIntS_l0 l [] (by simpa using h)
  refine Ev.congr (fun k => ?_) z
  show laws_toIntS.f k l = _
  rw [laws_toIntS.f, if_pos (by omega), if_pos (by simpa using h)]
  simp

theorem eqIntS_l0 : ∀ (t p : List Int), p.length + t.length ≤ 35184372088832 →
    Ev (fun k => laws_eqIntS.l0 k (p ++ t) (p ++ t) (p.length : Int)) true
  | [], p, _ => by
    refine Ev.ret fun k => ?_
    rw [laws_eqIntS.l0, if_neg (by simp)]
  | h :: t, p, hn => by
    have hn' : p.length + t.length + 1 ≤ 35184372088832 := by simpa [Nat.add_assoc] using hn
    have ih := eqIntS_l0 t (p ++ [h]) (by simp; omega)
    have e1 : (p ++ [h]) ++ t = p ++ h :: t := by simp
    have e2 : (((p ++ [h]).length : Nat) : Int) = (p.length : Int) + 1 := by simp
    rw [e1, e2] at ih
    refine Ev.step (fun k => ?_) ih
    show laws_eqIntS.l0 (k + 1) (p ++ h :: t) (p ++ h :: t) (p.length : Int) = _
    rw [laws_eqIntS.l0, if_pos (by simp; omega), if_pos (by omega), if_pos (by simp; omega), rd_mid, if_pos rfl, w64 (by omega) (by omega)]
theorem ev_eqIntS (l : List Int) (h : l.length ≤ 35184372088832) : Ev (fun k => laws_eqIntS.f k l l) true := by
  have z := eqIntS_l0 l [] (by simpa using h)
  refine Ev.congr (fun k => ?_) z
  show laws_eqIntS.f k l l = _
  rw [laws_eqIntS.f, if_pos rfl]
  rfl

theorem ev_eqWalk (a b : List Int) (ha : a.length ≤ 35184372088832) (hb : b.length ≤ 35184372088832) : Ev (fun k => laws_eqWalk.f k a b a b) true :=
  Ev.congr (fun k => rfl) (Ev.bind (ev_eqIntS a ha) (Ev.congr (fun k => if_pos rfl) (Ev.bind (ev_eqIntS b hb) (Ev.congr (fun k => if_pos rfl) (Ev.now true)))))

theorem ev_szWalk (a b : List Int) (ha : a.length ≤ maxLen) (hb : b.length ≤ maxLen) : ∃ z, laws_szWalk.f a b 1048576 = some z ∧ (0 ≤ z → a.length + b.length ≤ 1048576) := by
  have hm : maxLen ≤ 9223372036854775807 := by decide
  unfold laws_szWalk.f laws_szIntS.f
  rw [w64 (x := 1048576 - (a.length : Int)) (by omega) (by omega)]
  by_cases c : 1048576 - (a.length : Int) < 0
  · rw [if_pos c, Option.bind_some, if_pos (by omega)]
    exact ⟨-1, rfl, by omega⟩
  · rw [if_neg c, Option.bind_some, if_neg c, w64 (by omega) (by omega)]
    by_cases d : 1048576 - (a.length : Int) - (b.length : Int) < 0
    · rw [if_pos d, Option.bind_some, if_pos (by omega)]
      exact ⟨-1, rfl, by omega⟩
    · rw [if_neg d, Option.bind_some, if_neg d]
      exact ⟨_, rfl, by omega⟩
theorem ev_toWalk (a b : List Int) (ha : a.length ≤ 35184372088832) (hb : b.length ≤ 35184372088832) : Ev (fun k => laws_toWalk.f k a b) (a, b) :=
  Ev.bind (ev_toIntS a ha) (Ev.bind (ev_toIntS b hb) (Ev.now _))

/-- n numbers from one on. -/
def marks (k : Int) : Nat → List Int
  | 0 => []
  | n + 1 => k :: marks (k + 1) n
theorem marks_length : ∀ (n : Nat) (k : Int), (marks k n).length = n
  | 0, _ => rfl
  | n + 1, k => by simp [marks, marks_length n]
theorem markIntS_l0 : ∀ (t p : List Int) (k : Int), 0 ≤ k → k + t.length ≤ 4611686018427387904 → p.length + t.length ≤ 35184372088832 →
    Ev (fun n => laws_markIntS.l0 n (p ++ t) k (p.length : Int)) (k + t.length, p ++ marks k t.length)
  | [], p, k, _, _, _ => by
    refine Ev.ret fun n => ?_
    rw [laws_markIntS.l0, if_neg (by simp)]
    simp [marks]
  | h :: t, p, k, h0, hk, hn => by
    have hn' : p.length + t.length + 1 ≤ 35184372088832 := by simpa [Nat.add_assoc] using hn
    have hk' : k + (t.length : Int) + 1 ≤ 4611686018427387904 := by simp at hk; omega
    have ih := markIntS_l0 t (p ++ [k]) (k + 1) (by omega) (by omega) (by simp; omega)
    have e1 : (p ++ [k]) ++ t = p ++ k :: t := by simp
    have e2 : (((p ++ [k]).length : Nat) : Int) = (p.length : Int) + 1 := by simp
    rw [e1, e2] at ih
    have e3 : ((k + ((h :: t).length : Int), p ++ marks k (h :: t).length) : Int × List Int) = (k + 1 + (t.length : Int), p ++ [k] ++ marks (k + 1) t.length) := by
      simp [marks]; omega
    rw [e3]
    refine Ev.step (fun n => ?_) ih
    show laws_markIntS.l0 (n + 1) (p ++ h :: t) k (p.length : Int) = _
    rw [laws_markIntS.l0, if_pos (by simp; omega), if_pos (by omega), w64 (by omega) (by omega), w64 (by omega) (by omega)]
    congr 1
    simp [List.set_append]
theorem ev_markIntS (l : List Int) (k : Int) (h0 : 0 ≤ k) (hk : k ≤ 4000000000000000000) (hl : l.length ≤ 35184372088832) : Ev (fun n => laws_markIntS.f n l k) (k + l.length, marks k l.length) :=
  markIntS_l0 l [] k h0 (by omega) (by simpa using hl)
theorem heldIntS_l0 : ∀ (m : Nat) (p : List Int) (k : Int), 0 ≤ k → k + m ≤ 4611686018427387904 → p.length + m ≤ 35184372088832 →
    Ev (fun n => laws_heldIntS.l0 n (p ++ marks k m) k (p.length : Int)) (k + m)
  | 0, p, k, _, _, _ => by
    refine Ev.ret fun n => ?_
    rw [laws_heldIntS.l0, if_neg (by simp [marks])]
    simp
  | m + 1, p, k, h0, hk, hn => by
    have ih := heldIntS_l0 m (p ++ [k]) (k + 1) (by omega) (by omega) (by simp; omega)
    have e1 : (p ++ [k]) ++ marks (k + 1) m = p ++ k :: marks (k + 1) m := by simp
    have e2 : (((p ++ [k]).length : Nat) : Int) = (p.length : Int) + 1 := by simp
    rw [e1, e2] at ih
    have e3 : k + ((m + 1 : Nat) : Int) = k + 1 + (m : Int) := by omega
    rw [e3]
    refine Ev.step (fun n => ?_) ih
    show laws_heldIntS.l0 (n + 1) (p ++ k :: marks (k + 1) m) k (p.length : Int) = _
    rw [laws_heldIntS.l0, if_pos (by simp; omega), if_pos (by omega), rd_mid, if_pos rfl, w64 (by omega) (by omega), w64 (by omega) (by omega)]
theorem ev_heldIntS (k : Int) (m : Nat) (h0 : 0 ≤ k) (hk : k ≤ 4000000000000000000) (hm : m ≤ 35184372088832) : Ev (fun n => laws_heldIntS.f n (marks k m) k) (k + m) :=
  heldIntS_l0 m [] k h0 (by omega) (by simpa using hm)

theorem ev_markWalk (a b : List Int) (ha : a.length ≤ 35184372088832) (hb : b.length ≤ 35184372088832) :
    Ev (fun k => laws_markWalk.f k a b 1) ((1 + (a.length : Int)) + (b.length : Int), marks 1 a.length, marks (1 + (a.length : Int)) b.length) :=
  Ev.congr (fun k => rfl) (Ev.bind (ev_markIntS a 1 (by omega) (by omega) ha) (Ev.bind (ev_markIntS b (1 + (a.length : Int)) (by omega) (by omega) hb) (Ev.now _)))

/-- One step of a walk along a list: what stands behind the place. -/
theorem len_snoc (p : List Int) (h : Int) : (((p ++ [h]).length : Nat) : Int) = (p.length : Int) + 1 := by simp
theorem app_snoc (p : List Int) (h : Int) (t : List Int) : (p ++ [h]) ++ t = p ++ h :: t := by simp
theorem len_mid (p : List Int) (h : Int) (t : List Int) : ((p ++ h :: t).length : Int) = (p.length : Int) + t.length + 1 := by simp; omega

/-- All numbers lie from lo to hi. -/
def inAll (lo hi : Int) (l : List Int) : Bool := l.all fun n => decide (lo ≤ n) && decide (n ≤ hi)
theorem inAll_iff (lo hi : Int) (l : List Int) : inAll lo hi l = true ↔ ∀ x ∈ l, lo ≤ x ∧ x ≤ hi := by
  simp [inAll, List.all_eq_true]
theorem inAll_cons (lo hi x : Int) (l : List Int) : inAll lo hi (x :: l) = ((decide (lo ≤ x) && decide (x ≤ hi)) && inAll lo hi l) := by
  simp [inAll]

/-- Parents lead to the root in so many steps at most. -/
def climb (par : List Int) : Nat → Int → Bool
  | 0, a => decide (a ≤ 0)
  | m + 1, a => if a > 0 then climb par m (rd par (a - 1)) else true
theorem climb_more (par : List Int) : ∀ (m : Nat) (a : Int), climb par m a = true → climb par (m + 1) a = true
  | 0, a, h => by
    simp only [climb, decide_eq_true_eq] at h
    simp only [climb]
    rw [if_neg (by omega)]
  | m + 1, a, h => by
    rw [climb]
    by_cases c : a > 0
    · rw [if_pos c]
      rw [climb, if_pos c] at h
      exact climb_more par m _ h
    · rw [if_neg c]
/-- The node so many steps above. -/
def up (par : List Int) : Nat → Int → Int
  | 0, a => a
  | m + 1, a => up par m (rd par (a - 1))
theorem climb_up (par : List Int) : ∀ (m : Nat) (a : Int), climb par m a = true ↔ ∃ j, j ≤ m ∧ up par j a ≤ 0
  | 0, a => by
    simp only [climb, decide_eq_true_eq]
    constructor
    · exact fun h => ⟨0, Nat.le_refl _, h⟩
    · rintro ⟨j, hj, h⟩
      obtain rfl : j = 0 := by omega
      exact h
  | m + 1, a => by
    rw [climb]
    by_cases c : a > 0
    · rw [if_pos c, climb_up par m]
      constructor
      · rintro ⟨j, hj, h⟩
        exact ⟨j + 1, by omega, h⟩
      · rintro ⟨j, hj, h⟩
        cases j with
        | zero => exact absurd h (by simp only [up]; omega)
        | succ j => exact ⟨j, by omega, h⟩
    · rw [if_neg c]
      exact ⟨fun _ => ⟨0, by omega, by simp only [up]; omega⟩, fun _ => rfl⟩
theorem up_add (par : List Int) : ∀ (i j : Nat) (a : Int), up par (i + j) a = up par j (up par i a)
  | 0, j, a => by rw [Nat.zero_add]; rfl
  | i + 1, j, a => by
    rw [Nat.add_right_comm]
    exact up_add par i j (rd par (a - 1))
/-- Of n + 1 numbers from 1 to n two are alike. -/
theorem two_alike : ∀ (n : Nat) (f : Nat → Int), (∀ i, i ≤ n → 1 ≤ f i ∧ f i ≤ n) → ∃ i j, i < j ∧ j ≤ n ∧ f i = f j
  | 0, f, h => by have := h 0 (by omega); omega
  | n + 1, f, h => by
    by_cases c : ∃ i, i ≤ n ∧ f i = f (n + 1)
    · obtain ⟨i, hi, e⟩ := c
      exact ⟨i, n + 1, by omega, by omega, e⟩
    · -- the last one's value is left out
      let g : Nat → Int := fun i => if f i > f (n + 1) then f i - 1 else f i
      have hg : ∀ i, i ≤ n → 1 ≤ g i ∧ g i ≤ n := by
        intro i hi
        have h1 := h i (by omega)
        have h2 := h (n + 1) (by omega)
        have h3 : f i ≠ f (n + 1) := fun e => c ⟨i, hi, e⟩
        show 1 ≤ (if f i > f (n + 1) then f i - 1 else f i) ∧ (if f i > f (n + 1) then f i - 1 else f i) ≤ n
        split <;> omega
      obtain ⟨i, j, hij, hj, e⟩ := two_alike n g hg
      have h3 : f i ≠ f (n + 1) := fun e => c ⟨i, by omega, e⟩
      have h4 : f j ≠ f (n + 1) := fun e => c ⟨j, by omega, e⟩
      refine ⟨i, j, hij, by omega, ?_⟩
      have e' : (if f i > f (n + 1) then f i - 1 else f i) = (if f j > f (n + 1) then f j - 1 else f j) := e
      split at e' <;> split at e' <;> omega
/-- What is reached in n + 1 steps is reached in n. -/
theorem climb_less (par : List Int) (hp : ∀ x ∈ par, 0 ≤ x ∧ x ≤ par.length) (a : Int) (ha0 : 0 ≤ a) (ha : a ≤ par.length) (h : climb par (par.length + 1) a = true) : climb par par.length a = true := by
  rw [climb_up] at h ⊢
  obtain ⟨j, hj, hu⟩ := h
  by_cases c : ∃ i, i ≤ par.length ∧ up par i a ≤ 0
  · exact c
  · exfalso
    have hpos : ∀ i, i ≤ par.length → 1 ≤ up par i a := fun i hi => by
      have : ¬ up par i a ≤ 0 := fun e => c ⟨i, hi, e⟩
      omega
    have hle : ∀ i, i ≤ par.length → up par i a ≤ par.length := by
      intro i
      induction i with
      | zero => intro _; exact ha
      | succ i ih =>
        intro hi
        have h1 := hpos i (by omega)
        have h2 := ih (by omega)
        rw [up_add par i 1]
        have hr : rd par (up par i a - 1) ∈ par := by
          unfold rd
          rw [List.getD_eq_getElem?_getD, List.getElem?_eq_getElem (by omega)]
          exact List.getElem_mem _
        exact (hp _ hr).2
    obtain ⟨i, k, hik, hk, e⟩ := two_alike par.length (fun i => up par i a) (fun i hi => ⟨hpos i hi, hle i hi⟩)
    have e : up par i a = up par k a := e
    -- j = n + 1: the same place stood earlier
    have hj' : j = par.length + 1 := by
      rcases Nat.lt_or_ge par.length j with h1 | h1
      · omega
      · exact absurd ⟨j, h1, hu⟩ c
    have e2 : up par j a = up par (i + (j - k)) a := by
      rw [show j = k + (j - k) by omega, up_add par k, up_add par i, ← e]
      congr 1
      omega
    have := hpos (i + (j - k)) (by omega)
    omega
/-- A tree: parents lead to the root from each node. -/
def isTr (par : List Int) : Bool := decide (par.length ≤ 8) && inAll 0 par.length par && (List.range par.length).all fun i => climb par par.length ((i : Int) + 1)

theorem nodup_at {l : List Int} (h : l.Nodup) {i j : Nat} (hi : i < j) (hj : j < l.length) : l[i]'(by omega) ≠ l[j] :=
  List.pairwise_iff_getElem.1 h i j (by omega) hj hi
theorem nodup_length (n : Nat) (l : List Int) (h : l.Nodup) (hr : ∀ v ∈ l, 0 ≤ v ∧ v ≤ n) : l.length ≤ n + 1 := by
  refine Classical.byContradiction fun c => ?_
  obtain ⟨i, j, hij, hj, e⟩ := two_alike (n + 1) (fun i => l.getD i 0 + 1) (fun i hi => by
    have hm : l.getD i 0 ∈ l := by
      rw [List.getD_eq_getElem?_getD, List.getElem?_eq_getElem (by omega)]
      exact List.getElem_mem _
    have := hr _ hm
    show 1 ≤ l.getD i 0 + 1 ∧ l.getD i 0 + 1 ≤ ((n + 1 : Nat) : Int)
    omega)
  have e2 : l.getD i 0 + 1 = l.getD j 0 + 1 := e
  rw [List.getD_eq_getElem?_getD, List.getD_eq_getElem?_getD, List.getElem?_eq_getElem (by omega), List.getElem?_eq_getElem (by omega)] at e2
  simp only [Option.getD_some] at e2
  exact nodup_at h hij (by omega) (by omega)

/-- Rising, with equal ones. -/
def Up (l : List Int) : Prop := l.Pairwise (· ≤ ·)
/-- A number put where it belongs. -/
def put (x : Int) : List Int → List Int
  | [] => [x]
  | h :: t => if x ≤ h then x :: h :: t else h :: put x t
/-- A list in order. -/
def srt : List Int → List Int
  | [] => []
  | h :: t => put h (srt t)
theorem put_perm (x : Int) : ∀ l : List Int, (put x l).Perm (x :: l)
  | [] => .refl _
  | h :: t => by
    rw [put]
    split
    · exact .refl _
    · exact ((put_perm x t).cons h).trans (.swap x h t)
theorem put_up (x : Int) : ∀ l : List Int, Up l → Up (put x l)
  | [], _ => by simp [put, Up]
  | h :: t, hl => by
    have h1 := List.pairwise_cons.1 hl
    rw [put]
    split
    · refine List.pairwise_cons.2 ⟨fun y hy => ?_, hl⟩
      rcases List.mem_cons.1 hy with e | e
      · omega
      · have := h1.1 y e; omega
    · refine List.pairwise_cons.2 ⟨fun y hy => ?_, put_up x t h1.2⟩
      rcases List.mem_cons.1 ((put_perm x t).mem_iff.1 hy) with e | e
      · omega
      · exact h1.1 y e
theorem srt_perm : ∀ l : List Int, (srt l).Perm l
  | [] => .refl _
  | h :: t => (put_perm h (srt t)).trans ((srt_perm t).cons h)
theorem srt_up : ∀ l : List Int, Up (srt l)
  | [] => by simp [srt, Up]
  | h :: t => put_up h _ (srt_up t)
theorem up_unique : ∀ (a b : List Int), Up a → Up b → a.Perm b → a = b
  | [], b, _, _, h => by simpa using h.length_eq.symm
  | x :: a, [], _, _, h => by simpa using h.length_eq
  | x :: a, y :: b, ha, hb, h => by
    have h1 := List.pairwise_cons.1 ha
    have h2 := List.pairwise_cons.1 hb
    have e : x = y := by
      have hx : x ∈ y :: b := h.mem_iff.1 (by simp)
      have hy : y ∈ x :: a := h.mem_iff.2 (by simp)
      rcases List.mem_cons.1 hx with e | e
      · exact e
      · rcases List.mem_cons.1 hy with e' | e'
        · exact e'.symm
        · have := h1.1 y e'
          have := h2.1 x e
          omega
    subst e
    rw [up_unique a b h1.2 h2.2 (List.perm_cons x |>.1 h)]

theorem rise_unique : ∀ (a b : List Int), a.Pairwise (· < ·) → b.Pairwise (· < ·) → (∀ x, x ∈ a ↔ x ∈ b) → a = b
  | [], [], _, _, _ => rfl
  | [], y :: b, _, _, h => by have := (h y).2 (by simp); simp at this
  | x :: a, [], _, _, h => by have := (h x).1 (by simp); simp at this
  | x :: a, y :: b, ha, hb, h => by
    have h1 := List.pairwise_cons.1 ha
    have h2 := List.pairwise_cons.1 hb
    have e : x = y := by
      rcases List.mem_cons.1 ((h x).1 (by simp)) with e | e
      · exact e
      · rcases List.mem_cons.1 ((h y).2 (by simp)) with e' | e'
        · exact e'.symm
        · have := h1.1 y e'
          have := h2.1 x e
          omega
    subst e
    rw [rise_unique a b h1.2 h2.2 fun z => ?_]
    constructor
    · intro hz
      rcases List.mem_cons.1 ((h z).1 (by simp [hz])) with e | e
      · have := h1.1 z hz; omega
      · exact e
    · intro hz
      rcases List.mem_cons.1 ((h z).2 (by simp [hz])) with e | e
      · have := h2.1 z hz; omega
      · exact e
theorem srt_rising (l : List Int) (h : l.Nodup) : (srt l).Pairwise (· < ·) := by
  have h1 := srt_up l
  have h2 : (srt l).Nodup := (srt_perm l).nodup_iff.2 h
  refine List.pairwise_iff_getElem.2 fun i j hi hj hij => ?_
  have h3 := List.pairwise_iff_getElem.1 h1 i j hi hj hij
  have h4 := List.pairwise_iff_getElem.1 h2 i j hi hj hij
  omega

/-- Heights that go on behind a last one. -/
def hts (last : Int) : List Int → Bool
  | [] => true
  | h :: t => decide (0 ≤ h) && decide (h ≤ last + 1) && hts h t
theorem hts_mem : ∀ (l : List Int) (last : Int), hts last l = true → ∀ x ∈ l, 0 ≤ x ∧ x ≤ last + l.length
  | [], _, _, x, hx => by cases hx
  | h :: t, last, hh, x, hx => by
    simp only [hts, Bool.and_eq_true, decide_eq_true_eq] at hh
    have e : ((h :: t).length : Int) = (t.length : Int) + 1 := by simp
    rw [e]
    cases hx with
    | head => omega
    | tail _ hx =>
      have := hts_mem t h hh.2 x hx
      omega
theorem rd_prev (q : List Int) (x : Int) (t : List Int) : rd ((q ++ [x]) ++ t) (((q ++ [x]).length : Int) - 1) = x := by
  unfold rd
  have : (((q ++ [x]).length : Int) - 1).toNat = q.length := by simp
  rw [this]
  simp

/-- How many steps lead to the root, of so many at most. -/
def hgt (par : List Int) : Nat → Int → Nat
  | 0, _ => 0
  | m + 1, a => if a > 0 then hgt par m (rd par (a - 1)) + 1 else 0
theorem hgt_more (par : List Int) : ∀ (m : Nat) (a : Int), climb par m a = true → hgt par (m + 1) a = hgt par m a
  | 0, a, h => by
    simp only [climb, decide_eq_true_eq] at h
    simp only [hgt]
    rw [if_neg (by omega)]
  | m + 1, a, h => by
    rw [climb] at h
    show (if a > 0 then hgt par (m + 1) (rd par (a - 1)) + 1 else 0) = (if a > 0 then hgt par m (rd par (a - 1)) + 1 else 0)
    by_cases c : a > 0
    · rw [if_pos c] at h
      rw [if_pos c, if_pos c, hgt_more par m _ h]
    · rw [if_neg c, if_neg c]
/-- The depth of a node. -/
def dep (par : List Int) (a : Int) : Nat := hgt par par.length a
theorem isTr_iff (par : List Int) : isTr par = true ↔ par.length ≤ 8 ∧ (∀ x ∈ par, 0 ≤ x ∧ x ≤ par.length) ∧ ∀ a : Int, 1 ≤ a → a ≤ par.length → climb par par.length a = true := by
  simp only [isTr, Bool.and_eq_true, decide_eq_true_eq, inAll_iff, List.all_eq_true, List.mem_range]
  constructor
  · rintro ⟨⟨h1, h2⟩, h3⟩
    refine ⟨h1, h2, fun a ha hb => ?_⟩
    have := h3 (a - 1).toNat (by omega)
    rwa [show (((a - 1).toNat : Nat) : Int) + 1 = a by omega] at this
  · rintro ⟨h1, h2, h3⟩
    exact ⟨⟨h1, h2⟩, fun i hi => h3 _ (by omega) (by omega)⟩
theorem rd_mem (l : List Int) (i : Int) (h0 : 0 ≤ i) (h1 : i < l.length) : rd l i ∈ l := by
  unfold rd
  rw [List.getD_eq_getElem?_getD, List.getElem?_eq_getElem (by omega)]
  exact List.getElem_mem _
/-- In a tree a node is one deeper than its parent. -/
theorem dep_step (par : List Int) (ht : isTr par = true) (a : Int) (h0 : 1 ≤ a) (h1 : a ≤ par.length) : dep par a = dep par (rd par (a - 1)) + 1 := by
  obtain ⟨_, h2, h3⟩ := (isTr_iff par).1 ht
  have hc := h3 a h0 h1
  unfold dep
  obtain ⟨m, hm⟩ : ∃ m, par.length = m + 1 := ⟨par.length - 1, by omega⟩
  rw [hm] at hc ⊢
  rw [climb, if_pos (by omega)] at hc
  rw [hgt, if_pos (by omega), hgt_more par m _ hc]

/-- So many numbers from one on. -/
def iota : Nat → Int → List Int
  | 0, _ => []
  | n + 1, i => i :: iota n (i + 1)
theorem iota_mem (x : Int) : ∀ (n : Nat) (i : Int), x ∈ iota n i ↔ i ≤ x ∧ x < i + n
  | 0, i => by
    simp only [iota, List.not_mem_nil, false_iff]
    omega
  | n + 1, i => by
    rw [iota, List.mem_cons, iota_mem x n (i + 1)]
    omega
theorem iota_rising : ∀ (n : Nat) (i : Int), (iota n i).Pairwise (· < ·)
  | 0, i => by simp [iota]
  | n + 1, i => List.pairwise_cons.2 ⟨fun x hx => by have := (iota_mem x n (i + 1)).1 hx; omega, iota_rising n (i + 1)⟩
theorem iota_length : ∀ (n : Nat) (i : Int), (iota n i).length = n
  | 0, _ => rfl
  | n + 1, i => by rw [iota, List.length_cons, iota_length n]
theorem rising_nodup {l : List Int} (h : l.Pairwise (· < ·)) : l.Nodup := h.imp fun hab => by omega
/-- Each number stands where it belongs. -/
def isUp : List Int → Int → Bool
  | [], _ => true
  | h :: t, i => decide (h = i) && isUp t (i + 1)
theorem isUp_iff : ∀ (l : List Int) (i : Int), isUp l i = true ↔ l = iota l.length i
  | [], i => by simp [isUp, iota]
  | h :: t, i => by
    rw [isUp, Bool.and_eq_true, decide_eq_true_eq, isUp_iff t (i + 1), List.length_cons, iota]
    constructor
    · rintro ⟨h1, h2⟩
      rw [h1, ← h2]
    · intro e
      injection e with h1 h2
      exact ⟨h1, h2⟩
theorem order_iff (l : List Int) : isUp (srt l) 0 = true ↔ inAll 0 ((l.length : Int) - 1) l = true ∧ l.Nodup := by
  rw [isUp_iff, (srt_perm l).length_eq, inAll_iff]
  constructor
  · intro e
    have hm : ∀ x, x ∈ l ↔ 0 ≤ x ∧ x < 0 + (l.length : Int) := fun x => by
      rw [← iota_mem x l.length 0, ← e]
      exact (srt_perm l).mem_iff.symm
    refine ⟨fun x hx => by have := (hm x).1 hx; omega, ?_⟩
    rw [← (srt_perm l).nodup_iff, e]
    exact rising_nodup (iota_rising _ _)
  · rintro ⟨h1, h2⟩
    refine rise_unique _ _ (srt_rising l h2) (iota_rising _ _) fun x => ?_
    rw [(srt_perm l).mem_iff, iota_mem]
    constructor
    · intro hx
      have := h1 x hx
      omega
    · intro hx
      refine Classical.byContradiction fun hn => ?_
      have hc : (x :: l).Nodup := List.nodup_cons.2 ⟨hn, h2⟩
      have := nodup_length (l.length - 1) (x :: l) hc fun v hv => by
        rcases List.mem_cons.1 hv with e | e
        · omega
        · have := h1 v e; omega
      rw [List.length_cons] at this
      omega
/-- Where a height is one more than the one ahead of it, labels don't fall: so many places from one on. -/
def labsFrom (H L : List Int) : Nat → Nat → Bool
  | 0, _ => true
  | d + 1, i => if rd H i = rd H ((i : Int) - 1) + 1 ∧ rd L ((i : Int) - 1) > rd L i then false else labsFrom H L d (i + 1)
theorem labsFrom_iff (H L : List Int) : ∀ (d i : Nat), labsFrom H L d i = true ↔ ∀ j : Nat, i ≤ j → j < i + d → rd H j = rd H ((j : Int) - 1) + 1 → rd L ((j : Int) - 1) ≤ rd L j
  | 0, i => by
    simp only [labsFrom, true_iff]
    intro j h1 h2
    omega
  | d + 1, i => by
    rw [labsFrom]
    have ih := labsFrom_iff H L d (i + 1)
    by_cases c : rd H i = rd H ((i : Int) - 1) + 1 ∧ rd L ((i : Int) - 1) > rd L i
    · rw [if_pos c]
      constructor
      · intro h; cases h
      · intro h
        have := h i (Nat.le_refl _) (by omega) c.1
        omega
    · rw [if_neg c, ih]
      constructor
      · intro h j h1 h2 h3
        by_cases e : j = i
        · subst e
          refine Classical.byContradiction fun h4 => c ⟨h3, by omega⟩
        · exact h j (by omega) (by omega) h3
      · intro h j h1 h2 h3
        exact h j (by omega) (by omega) h3
/-- The same, and no label stands twice. -/
def bothFrom (H L : List Int) : Nat → Nat → Bool
  | 0, _ => true
  | d + 1, i => if rd L i ∈ L.take i then false else if 0 < i ∧ rd H i = rd H ((i : Int) - 1) + 1 ∧ rd L ((i : Int) - 1) > rd L i then false else bothFrom H L d (i + 1)
theorem bothFrom_iff (H L : List Int) : ∀ (d i : Nat), bothFrom H L d i = true ↔ ∀ j : Nat, i ≤ j → j < i + d → rd L j ∉ L.take j ∧ (0 < j → rd H j = rd H ((j : Int) - 1) + 1 → rd L ((j : Int) - 1) ≤ rd L j)
  | 0, i => by
    simp only [bothFrom, true_iff]
    intro j h1 h2
    omega
  | d + 1, i => by
    rw [bothFrom]
    have ih := bothFrom_iff H L d (i + 1)
    by_cases g : rd L i ∈ L.take i
    · rw [if_pos g]
      constructor
      · intro h; cases h
      · intro h
        exact absurd g (h i (Nat.le_refl _) (by omega)).1
    · rw [if_neg g]
      by_cases c : 0 < i ∧ rd H i = rd H ((i : Int) - 1) + 1 ∧ rd L ((i : Int) - 1) > rd L i
      · rw [if_pos c]
        constructor
        · intro h; cases h
        · intro h
          have := (h i (Nat.le_refl _) (by omega)).2 c.1 c.2.1
          omega
      · rw [if_neg c, ih]
        constructor
        · intro h j h1 h2
          by_cases e : j = i
          · subst e
            exact ⟨g, fun h3 h4 => Classical.byContradiction fun h5 => c ⟨h3, h4, by omega⟩⟩
          · exact h j (by omega) (by omega)
        · intro h j h1 h2
          exact h j (by omega) (by omega)
theorem nodup_take (L : List Int) : L.Nodup ↔ ∀ j : Nat, j < L.length → rd L j ∉ L.take j := by
  constructor
  · intro h j hj hm
    obtain ⟨i, hi, e⟩ := List.mem_iff_getElem.1 hm
    rw [List.getElem_take] at e
    have hij : i < j := by simp at hi; omega
    rw [rd_nat, List.getD_eq_getElem?_getD, List.getElem?_eq_getElem hj] at e
    exact nodup_at h hij hj e
  · intro h
    refine List.pairwise_iff_getElem.2 fun i j hi hj hij e => h j hj ?_
    rw [rd_nat, List.getD_eq_getElem?_getD, List.getElem?_eq_getElem hj]
    refine List.mem_iff_getElem.2 ⟨i, by simp; omega, ?_⟩
    rw [List.getElem_take]
    exact e
theorem both_alike (H L : List Int) : bothFrom H L L.length 0 = (decide L.Nodup && labsFrom H L (L.length - 1) 1) := by
  rw [Bool.eq_iff_iff, Bool.and_eq_true, decide_eq_true_eq, bothFrom_iff, labsFrom_iff, nodup_take]
  constructor
  · intro h
    exact ⟨fun j hj => (h j (by omega) (by omega)).1, fun j h1 h2 => (h j (by omega) (by omega)).2 (by omega)⟩
  · rintro ⟨h1, h2⟩ j _ h3
    exact ⟨h1 j (by omega), fun h4 => h2 j (by omega) (by omega)⟩
/-- A walk: heights, and labels that are an order of as many and rise where heights rise. -/
def goodW (H L : List Int) : Bool := (decide (H.length ≤ 8) && hts (-1) H) && (decide ((L.length : Int) = (H.length : Int)) && (inAll 0 ((H.length : Int) - 1) L && (decide L.Nodup && labsFrom H L (L.length - 1) 1)))
theorem goodW_iff (H L : List Int) : goodW H L = true ↔ (H.length ≤ 8 ∧ hts (-1) H = true) ∧ L.length = H.length ∧ (∀ x ∈ L, 0 ≤ x ∧ x ≤ (H.length : Int) - 1) ∧ L.Nodup ∧ labsFrom H L (L.length - 1) 1 = true := by
  simp only [goodW, Bool.and_eq_true, decide_eq_true_eq, inAll_iff]
  constructor
  · rintro ⟨h1, h2, h3⟩
    exact ⟨h1, by omega, h3⟩
  · rintro ⟨h1, h2, h3⟩
    exact ⟨h1, by omega, h3⟩
theorem hts_rd {H : List Int} (h8 : H.length ≤ 8) (h : hts (-1) H = true) (i : Int) (h0 : 0 ≤ i) (h1 : i < H.length) : 0 ≤ rd H i ∧ rd H i ≤ 8 := by
  have := hts_mem H (-1) h _ (rd_mem H i h0 h1)
  omega

theorem ev_spec_l1In (a b c : Int) : spec_l1In.f a b c = some (decide (b ≤ a) && decide (a ≤ c)) := by
  unfold spec_l1In.f
  by_cases h : a ≥ b
  · rw [if_pos h]; simp [show b ≤ a from h]
  · rw [if_neg h]; simp [show ¬ b ≤ a from h]

theorem spec_waHeights_l0 : ∀ (t p : List Int) (last : Int), -1 ≤ last → last ≤ p.length → p.length + t.length ≤ 8 →
    Ev (fun k => spec_waHeights.l0 k last (p ++ t) ((p ++ t).length : Int) (p.length : Int)) (hts last t)
  | [], p, last, _, _, _ => by
    refine Ev.ret fun k => ?_
    rw [spec_waHeights.l0, if_neg (by simp)]
    rfl
  | h :: t, p, last, h0, h1, hn => by
    have hn' : p.length + t.length + 1 ≤ 8 := by simpa [Nat.add_assoc] using hn
    have e1 : (p ++ [h]) ++ t = p ++ h :: t := by simp
    have e2 : (((p ++ [h]).length : Nat) : Int) = (p.length : Int) + 1 := by simp
    by_cases c : 0 ≤ h ∧ h ≤ last + 1
    · have ih := spec_waHeights_l0 t (p ++ [h]) h (by omega) (by omega) (by simp; omega)
      rw [e1, e2] at ih
      have er : hts last (h :: t) = hts h t := by simp [hts, c]
      rw [er]
      refine Ev.step (fun k => ?_) ih
      show spec_waHeights.l0 (k + 1) last (p ++ h :: t) ((p ++ h :: t).length : Int) (p.length : Int) = _
      rw [spec_waHeights.l0, if_pos (by simp; omega), if_pos (by omega), if_pos (by simp; omega), rd_mid, ev_spec_l1In, w64 (by omega) (by omega), w64 (by omega) (by omega)]
      simp [c]
    · have er : hts last (h :: t) = false := by
        simp only [hts, Bool.and_eq_false_iff, decide_eq_false_iff_not]
        omega
      rw [er]
      refine Ev.ret fun k => ?_
      rw [spec_waHeights.l0, if_pos (by simp; omega), if_pos (by omega), if_pos (by simp; omega), rd_mid, ev_spec_l1In, w64 (by omega) (by omega)]
      have : (decide (0 ≤ h) && decide (h ≤ last + 1)) = false := by
        simp only [Bool.and_eq_false_iff, decide_eq_false_iff_not]
        omega
      rw [this]
      rfl
theorem ev_spec_waHeights (l : List Int) : Ev (fun k => spec_waHeights.f k l) (decide (l.length ≤ 8) && hts (-1) l) := by
  by_cases c : l.length ≤ 8
  · have z := spec_waHeights_l0 l [] (-1) (by omega) (by simp) (by simpa using c)
    rw [decide_eq_true c, Bool.true_and]
    refine Ev.congr (fun k => ?_) z
    show spec_waHeights.f k l = _
    rw [spec_waHeights.f, if_neg (by omega)]
    rfl
  · rw [decide_eq_false c, Bool.false_and]
    refine Ev.congr (fun k => ?_) (Ev.now false)
    show spec_waHeights.f k l = _
    rw [spec_waHeights.f, if_pos (by omega)]

theorem spec_l1All_l0 (lo hi : Int) : ∀ (t p : List Int), p.length + t.length ≤ 35184372088832 →
    Ev (fun k => spec_l1All.l0 k lo hi (p ++ t) ((p ++ t).length : Int) (p.length : Int)) (inAll lo hi t)
  | [], p, _ => by
    refine Ev.ret fun k => ?_
    rw [spec_l1All.l0, if_neg (by simp)]
    rfl
  | h :: t, p, hn => by
    have hn' : p.length + t.length + 1 ≤ 35184372088832 := by simpa [Nat.add_assoc] using hn
    have hm := len_mid p h t
    rw [inAll_cons]
    cases c : decide (lo ≤ h) && decide (h ≤ hi) with
    | true =>
      have ih := spec_l1All_l0 lo hi t (p ++ [h]) (by simp; omega)
      rw [app_snoc, len_snoc] at ih
      rw [Bool.true_and]
      refine Ev.step (fun k => ?_) ih
      show spec_l1All.l0 (k + 1) lo hi (p ++ h :: t) ((p ++ h :: t).length : Int) (p.length : Int) = _
      rw [spec_l1All.l0, if_pos (by omega), if_pos (by omega), if_pos (by omega), rd_mid, ev_spec_l1In, c, Option.bind_some, if_pos rfl, w64 (by omega) (by omega)]
    | false =>
      rw [Bool.false_and]
      refine Ev.ret fun k => ?_
      rw [spec_l1All.l0, if_pos (by omega), if_pos (by omega), if_pos (by omega), rd_mid, ev_spec_l1In, c]
      rfl
theorem ev_spec_l1All (l : List Int) (lo hi : Int) (hl : l.length ≤ 35184372088832) : Ev (fun k => spec_l1All.f k l lo hi) (inAll lo hi l) :=
  spec_l1All_l0 lo hi l [] (by simpa using hl)

theorem spec_l1Has_l0 (x : Int) : ∀ (t p : List Int), p.length + t.length ≤ 35184372088832 →
    Ev (fun k => spec_l1Has.l0 k x (p ++ t) ((p ++ t).length : Int) (p.length : Int)) (decide (x ∈ t))
  | [], p, _ => by
    refine Ev.ret fun k => ?_
    rw [spec_l1Has.l0, if_neg (by simp)]
    simp
  | h :: t, p, hn => by
    have hn' : p.length + t.length + 1 ≤ 35184372088832 := by simpa [Nat.add_assoc] using hn
    have hm := len_mid p h t
    by_cases c : h = x
    · rw [decide_eq_true (by simp [c] : x ∈ h :: t)]
      refine Ev.ret fun k => ?_
      rw [spec_l1Has.l0, if_pos (by omega), if_pos (by omega), if_pos (by omega), rd_mid, if_pos c]
    · have ih := spec_l1Has_l0 x t (p ++ [h]) (by simp; omega)
      rw [app_snoc, len_snoc] at ih
      have e : decide (x ∈ h :: t) = decide (x ∈ t) := decide_eq_decide.2 (by simp [Ne.symm c])
      rw [e]
      refine Ev.step (fun k => ?_) ih
      show spec_l1Has.l0 (k + 1) x (p ++ h :: t) ((p ++ h :: t).length : Int) (p.length : Int) = _
      rw [spec_l1Has.l0, if_pos (by omega), if_pos (by omega), if_pos (by omega), rd_mid, if_neg c, w64 (by omega) (by omega)]
theorem ev_spec_l1Has (l : List Int) (x : Int) (hl : l.length ≤ 35184372088832) : Ev (fun k => spec_l1Has.f k l x) (decide (x ∈ l)) :=
  spec_l1Has_l0 x l [] (by simpa using hl)

theorem spec_waGood_l0 (H L : List Int) (h8 : H.length ≤ 8) (hh : hts (-1) H = true) (hl : L.length = H.length) : ∀ (d i : Nat), i + d = L.length →
    Ev (fun k => spec_waGood.l0 k L (L.length : Int) (i : Int) H L) (bothFrom H L d i)
  | 0, i, hd => by
    refine Ev.ret fun k => ?_
    rw [spec_waGood.l0, if_neg (by omega), bothFrom]
  | d + 1, i, hd => by
    have ih := spec_waGood_l0 H L h8 hh hl d (i + 1) (by omega)
    rw [show ((i + 1 : Nat) : Int) = (i : Int) + 1 by omega] at ih
    rw [bothFrom]
    refine Ev.step (f := fun k => (spec_l1Has.f k (L.take i) (rd L i)).bind fun t135 => if t135 = true then some false else if (i : Int) > 0 then (if (i : Int) < (H.length : Int) then (if 0 ≤ wrap64 ((i : Int) - 1) then (if wrap64 ((i : Int) - 1) < (H.length : Int) then (if rd H i = wrap64 (rd H (wrap64 ((i : Int) - 1)) + 1) then (if wrap64 ((i : Int) - 1) < (L.length : Int) then (if rd L (wrap64 ((i : Int) - 1)) > rd L i then some false else spec_waGood.l0 k L (L.length : Int) (wrap64 ((i : Int) + 1)) H L) else none) else spec_waGood.l0 k L (L.length : Int) (wrap64 ((i : Int) + 1)) H L) else none) else none) else none) else spec_waGood.l0 k L (L.length : Int) (wrap64 ((i : Int) + 1)) H L) (fun k => ?_) (Ev.bind (ev_spec_l1Has (L.take i) (rd L i) (by simp; omega)) ?_)
    · rw [spec_waGood.l0, if_pos (by omega), if_pos (by omega), if_pos (by omega), if_pos (by omega), Int.toNat_natCast]
    · by_cases g : rd L i ∈ L.take i
      · rw [if_pos g]
        exact Ev.congr (fun k => by rw [if_pos (by simpa using g)]) (Ev.now _)
      · rw [if_neg g]
        refine Ev.congr (fun k => by rw [if_neg (by simpa using g), w64 (x := (i : Int) - 1) (by omega) (by omega), w64 (x := (i : Int) + 1) (by omega) (by omega)]) ?_
        by_cases c0 : 0 < i
        · have hr := hts_rd h8 hh ((i : Int) - 1) (by omega) (by omega)
          refine Ev.congr (fun k => by rw [if_pos (by omega), if_pos (by omega), if_pos (by omega), if_pos (by omega), w64 (by omega) (by omega)]) ?_
          by_cases c1 : rd H i = rd H ((i : Int) - 1) + 1
          · by_cases c2 : rd L ((i : Int) - 1) > rd L i
            · rw [if_pos ⟨c0, c1, c2⟩]
              exact Ev.congr (fun k => by rw [if_pos c1, if_pos (by omega), if_pos c2]) (Ev.now _)
            · rw [if_neg (fun h => c2 h.2.2)]
              exact Ev.congr (fun k => by rw [if_pos c1, if_pos (by omega), if_neg c2]) ih
          · rw [if_neg (fun h => c1 h.2.1)]
            exact Ev.congr (fun k => by rw [if_neg c1]) ih
        · rw [if_neg (fun h => c0 h.1)]
          exact Ev.congr (fun k => by rw [if_neg (by omega)]) ih
theorem spec_waGood_no (H L : List Int) : Ev (fun k => spec_waGood.j0 k true H L) false :=
  Ev.ret fun k => by rw [spec_waGood.j0, if_pos rfl]
theorem ev_spec_waGood (H L : List Int) (hL : L.length ≤ 35184372088832) : Ev (fun k => spec_waGood.f k H L) (goodW H L) := by
  refine Ev.bind (ev_spec_waHeights H) ?_
  cases c : decide (H.length ≤ 8) && hts (-1) H with
  | false =>
    rw [show goodW H L = false by rw [goodW, c, Bool.false_and]]
    exact Ev.congr (fun k => by rw [if_neg (by simp)]) (spec_waGood_no H L)
  | true =>
    have cc : H.length ≤ 8 ∧ hts (-1) H = true := by simpa using c
    refine Ev.congr (fun k => by rw [if_pos rfl]) ?_
    by_cases d : (L.length : Int) = (H.length : Int)
    · refine Ev.congr (fun k => by rw [if_pos d, w64 (by omega) (by omega)]) ?_
      refine Ev.bind (ev_spec_l1All L 0 ((H.length : Int) - 1) hL) ?_
      cases e : inAll 0 ((H.length : Int) - 1) L with
      | false =>
        rw [show goodW H L = false by rw [goodW, e, Bool.false_and, Bool.and_false, Bool.and_false]]
        exact Ev.congr (fun k => by rw [Bool.not_false]) (spec_waGood_no H L)
      | true =>
        rw [show goodW H L = bothFrom H L L.length 0 by rw [goodW, c, decide_eq_true d, e, Bool.true_and, Bool.true_and, Bool.true_and, both_alike]]
        refine Ev.step (fun k => by rw [spec_waGood.j0, if_neg (by simp)]) ?_
        exact spec_waGood_l0 H L cc.1 cc.2 (by omega) L.length 0 (by omega)
    · rw [show goodW H L = false by rw [goodW, decide_eq_false d, Bool.false_and, Bool.and_false]]
      exact Ev.congr (fun k => by rw [if_neg d]) (spec_waGood_no H L)

theorem ev_impl_between (a b c : Int) : impl_between.f a b c = some (decide (b ≤ a) && decide (a ≤ c)) := by
  unfold impl_between.f
  by_cases h : a ≥ b
  · rw [if_pos h]; simp [show b ≤ a from h]
  · rw [if_neg h]; simp [show ¬ b ≤ a from h]

theorem ev_impl_isCars (a : Int) : impl_isCars.f a = some (decide (0 ≤ a) && decide (a ≤ 8)) := by
  unfold impl_isCars.f
  rw [ev_impl_between]
  rfl

theorem impl_areHeights_l0 : ∀ (t p : List Int) (last : Int), p.length + t.length ≤ 35184372088832 →
    (p = [] ∧ last = -1 ∨ ∃ q, p = q ++ [last]) → -1 ≤ last → last < p.length →
    Ev (fun k => impl_areHeights.l0 k (p ++ t) (p ++ t) ((p ++ t).length : Int) (p.length : Int)) (hts last t && decide ((p ++ t).length ≤ 8))
  | [], p, last, _, _, _, _ => by
    refine Ev.ret fun k => ?_
    rw [impl_areHeights.l0, if_neg (by simp), ev_impl_isCars]
    simp only [hts, Bool.true_and, Option.bind_some, Option.some.injEq]
    rw [Bool.eq_iff_iff]
    simp only [Bool.and_eq_true, decide_eq_true_eq]
    omega
  | h :: t, p, last, hn, hp, h0, h1 => by
    have hn' : p.length + t.length + 1 ≤ 35184372088832 := by simpa [Nat.add_assoc] using hn
    have e1 : (p ++ [h]) ++ t = p ++ h :: t := by simp
    have e2 : (((p ++ [h]).length : Nat) : Int) = (p.length : Int) + 1 := by simp
    by_cases c : 0 ≤ h ∧ h ≤ last + 1
    · have ih := impl_areHeights_l0 t (p ++ [h]) h (by simp; omega) (.inr ⟨p, rfl⟩) (by omega) (by omega)
      rw [e1, e2] at ih
      have er : hts last (h :: t) = hts h t := by simp [hts, c]
      rw [er]
      refine Ev.step (fun k => ?_) ih
      show impl_areHeights.l0 (k + 1) (p ++ h :: t) (p ++ h :: t) ((p ++ h :: t).length : Int) (p.length : Int) = _
      rw [impl_areHeights.l0, if_pos (by simp; omega), if_pos (by omega), if_pos (by simp; omega), rd_mid, if_neg (by omega)]
      rcases hp with ⟨rfl, rfl⟩ | ⟨q, rfl⟩
      · rw [if_pos (by simp), if_neg (by omega), if_neg (by simp), w64 (by simp) (by simp)]
      · have hl : ((q ++ [last]).length : Int) = (q.length : Int) + 1 := by simp
        have ep : wrap64 (((q ++ [last]).length : Int) - 1) = ((q ++ [last]).length : Int) - 1 := w64 (by omega) (by omega)
        rw [if_neg (by omega), if_pos (by omega), ep, if_pos (by omega), if_pos (by simp; omega), rd_prev, w64 (by omega) (by omega), if_neg (by omega), w64 (by omega) (by omega)]
    · have er : hts last (h :: t) = false := by
        simp only [hts, Bool.and_eq_false_iff, decide_eq_false_iff_not]
        omega
      rw [er, Bool.false_and]
      refine Ev.ret fun k => ?_
      rw [impl_areHeights.l0, if_pos (by simp; omega), if_pos (by omega), if_pos (by simp; omega), rd_mid]
      by_cases c0 : h < 0
      · rw [if_pos c0]
      · rw [if_neg c0]
        rcases hp with ⟨rfl, rfl⟩ | ⟨q, rfl⟩
        · rw [if_pos (by simp), if_pos (by omega)]
        · have hl : ((q ++ [last]).length : Int) = (q.length : Int) + 1 := by simp
          have ep : wrap64 (((q ++ [last]).length : Int) - 1) = ((q ++ [last]).length : Int) - 1 := w64 (by omega) (by omega)
          rw [if_neg (by omega), if_pos (by omega), ep, if_pos (by omega), if_pos (by simp; omega), rd_prev, w64 (by omega) (by omega), if_pos (by omega)]
theorem ev_impl_areHeights (l : List Int) (hl : l.length ≤ 35184372088832) : Ev (fun k => impl_areHeights.f k l) (decide (l.length ≤ 8) && hts (-1) l) := by
  have z := impl_areHeights_l0 l [] (-1) (by simpa using hl) (.inl ⟨rfl, rfl⟩) (by omega) (by simp)
  rw [Bool.and_comm]
  exact z

theorem mergeSort_srt (l : List Int) : (l.mergeSort fun x y => decide (x ≤ y)) = srt l := by
  refine up_unique _ _ ?_ (srt_up l) ((List.mergeSort_perm l _).trans (srt_perm l).symm)
  have h := List.pairwise_mergeSort (le := fun x y : Int => decide (x ≤ y)) (fun a b c h1 h2 => by simp at h1 h2 ⊢; omega) (fun a b => by simp; omega) l
  exact h.imp fun hab => by simpa using hab
theorem ev_impl_sortedL (l : List Int) (hl : l.length ≤ 10000000) : Ev (fun k => impl_sorted.f k l) (srt l) := by
  refine Ev.congr (fun k => ?_) (Ev.now (srt l))
  show impl_sorted.f k l = _
  rw [impl_sorted.f, if_pos hl, slices_Sort_int_int.f, if_pos (by omega), mergeSort_srt]

theorem ev_impl_sorted (l : List Int) (hl : l.length ≤ 12) : Ev (fun k => impl_sorted.f k l) (srt l) := ev_impl_sortedL l (by omega)

theorem impl_isOrder_l0 (l0 : List Int) : ∀ (t p : List Int), p.length + t.length ≤ 35184372088832 →
    Ev (fun k => impl_isOrder.l0 k l0 (p ++ t) ((p ++ t).length : Int) (p.length : Int)) (isUp t p.length && decide ((l0.length : Int) ≤ 8))
  | [], p, _ => by
    refine Ev.ret fun k => ?_
    rw [impl_isOrder.l0, if_neg (by simp), isUp, Bool.true_and]
  | h :: t, p, hn => by
    have hn' : p.length + t.length + 1 ≤ 35184372088832 := by simpa [Nat.add_assoc] using hn
    have hm := len_mid p h t
    rw [isUp]
    by_cases c : h = (p.length : Int)
    · have ih := impl_isOrder_l0 l0 t (p ++ [h]) (by simp; omega)
      rw [app_snoc p h t, len_snoc p h] at ih
      rw [decide_eq_true c, Bool.true_and]
      refine Ev.step (fun k => ?_) ih
      show impl_isOrder.l0 (k + 1) l0 (p ++ h :: t) ((p ++ h :: t).length : Int) (p.length : Int) = _
      rw [impl_isOrder.l0, if_pos (by omega), if_pos (by omega), if_pos (by omega), rd_mid, if_pos c, w64 (by omega) (by omega)]
    · rw [decide_eq_false c, Bool.false_and, Bool.false_and]
      refine Ev.ret fun k => ?_
      rw [impl_isOrder.l0, if_pos (by omega), if_pos (by omega), if_pos (by omega), rd_mid, if_neg c]
theorem ev_impl_isOrder (l : List Int) (hl : l.length ≤ 12) : Ev (fun k => impl_isOrder.f k l) (isUp (srt l) 0 && decide ((l.length : Int) ≤ 8)) := by
  refine Ev.bind (ev_impl_sorted l hl) ?_
  exact impl_isOrder_l0 l (srt l) [] (by have := (srt_perm l).length_eq; simp; omega)

theorem impl_isWalk_l0 (H L : List Int) (h8 : H.length ≤ 8) (hh : hts (-1) H = true) (hl : L.length = H.length) : ∀ (d i : Nat), 1 ≤ i → i + d = max 1 H.length →
    Ev (fun k => impl_isWalk.l0 k (i : Int) H L) (labsFrom H L d i)
  | 0, i, h1, hd => by
    refine Ev.ret fun k => ?_
    rw [impl_isWalk.l0, if_neg (by omega), labsFrom]
  | d + 1, i, h1, hd => by
    have ih := impl_isWalk_l0 H L h8 hh hl d (i + 1) (by omega) (by omega)
    rw [show ((i + 1 : Nat) : Int) = (i : Int) + 1 by omega] at ih
    have hr := hts_rd h8 hh ((i : Int) - 1) (by omega) (by omega)
    rw [labsFrom]
    by_cases c1 : rd H i = rd H ((i : Int) - 1) + 1
    · by_cases c2 : rd L ((i : Int) - 1) > rd L i
      · rw [if_pos ⟨c1, c2⟩]
        refine Ev.ret fun k => ?_
        rw [impl_isWalk.l0, w64 (x := (i : Int) - 1) (by omega) (by omega), w64 (x := rd H ((i : Int) - 1) + 1) (by omega) (by omega), if_pos (by omega), if_pos (by omega), if_pos (by omega), if_pos (by omega), if_pos c1, if_pos (by omega), if_pos (by omega), if_pos c2]
      · rw [if_neg (fun h => c2 h.2)]
        refine Ev.step (fun k => ?_) ih
        show impl_isWalk.l0 (k + 1) (i : Int) H L = _
        rw [impl_isWalk.l0, w64 (x := (i : Int) - 1) (by omega) (by omega), w64 (x := rd H ((i : Int) - 1) + 1) (by omega) (by omega), if_pos (by omega), if_pos (by omega), if_pos (by omega), if_pos (by omega), if_pos c1, if_pos (by omega), if_pos (by omega), if_neg c2, w64 (by omega) (by omega)]
    · rw [if_neg (fun h => c1 h.1)]
      refine Ev.step (fun k => ?_) ih
      show impl_isWalk.l0 (k + 1) (i : Int) H L = _
      rw [impl_isWalk.l0, w64 (x := (i : Int) - 1) (by omega) (by omega), w64 (x := rd H ((i : Int) - 1) + 1) (by omega) (by omega), if_pos (by omega), if_pos (by omega), if_pos (by omega), if_pos (by omega), if_neg c1, w64 (by omega) (by omega)]
theorem impl_isWalk_no (H L : List Int) : Ev (fun k => impl_isWalk.j0 k true H L) false :=
  Ev.ret fun k => by rw [impl_isWalk.j0, if_pos rfl]
theorem ev_impl_isWalk (H L : List Int) (hH : H.length ≤ 35184372088832) : Ev (fun k => impl_isWalk.f k H L) (goodW H L) := by
  refine Ev.bind (ev_impl_areHeights H hH) ?_
  cases c : decide (H.length ≤ 8) && hts (-1) H with
  | false =>
    rw [show goodW H L = false by rw [goodW, c, Bool.false_and]]
    exact Ev.congr (fun k => by rw [if_neg (by simp)]) (impl_isWalk_no H L)
  | true =>
    have cc : H.length ≤ 8 ∧ hts (-1) H = true := by simpa using c
    refine Ev.congr (fun k => by rw [if_pos rfl]) ?_
    by_cases d : (L.length : Int) = (H.length : Int)
    · refine Ev.congr (fun k => by rw [if_pos d]) ?_
      refine Ev.bind (ev_impl_isOrder L (by omega)) ?_
      have e8 : decide ((L.length : Int) ≤ 8) = true := decide_eq_true (by omega)
      rw [e8, Bool.and_true]
      have ho := order_iff L
      cases e : isUp (srt L) 0 with
      | false =>
        have : goodW H L = false := by
          refine Bool.eq_false_iff.2 fun h => ?_
          obtain ⟨_, _, h3, h4, _⟩ := (goodW_iff H L).1 h
          have := ho.2 ⟨(inAll_iff _ _ _).2 fun x hx => by have := h3 x hx; omega, h4⟩
          rw [e] at this
          cases this
        rw [this]
        exact Ev.congr (fun k => by rw [Bool.not_false]) (impl_isWalk_no H L)
      | true =>
        obtain ⟨h1, h2⟩ := ho.1 e
        rw [d] at h1
        rw [show goodW H L = labsFrom H L (L.length - 1) 1 by rw [goodW, c, decide_eq_true d, h1, decide_eq_true h2, Bool.true_and, Bool.true_and, Bool.true_and, Bool.true_and]]
        refine Ev.step (fun k => by rw [impl_isWalk.j0, if_neg (by simp)]) ?_
        exact impl_isWalk_l0 H L cc.1 cc.2 (by omega) (L.length - 1) 1 (by omega) (by omega)
    · rw [show goodW H L = false by rw [goodW, decide_eq_false d, Bool.false_and, Bool.and_false]]
      exact Ev.congr (fun k => by rw [if_neg d]) (impl_isWalk_no H L)

/-- How many numbers are so. -/
def cnt (q : Int → Bool) : List Int → Int
  | [] => 0
  | h :: t => (if q h = true then 1 else 0) + cnt q t
theorem cnt_range (q : Int → Bool) : ∀ l : List Int, 0 ≤ cnt q l ∧ cnt q l ≤ l.length
  | [] => by simp [cnt]
  | h :: t => by
    have := cnt_range q t
    have e : ((h :: t).length : Int) = (t.length : Int) + 1 := by simp
    simp only [cnt]
    rw [e]
    split <;> omega
theorem cnt_append (q : Int → Bool) : ∀ a b : List Int, cnt q (a ++ b) = cnt q a + cnt q b
  | [], b => by simp [cnt]
  | h :: t, b => by simp only [List.cons_append, cnt, cnt_append q t b]; omega

/-- The places of the numbers that are so. -/
def places (q : Int → Bool) : List Int → Int → List Int
  | [], _ => []
  | h :: t, i => if q h = true then i :: places q t (i + 1) else places q t (i + 1)
theorem places_length (q : Int → Bool) : ∀ (l : List Int) (i : Int), ((places q l i).length : Int) = cnt q l
  | [], i => by simp [places, cnt]
  | h :: t, i => by
    rw [places, cnt]
    have := places_length q t (i + 1)
    split
    · simp; omega
    · omega
theorem places_mem (q : Int → Bool) (x : Int) : ∀ (l : List Int) (i : Int), x ∈ places q l i ↔ ∃ j : Nat, ∃ v, l[j]? = some v ∧ q v = true ∧ x = i + j
  | [], i => by simp [places]
  | h :: t, i => by
    rw [places]
    have ih := places_mem q x t (i + 1)
    constructor
    · intro hx
      have : x = i ∧ q h = true ∨ x ∈ places q t (i + 1) := by
        split at hx
        · rename_i c
          rcases List.mem_cons.1 hx with h1 | h1
          · exact .inl ⟨h1, c⟩
          · exact .inr h1
        · exact .inr hx
      rcases this with ⟨h1, h2⟩ | h1
      · exact ⟨0, h, by simp, h2, by omega⟩
      · obtain ⟨j, v, h2, h3, h4⟩ := ih.1 h1
        exact ⟨j + 1, v, by simpa using h2, h3, by omega⟩
    · rintro ⟨j, v, h2, h3, h4⟩
      cases j with
      | zero =>
        have e : h = v := by simpa using h2
        rw [e, if_pos h3]
        exact List.mem_cons.2 (.inl (by omega))
      | succ j =>
        have h1 : x ∈ places q t (i + 1) := ih.2 ⟨j, v, by simpa using h2, h3, by omega⟩
        split
        · exact List.mem_cons_of_mem _ h1
        · exact h1
theorem places_rising (q : Int → Bool) : ∀ (l : List Int) (i : Int), (places q l i).Pairwise (· < ·)
  | [], i => by simp [places]
  | h :: t, i => by
    rw [places]
    split
    · rw [List.pairwise_cons]
      refine ⟨fun x hx => ?_, places_rising q t (i + 1)⟩
      obtain ⟨j, v, _, _, e⟩ := (places_mem q x t (i + 1)).1 hx
      omega
    · exact places_rising q t (i + 1)

theorem impl_indices_l0 (q : Int → Bool) : ∀ (t p out : List Int), p.length + t.length ≤ 1000000 → out.length ≤ p.length →
    Ev (fun k => impl_indices.l0 q k out (p ++ t) ((p ++ t).length : Int) (p.length : Int)) (out ++ places q t p.length)
  | [], p, out, _, _ => by
    refine Ev.ret fun k => ?_
    rw [impl_indices.l0, if_neg (by simp)]
    simp [places]
  | h :: t, p, out, hn, ho => by
    have hn' : p.length + t.length + 1 ≤ 1000000 := by simpa [Nat.add_assoc] using hn
    have hm := len_mid p h t
    cases c : q h with
    | true =>
      have ih := impl_indices_l0 q t (p ++ [h]) (out ++ [(p.length : Int)]) (by simp; omega) (by simp; omega)
      rw [app_snoc, len_snoc] at ih
      have e : out ++ places q (h :: t) p.length = out ++ [(p.length : Int)] ++ places q t (p.length + 1) := by rw [places, if_pos c]; simp
      rw [e]
      refine Ev.step (fun k => ?_) ih
      show impl_indices.l0 q (k + 1) out (p ++ h :: t) ((p ++ h :: t).length : Int) (p.length : Int) = _
      rw [impl_indices.l0, if_pos (by omega), if_pos (by omega), if_pos (by omega), rd_mid, c, Option.bind_some, if_pos rfl, if_pos (by omega), w64 (by omega) (by omega)]
    | false =>
      have ih := impl_indices_l0 q t (p ++ [h]) out (by simp; omega) (by simp; omega)
      rw [app_snoc, len_snoc] at ih
      have e : out ++ places q (h :: t) p.length = out ++ places q t (p.length + 1) := by rw [places, if_neg (by simp [c])]
      rw [e]
      refine Ev.step (fun k => ?_) ih
      show impl_indices.l0 q (k + 1) out (p ++ h :: t) ((p ++ h :: t).length : Int) (p.length : Int) = _
      rw [impl_indices.l0, if_pos (by omega), if_pos (by omega), if_pos (by omega), rd_mid, c, Option.bind_some, if_neg (by simp), w64 (by omega) (by omega)]
theorem ev_impl_indices (q : Int → Bool) (l : List Int) (hl : l.length ≤ 1000000) : Ev (fun k => impl_indices.f q k l) (places q l 0) := by
  have := impl_indices_l0 q l [] [] (by simpa using hl) (by simp)
  exact this

/-- Where a walk touches the line behind its start. -/
def touchS (H : List Int) : List Int := (places (fun n => decide (n = 0)) H 0).drop 1
theorem ev_impl_TouchesOf (H L : List Int) (hH : H.length ≤ 1000000) : Ev (fun k => impl_TouchesOf.f k H L) (if goodW H L = true then (touchS H, true) else ([], false)) := by
  refine Ev.bind (ev_impl_isWalk H L (by omega)) ?_
  cases c : goodW H L with
  | false => rw [if_neg (by simp)]; exact Ev.now _
  | true =>
    rw [if_pos rfl]
    refine Ev.congr (fun k => by rw [if_pos rfl]) ?_
    have hi : Ev (fun k => impl_TouchesOf_1.f k H) (places (fun n => decide (n = 0)) H 0) := ev_impl_indices _ H hH
    refine Ev.bind hi ?_
    unfold touchS
    generalize places (fun n => decide (n = 0)) H 0 = z
    cases z with
    | nil => exact Ev.congr (fun k => by rw [show mn (([] : List Int).length : Int) 1 = 0 from rfl, if_pos (by omega), if_pos (by simp)]; rfl) (Ev.now _)
    | cons a t =>
      have e : mn ((a :: t).length : Int) 1 = 1 := by unfold mn; rw [List.length_cons]; split <;> omega
      exact Ev.congr (fun k => by rw [e, if_pos (by omega), if_pos (by rw [List.length_cons]; omega)]; rfl) (Ev.now _)

theorem spec_TouchesOf_l0 : ∀ (t p out : List Int), p.length + t.length ≤ 1000000 → 1 ≤ p.length → out.length ≤ p.length →
    Ev (fun k => spec_TouchesOf.l0 k out (p ++ t) ((p ++ t).length : Int) (p.length : Int)) (out ++ places (fun n => decide (n = 0)) t p.length, true)
  | [], p, out, _, _, _ => by
    refine Ev.ret fun k => ?_
    rw [spec_TouchesOf.l0, if_neg (by simp)]
    simp [places]
  | h :: t, p, out, hn, h1, ho => by
    have hn' : p.length + t.length + 1 ≤ 1000000 := by simpa [Nat.add_assoc] using hn
    have hm := len_mid p h t
    by_cases c : h = 0
    · have ih := spec_TouchesOf_l0 t (p ++ [h]) (out ++ [(p.length : Int)]) (by simp; omega) (by simp) (by simp; omega)
      rw [app_snoc, len_snoc] at ih
      have e : out ++ places (fun n => decide (n = 0)) (h :: t) p.length = out ++ [(p.length : Int)] ++ places (fun n => decide (n = 0)) t (p.length + 1) := by rw [places, if_pos (by simpa using c)]; simp
      rw [e]
      refine Ev.step (fun k => ?_) ih
      show spec_TouchesOf.l0 (k + 1) out (p ++ h :: t) ((p ++ h :: t).length : Int) (p.length : Int) = _
      rw [spec_TouchesOf.l0, if_pos (by omega), if_pos (by omega), if_pos (by omega), if_pos (by omega), rd_mid, if_pos c, if_pos (by omega), w64 (by omega) (by omega)]
    · have ih := spec_TouchesOf_l0 t (p ++ [h]) out (by simp; omega) (by simp) (by simp; omega)
      rw [app_snoc, len_snoc] at ih
      have e : out ++ places (fun n => decide (n = 0)) (h :: t) p.length = out ++ places (fun n => decide (n = 0)) t (p.length + 1) := by rw [places, if_neg (by simpa using c)]
      rw [e]
      refine Ev.step (fun k => ?_) ih
      show spec_TouchesOf.l0 (k + 1) out (p ++ h :: t) ((p ++ h :: t).length : Int) (p.length : Int) = _
      rw [spec_TouchesOf.l0, if_pos (by omega), if_pos (by omega), if_pos (by omega), if_pos (by omega), rd_mid, if_neg c, w64 (by omega) (by omega)]
theorem ev_spec_TouchesOf (H L : List Int) (hL : L.length ≤ 35184372088832) : Ev (fun k => spec_TouchesOf.f k H L) (if goodW H L = true then (touchS H, true) else ([], false)) := by
  refine Ev.bind (ev_spec_waGood H L hL) ?_
  cases c : goodW H L with
  | false => rw [if_neg (by simp)]; exact Ev.now _
  | true =>
    obtain ⟨⟨h8, hh⟩, _⟩ := (goodW_iff H L).1 c
    rw [if_pos rfl]
    refine Ev.congr (fun k => by rw [if_pos rfl]) ?_
    unfold touchS
    cases H with
    | nil =>
      refine Ev.ret fun k => ?_
      rw [spec_TouchesOf.l0, if_neg (by simp)]
      simp [places]
    | cons h t =>
      simp only [hts, Bool.and_eq_true, decide_eq_true_eq] at hh
      have h0 : h = 0 := by omega
      rw [List.length_cons] at h8
      have z := spec_TouchesOf_l0 t [h] [] (by simp; omega) (by simp) (by simp)
      have e : (places (fun n => decide (n = 0)) (h :: t) 0).drop 1 = places (fun n => decide (n = 0)) t 1 := by rw [places, if_pos (by simpa using h0)]; rfl
      rw [e]
      refine Ev.step (fun k => ?_) z
      show spec_TouchesOf.l0 (k + 1) [] (h :: t) ((h :: t).length : Int) 0 = _
      rw [spec_TouchesOf.l0, if_pos (by rw [List.length_cons]; omega), if_pos (by omega), if_pos (by rw [List.length_cons]; omega), if_neg (by omega), w64 (by omega) (by omega)]
      rfl
theorem touchS_length (H : List Int) : (touchS H).length ≤ H.length := by
  unfold touchS
  rw [List.length_drop]
  have h1 := places_length (fun n => decide (n = 0)) H 0
  have h2 := cnt_range (fun n => decide (n = 0)) H
  omega
theorem FnExactTouchesOf : ∀ (l m : List Int), l.length ≤ maxLen → (∀ x ∈ l, (Lit.int .i64 x).wf = true) → m.length ≤ maxLen → (∀ x ∈ m, (Lit.int .i64 x).wf = true) → ∃ k, laws_FnExactTouchesOf.f k l m = some true := by
  intro l m hl0 _ hm0 _
  obtain ⟨z, hz, hz2⟩ := ev_szWalk l m hl0 hm0
  by_cases c0 : z < 0
  · exact ⟨0, by rw [laws_FnExactTouchesOf.f, if_pos ⟨z, hz, .inl c0⟩]⟩
  have hsum := hz2 (by omega)
  have hl : l.length ≤ 35184372088832 := by omega
  have hm : m.length ≤ 35184372088832 := by omega
  obtain ⟨⟨s, b⟩, hr⟩ : ∃ r, r = (if goodW l m = true then (touchS l, true) else (([] : List Int), false)) := ⟨_, rfl⟩
  have hs : s.length ≤ 35184372088832 := by
    have e : s = (if goodW l m = true then (touchS l, true) else (([] : List Int), false)).1 := by rw [← hr]
    rw [e]
    split
    · have := touchS_length l
      show (touchS l).length ≤ _
      omega
    · simp
  by_cases hbig : l.length ≤ 1000000
  · obtain ⟨k1, e1⟩ := ev_spec_TouchesOf l m hm
    obtain ⟨k2, e2⟩ := ev_impl_TouchesOf l m hbig
    rw [← hr] at e1 e2
    obtain ⟨k3, e3⟩ := ev_toWalk l m hl hm
    obtain ⟨k4, e4⟩ := ev_eqWalk l m hl hm
    obtain ⟨k5, e5⟩ := ev_eqIntS s hs
    obtain ⟨k6, e6⟩ := ev_markWalk l m hl hm
    obtain ⟨k7, e7⟩ := ev_markIntS s 1 (by omega) (by omega) hs
    obtain ⟨k8, e8⟩ := ev_heldIntS 1 s.length (by omega) (by omega) hs
    refine ⟨k1 + k2 + k3 + k4 + k5 + k6 + k7 + k8, ?_⟩
    rw [laws_FnExactTouchesOf.f, if_pos]
    exact ⟨z, hz, .inr ⟨s, b, _, _, _, _, _, e1 _ (by omega), e2 _ (by omega), e3 _ (by omega), e4 _ (by omega), e5 _ (by omega), e6 _ (by omega), by omega, e7 _ (by omega), e8 _ (by omega), by omega, marks_length _ _⟩⟩
  · -- so long a list makes no walk
    have c : goodW l m = false := by
      cases c : goodW l m with
      | false => rfl
      | true =>
        obtain ⟨⟨h8, _⟩, _⟩ := (goodW_iff l m).1 c
        omega
    rw [c, if_neg (by simp)] at hr
    obtain ⟨rfl, rfl⟩ := Prod.mk.inj hr
    obtain ⟨k1, e1⟩ : Ev (fun k => spec_TouchesOf.f k l m) ([], false) := by
      refine Ev.bind (ev_spec_waGood l m hm) ?_
      rw [c]; exact Ev.now _
    obtain ⟨k2, e2⟩ : Ev (fun k => impl_TouchesOf.f k l m) ([], false) := by
      refine Ev.bind (ev_impl_isWalk l m hl) ?_
      rw [c]; exact Ev.now _
    obtain ⟨k3, e3⟩ := ev_toWalk l m hl hm
    obtain ⟨k4, e4⟩ := ev_eqWalk l m hl hm
    obtain ⟨k5, e5⟩ := ev_eqIntS ([] : List Int) hs
    obtain ⟨k6, e6⟩ := ev_markWalk l m hl hm
    obtain ⟨k7, e7⟩ := ev_markIntS ([] : List Int) 1 (by omega) (by omega) hs
    obtain ⟨k8, e8⟩ := ev_heldIntS 1 ([] : List Int).length (by omega) (by omega) hs
    refine ⟨k1 + k2 + k3 + k4 + k5 + k6 + k7 + k8, ?_⟩
    rw [laws_FnExactTouchesOf.f, if_pos]
    exact ⟨z, hz, .inr ⟨[], false, _, _, _, _, _, e1 _ (by omega), e2 _ (by omega), e3 _ (by omega), e4 _ (by omega), e5 _ (by omega), e6 _ (by omega), by omega, e7 _ (by omega), e8 _ (by omega), by simp, marks_length _ _⟩⟩

end Go.Proofs.Ytmollfkakalagaa.Pure
