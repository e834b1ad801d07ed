/- A tree and its word undo each other, and each node stands in the word once less than it has neighbours, for every drawn tree and word. -/
import Derived.Test.YtmollfkakalagaaVFnTreesAreWordsSized
import Derived.Test.YtmollfkakalagaaPFnTreesAreWordsx
import Derived.Laws.BitsLemmas
import Derived.Lib.EndianBits
namespace Go.Proofs.Ytmollfkakalagaa.PrintWords
set_option linter.defProp false in
def sized_ints := @Go.Proofs.YtmollfkakalagaaW.PrintWords.sized_ints
end Go.Proofs.Ytmollfkakalagaa.PrintWords
namespace Go.Proofs.Ytmollfkakalagaa.Pure
open Go.RowKit Go.Proofs.Ytmollfkakalagaa.PFnTreesAreWords Go.Proofs.YtmollfkakalagaaW.PrintWords Go.Proofs.YtmollfkakalagaaW.PrintLast
set_option linter.unusedVariables false
set_option linter.unusedSimpArgs false

theorem w64 {x : Int} (h0 : -9223372036854775808 ≤ x) (h1 : x ≤ 9223372036854775807) : wrap64 x = x := by
 unfold wrap64
 omega
theorem rd_mid (p : List Int) (h : Int) (t : List Int) : rd (p ++ h :: t) (p.length : Int) = h := by
 unfold rd
 simp
theorem rd_nat (l : List Int) (i : Nat) : rd l (i : Int) = l.getD i 0 := by
 unfold rd
 simp
theorem Ev.ret {α : Type} {g : Nat → Option α} {r : α} (h : ∀ k, g (k + 1) = some r) : Ev g r :=
 Ev.step (f := fun _ => some r) h (Ev.now r)

theorem zq0 (p : List Int) (h : Int) : (((p ++ [h]).length : Nat) : Int) = (p.length : Int) + 1 := by simp
theorem zq1 (p : List Int) (h : Int) (t : List Int) : (p ++ [h]) ++ t = p ++ h :: t := by simp
theorem len_mid (p : List Int) (h : Int) (t : List Int) : ((p ++ h :: t).length : Int) = (p.length : Int) + t.length + 1 := by simp; omega

def inAll (lo hi : Int) (l : List Int) : Bool := l.all fun n => decide (lo ≤ n) && decide (n ≤ hi)
theorem zq2 (lo hi : Int) (l : List Int) : inAll lo hi l = true ↔ ∀ x ∈ l, lo ≤ x ∧ x ≤ hi := by
 simp [inAll, List.all_eq_true]
theorem zq3 (lo hi x : Int) (l : List Int) : inAll lo hi (x :: l) = ((decide (lo ≤ x) && decide (x ≤ hi)) && inAll lo hi l) := by
 simp [inAll]

def climb (par : List Int) : Nat → Int → Bool
 | 0, a => decide (a ≤ 0)
 | m + 1, a => if a > 0 then climb par m (rd par (a - 1)) else true
theorem zq4 (par : List Int) : ∀ (m : Nat) (a : Int), climb par m a = true → climb par (m + 1) a = true
 | 0, a, h => by
  simp only [climb, decide_eq_true_eq] at h
  simp only [climb]
  rw [if_neg (by omega)]
 | m + 1, a, h => by
  rw [climb]
  by_cases c : a > 0
  ·rw [if_pos c]
   rw [climb, if_pos c] at h
   exact zq4 par m _ h
  ·rw [if_neg c]
def up (par : List Int) : Nat → Int → Int
 | 0, a => a
 | m + 1, a => up par m (rd par (a - 1))
theorem zq5 (par : List Int) : ∀ (m : Nat) (a : Int), climb par m a = true ↔ ∃ j, j ≤ m ∧ up par j a ≤ 0
 | 0, a => by
  simp only [climb, decide_eq_true_eq]
  constructor
  ·exact fun h => ⟨0, Nat.le_refl _, h⟩
  ·rintro ⟨j, hj, h⟩
   obtain rfl : j = 0 := by omega
   exact h
 | m + 1, a => by
  rw [climb]
  by_cases c : a > 0
  ·rw [if_pos c, zq5 par m]
   constructor
   ·rintro ⟨j, hj, h⟩
    exact ⟨j + 1, by omega, h⟩
   ·rintro ⟨j, hj, h⟩
    cases j with
    | zero => exact absurd h (by simp only [up]; omega)
    | succ j => exact ⟨j, by omega, h⟩
  ·rw [if_neg c]
   exact ⟨fun _ => ⟨0, by omega, by simp only [up]; omega⟩, fun _ => rfl⟩
theorem up_add (par : List Int) : ∀ (i j : Nat) (a : Int), up par (i + j) a = up par j (up par i a)
 | 0, j, a => by rw [Nat.zero_add]; rfl
 | i + 1, j, a => by
  rw [Nat.add_right_comm]
  exact up_add par i j (rd par (a - 1))
theorem zq6 : ∀ (n : Nat) (f : Nat → Int), (∀ i, i ≤ n → 1 ≤ f i ∧ f i ≤ n) → ∃ i j, i < j ∧ j ≤ n ∧ f i = f j
 | 0, f, h => by have := h 0 (by omega); omega
 | n + 1, f, h => by
  by_cases c : ∃ i, i ≤ n ∧ f i = f (n + 1)
  ·obtain ⟨i, hi, e⟩ := c
   exact ⟨i, n + 1, by omega, by omega, e⟩
  ·
   let g : Nat → Int := fun i => if f i > f (n + 1) then f i - 1 else f i
   have hg : ∀ i, i ≤ n → 1 ≤ g i ∧ g i ≤ n := by
    intro i hi
    have h1 := h i (by omega)
    have h2 := h (n + 1) (by omega)
    have h3 : f i ≠ f (n + 1) := fun e => c ⟨i, hi, e⟩
    show 1 ≤ (if f i > f (n + 1) then f i - 1 else f i) ∧ (if f i > f (n + 1) then f i - 1 else f i) ≤ n
    split <;> omega
   obtain ⟨i, j, hij, hj, e⟩ := zq6 n g hg
   have h3 : f i ≠ f (n + 1) := fun e => c ⟨i, by omega, e⟩
   have h4 : f j ≠ f (n + 1) := fun e => c ⟨j, by omega, e⟩
   refine ⟨i, j, hij, by omega, ?_⟩
   have e' : (if f i > f (n + 1) then f i - 1 else f i) = (if f j > f (n + 1) then f j - 1 else f j) := e
   split at e' <;> split at e' <;> omega
theorem zq7 (par : List Int) (hp : ∀ x ∈ par, 0 ≤ x ∧ x ≤ par.length) (a : Int) (ha0 : 0 ≤ a) (ha : a ≤ par.length) (h : climb par (par.length + 1) a = true) : climb par par.length a = true := by
 rw [zq5] at h ⊢
 obtain ⟨j, hj, hu⟩ := h
 by_cases c : ∃ i, i ≤ par.length ∧ up par i a ≤ 0
 ·exact c
 ·exfalso
  have hpos : ∀ i, i ≤ par.length → 1 ≤ up par i a := fun i hi => by
   have : ¬ up par i a ≤ 0 := fun e => c ⟨i, hi, e⟩
   omega
  have hle : ∀ i, i ≤ par.length → up par i a ≤ par.length := by
   intro i
   induction i with
   | zero => intro _; exact ha
   | succ i ih =>
    intro hi
    have h1 := hpos i (by omega)
    have h2 := ih (by omega)
    rw [up_add par i 1]
    have hr : rd par (up par i a - 1) ∈ par := by
     unfold rd
     rw [List.getD_eq_getElem?_getD, List.getElem?_eq_getElem (by omega)]
     exact List.getElem_mem _
    exact (hp _ hr).2
  obtain ⟨i, k, hik, hk, e⟩ := zq6 par.length (fun i => up par i a) (fun i hi => ⟨hpos i hi, hle i hi⟩)
  have e : up par i a = up par k a := e
  -- j = n + 1: the same place stood earlier
  have hj' : j = par.length + 1 := by
   rcases Nat.lt_or_ge par.length j with h1 | h1
   ·omega
   ·exact absurd ⟨j, h1, hu⟩ c
  have e2 : up par j a = up par (i + (j - k)) a := by
   rw [show j = k + (j - k) by omega, up_add par k, up_add par i, ← e]
   congr 1
   omega
  have := hpos (i + (j - k)) (by omega)
  omega
def isTr (par : List Int) : Bool := decide (par.length ≤ 8) && inAll 0 par.length par && (List.range par.length).all fun i => climb par par.length ((i : Int) + 1)

theorem zq8 {l : List Int} (h : l.Nodup) {i j : Nat} (hi : i < j) (hj : j < l.length) : l[i]'(by omega) ≠ l[j] :=
 List.pairwise_iff_getElem.1 h i j (by omega) hj hi
theorem zq9 (n : Nat) (l : List Int) (h : l.Nodup) (hr : ∀ v ∈ l, 0 ≤ v ∧ v ≤ n) : l.length ≤ n + 1 := by
 refine Classical.byContradiction fun c => ?_
 obtain ⟨i, j, hij, hj, e⟩ := zq6 (n + 1) (fun i => l.getD i 0 + 1) (fun i hi => by
  have hm : l.getD i 0 ∈ l := by
   rw [List.getD_eq_getElem?_getD, List.getElem?_eq_getElem (by omega)]
   exact List.getElem_mem _
  have := hr _ hm
  show 1 ≤ l.getD i 0 + 1 ∧ l.getD i 0 + 1 ≤ ((n + 1 : Nat) : Int)
  omega)
 have e2 : l.getD i 0 + 1 = l.getD j 0 + 1 := e
 rw [List.getD_eq_getElem?_getD, List.getD_eq_getElem?_getD, List.getElem?_eq_getElem (by omega), List.getElem?_eq_getElem (by omega)] at e2
 simp only [Option.getD_some] at e2
 exact zq8 h hij (by omega) (by omega)

theorem rd_set (l : List Int) (i j : Nat) (x : Int) (hi : i < l.length) : rd (l.set i x) (j : Int) = if j = i then x else rd l (j : Int) := by
 rw [rd_nat, rd_nat, List.getD_eq_getElem?_getD, List.getD_eq_getElem?_getD]
 by_cases c : j = i
 ·rw [if_pos c, c, List.getElem?_set_self hi]; rfl
 ·rw [if_neg c, List.getElem?_set_ne (fun e => c e.symm)]

theorem all_in : ∀ (n : Nat) (g : List Int), (∀ v : Int, 1 ≤ v → v ≤ n → v ∈ g) → n ≤ g.length
 | 0, g, _ => Nat.zero_le _
 | n + 1, g, h => by
  have hm : ((n + 1 : Nat) : Int) ∈ g := h _ (by omega) (by omega)
  have ih := all_in n (g.erase ((n + 1 : Nat) : Int)) fun v h1 h2 => (List.mem_erase_of_ne (by omega)).2 (h v h1 (by omega))
  rw [List.length_erase_of_mem hm] at ih
  have := List.length_pos_of_mem hm
  omega

def pk (gone rest : List Int) : Nat → Int
 | 0 => 0
 | d + 1 => if ((d : Int) + 1) ∉ gone ∧ ((d : Int) + 1) ∉ rest then (d : Int) + 1 else pk gone rest d
theorem pk_spec (gone rest : List Int) (u : Int) (hu : u ∉ gone ∧ u ∉ rest) (h1 : 1 ≤ u) : ∀ d : Nat, u ≤ d → (pk gone rest d ∉ gone ∧ pk gone rest d ∉ rest) ∧ 1 ≤ pk gone rest d ∧ pk gone rest d ≤ d
 | 0, h => by omega
 | d + 1, h => by
  rw [pk]
  by_cases c : ((d : Int) + 1) ∉ gone ∧ ((d : Int) + 1) ∉ rest
  ·rw [if_pos c]
   exact ⟨c, by omega, by omega⟩
  ·rw [if_neg c]
   have hd : u ≤ d := by
    refine Classical.byContradiction fun h2 => ?_
    have : u = (d : Int) + 1 := by omega
    rw [this] at hu
    exact absurd hu c
   obtain ⟨h3, h4, h5⟩ := pk_spec gone rest u hu h1 d hd
   exact ⟨h3, h4, by omega⟩
theorem zq10 (gone gone' rest rest' : List Int) (h : ∀ v : Int, 1 ≤ v → (v ∉ gone ∧ v ∉ rest ↔ v ∉ gone' ∧ v ∉ rest')) : ∀ d : Nat, pk gone rest d = pk gone' rest' d
 | 0 => rfl
 | d + 1 => by
  rw [pk, pk, zq10 gone gone' rest rest' h d]
  by_cases c : ((d : Int) + 1) ∉ gone ∧ ((d : Int) + 1) ∉ rest
  ·rw [if_pos c, if_pos ((h _ (by omega)).1 c)]
  ·rw [if_neg c, if_neg (fun h2 => c ((h _ (by omega)).2 h2))]
def gseq (n : Nat) : List Int → List Int → List Int
 | [], gone => gone
 | x :: t, gone => gseq n t (gone ++ [pk gone (x :: t) n])
def outS (n : Nat) : List Int → List Int → List Int → List Int
 | [], _, out => out
 | x :: t, gone, out => outS n t (gone ++ [pk gone (x :: t) n]) (out.set (pk gone (x :: t) n - 1).toNat x)
structure Sq (n : Nat) (whole gone : List Int) : Prop where
 nd : gone.Nodup
 range : ∀ v ∈ gone, 1 ≤ v ∧ v ≤ n
 le : gone.length ≤ n
 free : ∀ j : Nat, j < gone.length → rd gone (j : Int) ∉ whole.drop j
theorem zq11 (l : List Int) (x : Int) (j : Nat) (h : j < l.length) : rd (l ++ [x]) (j : Int) = rd l (j : Int) := by
 rw [rd_nat, rd_nat, List.getD_eq_getElem?_getD, List.getD_eq_getElem?_getD, List.getElem?_append_left h]
theorem zq12 (l : List Int) (x : Int) : rd (l ++ [x]) (l.length : Int) = x := by
 rw [rd_nat, List.getD_eq_getElem?_getD, List.getElem?_append_right (Nat.le_refl _)]
 simp
theorem rd_in (l : List Int) (j : Nat) (h : j < l.length) : rd l (j : Int) ∈ l := by
 rw [rd_nat, List.getD_eq_getElem?_getD, List.getElem?_eq_getElem h]
 exact List.getElem_mem h
theorem in_rd (l : List Int) (v : Int) (h : v ∈ l) : ∃ j : Nat, j < l.length ∧ rd l (j : Int) = v := by
 obtain ⟨j, hj, e⟩ := List.mem_iff_getElem.1 h
 refine ⟨j, hj, ?_⟩
 rw [rd_nat, List.getD_eq_getElem?_getD, List.getElem?_eq_getElem hj, e]
 rfl
theorem zq13 (n : Nat) (l : List Int) (h : l.length < n) : ∃ u : Int, 1 ≤ u ∧ u ≤ n ∧ u ∉ l := by
 refine Classical.byContradiction fun hn => ?_
 have := all_in n l fun v h0 h1 => Classical.byContradiction fun h2 => hn ⟨v, h0, h1, h2⟩
 omega
theorem free_pk (n : Nat) (gone t : List Int) (h : gone.length + t.length < n) : ∃ u : Int, 1 ≤ u ∧ u ≤ n ∧ u ∉ gone ∧ u ∉ t ++ [0] := by
 obtain ⟨u, h0, h1, h2⟩ := zq13 n (gone ++ t) (by simp; omega)
 rw [List.mem_append, not_or] at h2
 refine ⟨u, h0, h1, h2.1, fun hm => ?_⟩
 rcases List.mem_append.1 hm with h3 | h3
 ·exact h2.2 h3
 ·rw [List.mem_singleton] at h3; omega
theorem Sq.step {n : Nat} {word gone : List Int} (h : Sq n (word ++ [0]) gone) (hw : word.length + 1 = n) (hk : gone.length < n) :
  Sq n (word ++ [0]) (gone ++ [pk gone ((word ++ [0]).drop gone.length) n]) ∧ pk gone ((word ++ [0]).drop gone.length) n ∉ gone ∧ 1 ≤ pk gone ((word ++ [0]).drop gone.length) n ∧ pk gone ((word ++ [0]).drop gone.length) n ≤ n := by
 have hd : (word ++ [0]).drop gone.length = word.drop gone.length ++ [0] := by rw [List.drop_append_of_le_length (by omega)]
 obtain ⟨u, u0, u1, u2, u3⟩ := free_pk n gone (word.drop gone.length) (by rw [List.length_drop]; omega)
 rw [← hd] at u3
 obtain ⟨⟨p1, p2⟩, p3, p4⟩ := pk_spec gone ((word ++ [0]).drop gone.length) u ⟨u2, u3⟩ u0 n u1
 refine ⟨⟨?_, ?_, by simp; omega, ?_⟩, p1, p3, p4⟩
 ·refine List.nodup_append.2 ⟨h.nd, by simp, ?_⟩
  intro a ha b hb e
  rw [List.mem_singleton] at hb
  exact p1 (by rw [← hb, ← e]; exact ha)
 ·intro v hv
  rcases List.mem_append.1 hv with h2 | h2
  ·exact h.range v h2
  ·rw [List.mem_singleton] at h2; omega
 ·intro j hj
  rw [List.length_append, List.length_singleton] at hj
  by_cases c : j < gone.length
  ·rw [zq11 _ _ _ c]
   exact h.free j c
  ·obtain rfl : j = gone.length := by omega
   rw [zq12]
   exact p2
theorem Sq.none (n : Nat) (whole : List Int) : Sq n whole [] := ⟨by simp, by simp, by simp, by simp⟩
structure Told (n : Nat) (whole E T : List Int) : Prop where
 sq : Sq n whole E
 len : E.length = n
 tlen : T.length = n
 at_ : ∀ j : Nat, j < n → rd T (rd E (j : Int) - 1) = rd whole (j : Int)
structure OutOk (n : Nat) (whole gone out : List Int) : Prop where
 len : out.length = n
 told : ∀ j : Nat, j < gone.length → rd out (rd gone (j : Int) - 1) = rd whole (j : Int)
 left : ∀ v : Int, 1 ≤ v → v ≤ n → v ∉ gone → rd out (v - 1) = -1
theorem rd_setI (l : List Int) (v u x : Int) (h0 : 1 ≤ v) (h1 : v ≤ l.length) (h2 : 1 ≤ u) : rd (l.set (v - 1).toNat x) (u - 1) = if u = v then x else rd l (u - 1) := by
 have := rd_set l (v - 1).toNat (u - 1).toNat x (by omega)
 rw [show (((u - 1).toNat : Nat) : Int) = u - 1 by omega] at this
 rw [this]
 by_cases c : u = v
 ·rw [if_pos c, if_pos (by rw [c])]
 ·rw [if_neg c, if_neg (by omega)]
theorem OutOk.step {n : Nat} {whole gone out : List Int} (h : OutOk n whole gone out) (hs : Sq n whole gone) {v : Int} (hv : v ∉ gone) (h0 : 1 ≤ v) (h1 : v ≤ n) : OutOk n whole (gone ++ [v]) (out.set (v - 1).toNat (rd whole (gone.length : Int))) := by
 have hl := h.len
 refine ⟨by simp [hl], ?_, ?_⟩
 ·intro j hj
  rw [List.length_append, List.length_singleton] at hj
  by_cases c : j < gone.length
  ·have hm := rd_in gone j c
   have hr := hs.range _ hm
   rw [zq11 _ _ _ c, rd_setI _ _ _ _ h0 (by omega) hr.1, if_neg (fun e => hv (by rw [← e]; exact hm))]
   exact h.told j c
  ·obtain rfl : j = gone.length := by omega
   rw [zq12, rd_setI _ _ _ _ h0 (by omega) h0, if_pos rfl]
 ·intro u g0 g1 hu
  rw [List.mem_append, not_or, List.mem_singleton] at hu
  rw [rd_setI _ _ _ _ h0 (by omega) g0, if_neg hu.2]
  exact h.left u g0 g1 hu.1
theorem zq14 (n : Nat) (word : List Int) (hw : word.length + 1 = n) : ∀ (d : Nat) (gone out : List Int), gone.length + d = n → Sq n (word ++ [0]) gone → OutOk n (word ++ [0]) gone out →
  Told n (word ++ [0]) (gseq n ((word ++ [0]).drop gone.length) gone) (outS n ((word ++ [0]).drop gone.length) gone out)
 | 0, gone, out, hd, hs, ho => by
  have hl : (word ++ [0]).length = n := by simp; omega
  rw [List.drop_eq_nil_of_le (by omega), gseq, outS]
  exact ⟨hs, by omega, ho.len, fun j hj => ho.told j (by omega)⟩
 | d + 1, gone, out, hd, hs, ho => by
  have hl : (word ++ [0]).length = n := by simp; omega
  obtain ⟨s1, s2, s3, s4⟩ := hs.step hw (by omega)
  have hc : (word ++ [0]).drop gone.length = rd (word ++ [0]) (gone.length : Int) :: (word ++ [0]).drop (gone.length + 1) := by
   rw [List.drop_eq_getElem_cons (by omega), rd_nat, List.getD_eq_getElem?_getD, List.getElem?_eq_getElem (by omega)]
   rfl
  have ih := zq14 n word hw d (gone ++ [pk gone ((word ++ [0]).drop gone.length) n]) (out.set (pk gone ((word ++ [0]).drop gone.length) n - 1).toNat (rd (word ++ [0]) (gone.length : Int))) (by simp; omega) s1 (ho.step hs s2 s3 s4)
  rw [List.length_append, List.length_singleton] at ih
  rw [hc] at ih ⊢
  exact ih
theorem zq15 (n : Nat) (word : List Int) (hw : word.length + 1 = n) : Told n (word ++ [0]) (gseq n (word ++ [0]) []) (outS n (word ++ [0]) [] (List.replicate n (-1))) := by
 refine zq14 n word hw n [] (List.replicate n (-1)) (by simp) (Sq.none _ _) ⟨by simp, by simp, ?_⟩
 intro v h0 h1 _
 unfold rd
 rw [List.getD_eq_getElem?_getD, List.getElem?_replicate]
 rw [if_pos (by omega)]
 rfl
theorem Sq.covers {n : Nat} {whole E : List Int} (h : Sq n whole E) (hl : E.length = n) (v : Int) (h0 : 1 ≤ v) (h1 : v ≤ n) : ∃ j : Nat, j < n ∧ rd E (j : Int) = v := by
 have hm : v ∈ E := by
  refine Classical.byContradiction fun hn => ?_
  have := zq9 n (0 :: v :: E) (by
   refine List.nodup_cons.2 ⟨?_, List.nodup_cons.2 ⟨hn, h.nd⟩⟩
   intro hz
   rcases List.mem_cons.1 hz with e | e
   ·omega
   ·have := h.range 0 e; omega) (by
   intro u hu
   rcases List.mem_cons.1 hu with e | e
   ·omega
   ·rcases List.mem_cons.1 e with e | e
    ·omega
    ·have := h.range u e; omega)
  simp at this
  omega
 obtain ⟨j, hj, e⟩ := in_rd E v hm
 exact ⟨j, by omega, e⟩
theorem Sq.inj {n : Nat} {whole E : List Int} (h : Sq n whole E) {i j : Nat} (hi : i < E.length) (hj : j < E.length) (e : rd E (i : Int) = rd E (j : Int)) : i = j := by
 rw [rd_nat, rd_nat, List.getD_eq_getElem?_getD, List.getD_eq_getElem?_getD, List.getElem?_eq_getElem hi, List.getElem?_eq_getElem hj] at e
 have e2 : E[i] = E[j] := e
 rcases Nat.lt_trichotomy i j with c | c | c
 ·exact absurd e2 (zq8 h.nd c hj)
 ·exact c
 ·exact absurd e2.symm (zq8 h.nd c hi)
theorem Told.unique {n : Nat} {whole E T T' : List Int} (h : Told n whole E T) (hl : T'.length = n) (ha : ∀ j : Nat, j < n → rd T' (rd E (j : Int) - 1) = rd whole (j : Int)) : T' = T := by
 apply List.ext_getElem (by rw [hl, h.tlen])
 intro i h1 h2
 obtain ⟨j, hj, e⟩ := h.sq.covers h.len ((i : Int) + 1) (by omega) (by omega)
 have a1 := ha j hj
 have a2 := h.at_ j hj
 rw [e, show (i : Int) + 1 - 1 = (i : Int) by omega, rd_nat, List.getD_eq_getElem?_getD] at a1 a2
 rw [List.getElem?_eq_getElem h1] at a1
 rw [List.getElem?_eq_getElem h2] at a2
 exact a1.trans a2.symm
theorem Told.later {n : Nat} {word E T : List Int} (h : Told n (word ++ [0]) E T) (hw : word.length + 1 = n) (hx : ∀ x ∈ word, 0 ≤ x ∧ x ≤ n) (j : Nat) (hj : j < n) : rd (word ++ [0]) (j : Int) = 0 ∨ ∃ i : Nat, j < i ∧ i < n ∧ rd E (i : Int) = rd (word ++ [0]) (j : Int) := by
 have hl : (word ++ [0]).length = n := by simp; omega
 have hr : 0 ≤ rd (word ++ [0]) (j : Int) ∧ rd (word ++ [0]) (j : Int) ≤ n := by
  rcases List.mem_append.1 (rd_in (word ++ [0]) j (by omega)) with h1 | h1
  ·exact hx _ h1
  ·rw [List.mem_singleton] at h1; omega
 by_cases c : rd (word ++ [0]) (j : Int) = 0
 ·exact .inl c
 ·obtain ⟨i, hi, e⟩ := h.sq.covers h.len _ (by omega) hr.2
  refine .inr ⟨i, Classical.byContradiction fun hn => ?_, hi, e⟩
  refine h.sq.free i (by rw [h.len]; exact hi) ?_
  rw [e]
  have hi2 : i ≤ j := by omega
  rw [rd_nat, List.getD_eq_getElem?_getD, List.getElem?_eq_getElem (by omega)]
  show (word ++ [0])[j] ∈ _
  rw [List.mem_iff_getElem]
  refine ⟨j - i, by rw [List.length_drop]; omega, ?_⟩
  rw [List.getElem_drop]
  congr 1
  omega

structure Rch (n : Nat) (reached : List Int) : Prop where
 nd : reached.Nodup
 zero : 0 ∈ reached
 range : ∀ v ∈ reached, 0 ≤ v ∧ v ≤ n
theorem Rch.add {n : Nat} {reached : List Int} (h : Rch n reached) {v : Int} (hv : v ∉ reached) (h0 : 0 ≤ v) (h1 : v ≤ n) : Rch n (reached ++ [v]) := by
 refine ⟨List.nodup_append.2 ⟨h.nd, by simp, ?_⟩, List.mem_append_left _ h.zero, ?_⟩
 ·intro a ha b hb e
  rw [List.mem_singleton] at hb
  exact hv (by rw [← hb, ← e]; exact ha)
 ·intro u hu
  rcases List.mem_append.1 hu with h2 | h2
  ·exact h.range u h2
  ·rw [List.mem_singleton] at h2; omega

def hgt (par : List Int) : Nat → Int → Nat
 | 0, _ => 0
 | m + 1, a => if a > 0 then hgt par m (rd par (a - 1)) + 1 else 0
theorem zq16 (par : List Int) : ∀ (m : Nat) (a : Int), climb par m a = true → hgt par (m + 1) a = hgt par m a
 | 0, a, h => by
  simp only [climb, decide_eq_true_eq] at h
  simp only [hgt]
  rw [if_neg (by omega)]
 | m + 1, a, h => by
  rw [climb] at h
  show (if a > 0 then hgt par (m + 1) (rd par (a - 1)) + 1 else 0) = (if a > 0 then hgt par m (rd par (a - 1)) + 1 else 0)
  by_cases c : a > 0
  ·rw [if_pos c] at h
   rw [if_pos c, if_pos c, zq16 par m _ h]
  ·rw [if_neg c, if_neg c]
def dep (par : List Int) (a : Int) : Nat := hgt par par.length a
theorem zq17 (par : List Int) : isTr par = true ↔ par.length ≤ 8 ∧ (∀ x ∈ par, 0 ≤ x ∧ x ≤ par.length) ∧ ∀ a : Int, 1 ≤ a → a ≤ par.length → climb par par.length a = true := by
 simp only [isTr, Bool.and_eq_true, decide_eq_true_eq, zq2, List.all_eq_true, List.mem_range]
 constructor
 ·rintro ⟨⟨h1, h2⟩, h3⟩
  refine ⟨h1, h2, fun a ha hb => ?_⟩
  have := h3 (a - 1).toNat (by omega)
  rwa [show (((a - 1).toNat : Nat) : Int) + 1 = a by omega] at this
 ·rintro ⟨h1, h2, h3⟩
  exact ⟨⟨h1, h2⟩, fun i hi => h3 _ (by omega) (by omega)⟩
theorem rd_mem (l : List Int) (i : Int) (h0 : 0 ≤ i) (h1 : i < l.length) : rd l i ∈ l := by
 unfold rd
 rw [List.getD_eq_getElem?_getD, List.getElem?_eq_getElem (by omega)]
 exact List.getElem_mem _
theorem zq18 (par : List Int) (ht : isTr par = true) (a : Int) (h0 : 1 ≤ a) (h1 : a ≤ par.length) : dep par a = dep par (rd par (a - 1)) + 1 := by
 obtain ⟨_, h2, h3⟩ := (zq17 par).1 ht
 have hc := h3 a h0 h1
 unfold dep
 obtain ⟨m, hm⟩ : ∃ m, par.length = m + 1 := ⟨par.length - 1, by omega⟩
 rw [hm] at hc ⊢
 rw [climb, if_pos (by omega)] at hc
 rw [hgt, if_pos (by omega), zq16 par m _ hc]

theorem zq19 (x : Int) : ∀ (t p : List Int), p.length + t.length ≤ 35184372088832 →
  Ev (fun k => spec_l1Has.l0 k x (p ++ t) ((p ++ t).length : Int) (p.length : Int)) (decide (x ∈ t))
 | [], p, _ => by
  refine Ev.ret fun k => ?_
  rw [spec_l1Has.l0, if_neg (by simp)]
  simp
 | h :: t, p, hn => by
  have hn' : p.length + t.length + 1 ≤ 35184372088832 := by simpa [Nat.add_assoc] using hn
  have hm := len_mid p h t
  by_cases c : h = x
  ·rw [decide_eq_true (by simp [c] : x ∈ h :: t)]
   refine Ev.ret fun k => ?_
   rw [spec_l1Has.l0, if_pos (by omega), if_pos (by omega), if_pos (by omega), rd_mid, if_pos c]
  ·have ih := zq19 x t (p ++ [h]) (by simp; omega)
   rw [zq1, zq0] at ih
   have e : decide (x ∈ h :: t) = decide (x ∈ t) := decide_eq_decide.2 (by simp [Ne.symm c])
   rw [e]
   refine Ev.step (fun k => ?_) ih
   show spec_l1Has.l0 (k + 1) x (p ++ h :: t) ((p ++ h :: t).length : Int) (p.length : Int) = _
   rw [spec_l1Has.l0, if_pos (by omega), if_pos (by omega), if_pos (by omega), rd_mid, if_neg c, w64 (by omega) (by omega)]
theorem zq20 (l : List Int) (x : Int) (hl : l.length ≤ 35184372088832) : Ev (fun k => spec_l1Has.f k l x) (decide (x ∈ l)) :=
 zq19 x l [] (by simpa using hl)

structure EInv (n : Nat) (E O par reached : List Int) : Prop where
 plen : par.length = n
 rch : Rch n reached
 inv : ∀ j : Nat, j < n → rd E (j : Int) ∈ reached → rd O (j : Int) ∈ reached ∧ rd par (rd E (j : Int) - 1) = rd O (j : Int)
def Closed (n : Nat) (E O reached : List Int) (u : Int) : Prop := ∀ j : Nat, j < n → rd O (j : Int) = u → rd E (j : Int) ∈ reached
theorem zq21 (n : Nat) (hn : n ≤ 1000) (E O T : List Int) (hE : E.length = n) (hO : O.length = n) (nd : ∀ i j : Nat, i < n → j < n → rd E (i : Int) = rd E (j : Int) → i = j) (rE : ∀ x ∈ E, 1 ≤ x ∧ x ≤ n) (k9 : Nat) (hk9 : k9 ≤ 2000) : ∀ (d i : Nat) (par reached : List Int), i + d = n → EInv n E O par reached → k9 < reached.length →
  (∀ m : Nat, m < k9 → Closed n E O reached (rd reached (m : Int))) → (∀ j : Nat, j < i → rd O (j : Int) = rd reached (k9 : Int) → rd E (j : Int) ∈ reached) →
  (∀ (p2 r2 : List Int), EInv n E O p2 r2 → k9 < r2.length → (∀ m : Nat, m < k9 + 1 → Closed n E O r2 (rd r2 (m : Int))) → Ev (fun k => spec_trEdges.l0 k E O p2 r2 ((k9 : Int) + 1)) T) →
  Ev (fun k => spec_trEdges.l1 k E O par reached (k9 : Int) (n : Int) (i : Int)) T
 | 0, i, par, reached, hd, hv, hk, hcl, hci, H => by
  refine Ev.step (fun k => ?_) (H par reached hv hk (fun m hm => ?_))
  ·show spec_trEdges.l1 (k + 1) E O par reached (k9 : Int) (n : Int) (i : Int) = _
   rw [spec_trEdges.l1, if_neg (by omega), w64 (by omega) (by omega)]
  ·by_cases c : m < k9
   ·exact hcl m c
   ·obtain rfl : m = k9 := by omega
    exact fun j hj e => hci j (by omega) e
 | d + 1, i, par, reached, hd, hv, hk, hcl, hci, H => by
  have hp := hv.plen
  have hr := hv.rch
  have he := rE (rd E i) (rd_mem E i (by omega) (by omega))
  have hlen := zq9 n reached hr.nd hr.range
  have e1 : ((i + 1 : Nat) : Int) = (i : Int) + 1 := by omega
  have stay := fun (hst : rd O (i : Int) = rd reached (k9 : Int) → rd E (i : Int) ∈ reached) => zq21 n hn E O T hE hO nd rE k9 hk9 d (i + 1) par reached (by omega) hv hk hcl (fun j hj e => by
   by_cases c : j < i
   ·exact hci j c e
   ·obtain rfl : j = i := by omega
    exact hst e) H
  rw [e1] at stay
  by_cases c : rd O i = rd reached k9
  ·have hom : rd O (i : Int) ∈ reached := by rw [c]; exact rd_in reached k9 hk
   by_cases g : rd E i ∈ reached
   ·refine Ev.step (f := fun k => (spec_l1Has.f k reached (rd E i)).bind fun t => if t = true then spec_trEdges.l1 k E O par reached (k9 : Int) (n : Int) ((i : Int) + 1) else (if 0 ≤ (wrap64 ((rd E i) - 1)) then (if (wrap64 ((rd E i) - 1)) < (par.length : Int) then (if reached.length < 17592186044416 then (spec_trEdges.l1 k E O (par.set ((wrap64 ((rd E i) - 1)) : Int).toNat (rd O i)) (reached ++ [rd E i]) (k9 : Int) (n : Int) (wrap64 ((i : Int) + 1))) else (none)) else (none)) else (none))) (fun k => ?_) (Ev.bind (zq20 reached _ (by omega)) ?_)
    ·rw [spec_trEdges.l1, if_pos (by omega), if_pos (by omega), if_pos (by omega), if_pos (by omega), if_pos (by omega), if_pos (by omega), if_pos c, w64 (x := (i : Int) + 1) (by omega) (by omega)]
    ·exact Ev.congr (fun k => by rw [if_pos (by simpa using g)]) (stay fun _ => g)
   ·have grow := zq21 n hn E O T hE hO nd rE k9 hk9 d (i + 1) (par.set (rd E i - 1).toNat (rd O i)) (reached ++ [rd E i]) (by omega) ⟨by simp [hp], hr.add g (by omega) he.2, fun j hj hm => by
      rw [rd_setI _ _ _ _ he.1 (by omega) (by have := rE _ (rd_in E j (by omega)); omega)]
      by_cases q : rd E (j : Int) = rd E (i : Int)
      ·obtain rfl := nd j i hj (by omega) q
       rw [if_pos rfl]
       exact ⟨List.mem_append_left _ hom, rfl⟩
      ·rw [if_neg q]
       rcases List.mem_append.1 hm with h2 | h2
       ·obtain ⟨h3, h4⟩ := hv.inv j hj h2
        exact ⟨List.mem_append_left _ h3, h4⟩
       ·rw [List.mem_singleton] at h2; exact absurd h2 q⟩ (by simp; omega)
      (fun m hm j hj e => List.mem_append_left _ (hcl m hm j hj (by rw [e, zq11 _ _ _ (by omega)])))
      (fun j hj e => by
       rw [zq11 _ _ _ hk] at e
       by_cases q : j < i
       ·exact List.mem_append_left _ (hci j q e)
       ·obtain rfl : j = i := by omega
        exact List.mem_append_right _ (by simp)) H
    rw [e1] at grow
    refine Ev.step (f := fun k => (spec_l1Has.f k reached (rd E i)).bind fun t => if t = true then spec_trEdges.l1 k E O par reached (k9 : Int) (n : Int) ((i : Int) + 1) else (if 0 ≤ (rd E i) - 1 then (if (rd E i) - 1 < (par.length : Int) then (if reached.length < 17592186044416 then (spec_trEdges.l1 k E O (par.set ((rd E i) - 1).toNat (rd O i)) (reached ++ [rd E i]) (k9 : Int) (n : Int) ((i : Int) + 1)) else (none)) else (none)) else (none))) (fun k => ?_) (Ev.bind (zq20 reached _ (by omega)) ?_)
    ·rw [spec_trEdges.l1, if_pos (by omega), if_pos (by omega), if_pos (by omega), if_pos (by omega), if_pos (by omega), if_pos (by omega), if_pos c, w64 (x := (i : Int) + 1) (by omega) (by omega), w64 (by omega) (by omega)]
    ·exact Ev.congr (fun k => by rw [if_neg (by simpa using g), if_pos (by omega), if_pos (by omega), if_pos (by omega)]) grow
  ·by_cases c2 : rd E i = rd reached k9
   ·have g : rd O i ∈ reached := (hv.inv i (by omega) (by rw [c2]; exact rd_in reached k9 hk)).1
    refine Ev.step (f := fun k => (spec_l1Has.f k reached (rd O i)).bind fun t => if t = true then spec_trEdges.l1 k E O par reached (k9 : Int) (n : Int) ((i : Int) + 1) else (if 0 ≤ (wrap64 ((rd O i) - 1)) then (if (wrap64 ((rd O i) - 1)) < (par.length : Int) then (if reached.length < 17592186044416 then (spec_trEdges.l1 k E O (par.set ((wrap64 ((rd O i) - 1)) : Int).toNat (rd E i)) (reached ++ [rd O i]) (k9 : Int) (n : Int) (wrap64 ((i : Int) + 1))) else (none)) else (none)) else (none))) (fun k => ?_) (Ev.bind (zq20 reached _ (by omega)) ?_)
    ·rw [spec_trEdges.l1, if_pos (by omega), if_pos (by omega), if_pos (by omega), if_pos (by omega), if_pos (by omega), if_pos (by omega), if_neg c, if_pos c2, w64 (x := (i : Int) + 1) (by omega) (by omega)]
    ·exact Ev.congr (fun k => by rw [if_pos (by simpa using g)]) (stay fun e => absurd e c)
   ·refine Ev.step (fun k => ?_) (stay fun e => absurd e c)
    show spec_trEdges.l1 (k + 1) E O par reached (k9 : Int) (n : Int) (i : Int) = _
    rw [spec_trEdges.l1, if_pos (by omega), if_pos (by omega), if_pos (by omega), if_pos (by omega), if_pos (by omega), if_pos (by omega), if_neg c, if_neg c2, w64 (x := (i : Int) + 1) (by omega) (by omega)]
theorem zq22 (n : Nat) (hn : n ≤ 1000) (word E T : List Int) (h : Told n (word ++ [0]) E T) (hw : word.length + 1 = n) (hx : ∀ x ∈ word, 0 ≤ x ∧ x ≤ n) : ∀ (d k9 : Nat) (par reached : List Int), k9 + d = n + 1 → EInv n E (word ++ [0]) par reached → k9 ≤ reached.length → (∀ m : Nat, m < k9 → Closed n E (word ++ [0]) reached (rd reached (m : Int))) →
  Ev (fun k => spec_trEdges.l0 k E (word ++ [0]) par reached (k9 : Int)) T
 | d, k9, par, reached, hd, hv, hle, hcl => by
  have hl : (word ++ [0]).length = n := by simp; omega
  have hlen := zq9 n reached hv.rch.nd hv.rch.range
  by_cases c : k9 < reached.length
  ·match d, hd with
   | 0, hd => omega
   | d + 1, hd =>
   refine Ev.step (fun k => ?_) (zq21 n hn E (word ++ [0]) T h.len hl (fun i j hi hj e => h.sq.inj (by rw [h.len]; exact hi) (by rw [h.len]; exact hj) e) h.sq.range k9 (by omega) n 0 par reached (by omega) hv c hcl (fun j hj => by omega) (fun p2 r2 h3 h4 h5 => by
    have := zq22 n hn word E T h hw hx d (k9 + 1) p2 r2 (by omega) h3 (by omega) h5
    rw [show ((k9 + 1 : Nat) : Int) = (k9 : Int) + 1 by omega] at this
    exact this))
   show spec_trEdges.l0 (k + 1) E (word ++ [0]) par reached (k9 : Int) = _
   rw [spec_trEdges.l0, if_pos (by omega), h.len]
   rfl
  ·have hall : ∀ (q j : Nat), j + q + 1 = n → rd E (j : Int) ∈ reached := by
    intro q
    induction q using Nat.strongRecOn with
    | _ q ih =>
     intro j hj
     rcases h.later hw hx j (by omega) with h0 | ⟨i, h1, h2, h3⟩
     ·obtain ⟨m, hm, e⟩ := in_rd reached 0 hv.rch.zero
      exact hcl m (by omega) j (by omega) (by rw [h0, e])
     ·have := ih (n - 1 - i) (by omega) i (by omega)
      rw [h3] at this
      obtain ⟨m, hm, e⟩ := in_rd reached _ this
      exact hcl m (by omega) j (by omega) e.symm
   have hT : par = T := h.unique hv.plen fun j hj => (hv.inv j hj (hall (n - 1 - j) j (by omega))).2
   refine Ev.ret fun k => ?_
   rw [spec_trEdges.l0, if_neg (by omega), hT]
theorem zq23 (n : Nat) (hn : n ≤ 1000) (word E T : List Int) (h : Told n (word ++ [0]) E T) (hw : word.length + 1 = n) (hx : ∀ x ∈ word, 0 ≤ x ∧ x ≤ n) : Ev (fun k => spec_trEdges.f k (n : Int) E (word ++ [0])) T := by
 have z := zq22 n hn word E T h hw hx (n + 1) 0 (List.replicate n 0) [0] (by omega) ⟨by simp, ⟨by simp, by simp, by simp⟩, fun j hj hm => by
  have := h.sq.range _ (rd_in E j (by rw [h.len]; exact hj))
  rw [List.mem_singleton] at hm
  omega⟩ (by simp) (fun m hm => by omega)
 exact Ev.congr (fun k => by rw [spec_trEdges.f, if_pos (by omega), if_pos (by omega)]; rfl) z

theorem zq24 (n : Nat) (hn : n ≤ 1000) (word gone others : List Int) (k : Nat) (x : Int) (L : List Int) (m : Int) (hk : k ≤ word.length) (hw : word.length ≤ 1000) (hg : gone.length ≤ 1000) (ho : others.length ≤ 1000)
  (u : Int) (h1 : 1 ≤ u) (hu : u ∉ gone ∧ u ∉ word.drop k) (r : List Int) : ∀ d : Nat, u ≤ d → d ≤ n →
  Ev (fun kk => spec_trOf.l0 kk word (n : Int) (gone ++ [pk gone (word.drop k) d]) (others ++ [x]) L m ((k : Int) + 1)) r →
  Ev (fun kk => spec_trOf.l1 kk word (n : Int) gone others (k : Int) x (d : Int) L m (k : Int)) r
 | 0, h, _, _ => by omega
 | d + 1, h, hd, H => by
  have ed : ((d + 1 : Nat) : Int) = (d : Int) + 1 := by omega
  rw [ed]
  have less : ((d : Int) + 1 ∈ gone ∨ (d : Int) + 1 ∈ word.drop k) → u ≤ d := fun hm => by
   refine Classical.byContradiction fun h2 => ?_
   have e : u = (d : Int) + 1 := by omega
   rw [e] at hu
   rcases hm with h3 | h3
   ·exact hu.1 h3
   ·exact hu.2 h3
  have ih := fun c => zq24 n hn word gone others k x L m hk hw hg ho u h1 hu r d c (by omega)
  rw [pk] at H
  by_cases g : (d : Int) + 1 ∈ gone
  ·rw [if_neg (fun h2 => h2.1 g)] at H
   refine Ev.step (fun kk => by rw [spec_trOf.l1, w64 (x := (d : Int) + 1 - 1) (by omega) (by omega), show (d : Int) + 1 - 1 = (d : Int) by omega]) (Ev.bind (zq20 gone _ (by omega)) ?_)
   exact Ev.congr (fun kk => by rw [if_pos (by simpa using g)]) (ih (less (.inl g)) H)
  ·by_cases g2 : (d : Int) + 1 ∈ word.drop k
   ·rw [if_neg (fun h2 => h2.2 g2)] at H
    refine Ev.step (fun kk => by rw [spec_trOf.l1, w64 (x := (d : Int) + 1 - 1) (by omega) (by omega), show (d : Int) + 1 - 1 = (d : Int) by omega]) (Ev.bind (zq20 gone _ (by omega)) ?_)
    refine Ev.congr (fun kk => by rw [if_neg (by simpa using g), if_pos (by omega), if_pos (by omega), Int.toNat_natCast]) (Ev.bind (zq20 (word.drop k) _ (by simp; omega)) ?_)
    exact Ev.congr (fun kk => by rw [if_pos (by simpa using g2)]) (ih (less (.inr g2)) H)
   ·rw [if_pos ⟨g, g2⟩] at H
    refine Ev.step (fun kk => by rw [spec_trOf.l1]) (Ev.bind (zq20 gone _ (by omega)) ?_)
    refine Ev.congr (fun kk => by rw [if_neg (by simpa using g), if_pos (by omega), if_pos (by omega), Int.toNat_natCast]) (Ev.bind (zq20 (word.drop k) _ (by simp; omega)) ?_)
    exact Ev.congr (fun kk => by rw [if_neg (by simpa using g2), if_pos (by omega), if_pos (by omega), w64 (by omega) (by omega)]) H
theorem zq25 (n : Nat) (gone : List Int) (hs : gone.Nodup) (hr : ∀ v ∈ gone, 1 ≤ v ∧ v ≤ n) (hl : gone.length + 1 = n) (v u : Int) (h0 : 1 ≤ v) (h1 : v ≤ n) (hv : v ∉ gone) (g0 : 1 ≤ u) (g1 : u ≤ n) (hu : u ∉ gone) : v = u := by
 refine Classical.byContradiction fun hne => ?_
 have := zq9 n (0 :: v :: u :: gone) (by
  refine List.nodup_cons.2 ⟨?_, List.nodup_cons.2 ⟨?_, List.nodup_cons.2 ⟨hu, hs⟩⟩⟩
  ·intro hz
   rcases List.mem_cons.1 hz with e | e
   ·omega
   ·rcases List.mem_cons.1 e with e | e
    ·omega
    ·have := hr 0 e; omega
  ·intro hz
   rcases List.mem_cons.1 hz with e | e
   ·exact hne e
   ·exact hv e) (by
  intro w hw
  rcases List.mem_cons.1 hw with e | e
  ·omega
  ·rcases List.mem_cons.1 e with e | e
   ·omega
   ·rcases List.mem_cons.1 e with e | e
    ·omega
    ·have := hr w e; omega)
 simp at this
 omega
theorem zq26 (n : Nat) (hn : n ≤ 1000) (gone others T : List Int) (hs : gone.Nodup) (hr : ∀ v ∈ gone, 1 ≤ v ∧ v ≤ n) (hol : others.length = gone.length) (hlen : gone.length + 1 = n) (u : Int) (h1 : 1 ≤ u) (hu : u ≤ n) (hug : u ∉ gone)
  (H : Ev (fun kk => spec_trEdges.f kk (n : Int) (gone ++ [u]) (others ++ [0])) T) : ∀ (d : Nat) (v : Int), 1 ≤ v → v + d = u →
  Ev (fun kk => spec_trOf.l2 kk (n : Int) gone others v) T
 | d, v, hv, hd => by
  by_cases g : v ∈ gone
  ·match d, hd with
   | 0, hd => exact absurd (by rw [show u = v by omega]; exact g) hug
   | d + 1, hd =>
    have h3 := zq26 n hn gone others T hs hr hol hlen u h1 hu hug H d (v + 1) (by omega) (by omega)
    refine Ev.step (fun kk => by rw [spec_trOf.l2, if_pos (by omega), w64 (x := v + 1) (by omega) (by omega)]) (Ev.bind (zq20 gone _ (by omega)) ?_)
    exact Ev.congr (fun kk => by rw [if_pos (by simpa using g)]) h3
  ·obtain rfl := zq25 n gone hs hr hlen v u hv (by omega) g h1 hu hug
   refine Ev.step (fun kk => by rw [spec_trOf.l2, if_pos (by omega)]) (Ev.bind (zq20 gone _ (by omega)) ?_)
   exact Ev.congr (fun kk => by rw [if_neg (by simpa using g), if_pos (by omega), if_pos (by omega)]) (Ev.bind H (Ev.now _))
theorem zq27 (n : Nat) (hn : n ≤ 1000) (word T : List Int) (hw : word.length + 1 = n) (hx : ∀ x ∈ word, 0 ≤ x ∧ x ≤ n) (hT : Told n (word ++ [0]) (gseq n (word ++ [0]) []) T) : ∀ (d k : Nat) (gone : List Int), k + d = word.length → gone.length = k → Sq n (word ++ [0]) gone → gseq n ((word ++ [0]).drop k) gone = gseq n (word ++ [0]) [] →
  Ev (fun kk => spec_trOf.l0 kk word (n : Int) gone (word.take k) word (word.length : Int) (k : Int)) T
 | 0, k, gone, hd, hg, h, he => by
  have hk : k = word.length := by omega
  obtain ⟨s1, s2, s3, s4⟩ := h.step hw (by omega)
  have hdr : (word ++ [0]).drop gone.length = [0] := by rw [List.drop_append_of_le_length (by omega), List.drop_eq_nil_of_le (by omega)]; rfl
  rw [hdr] at s1 s2 s3 s4
  have e0 : (word ++ [0]).drop k = [0] := by rw [← hg]; exact hdr
  rw [e0, gseq, gseq] at he
  refine Ev.step (fun kk => by rw [spec_trOf.l0, if_neg (by omega)]) (zq26 n hn gone (word.take k) T h.nd h.range (by rw [List.length_take]; omega) (by omega) _ s3 s4 s2 ?_ (pk gone [0] n - 1).toNat 1 (by omega) (by omega))
  rw [he, show word.take k = word by rw [hk, List.take_length]]
  exact zq23 n hn word _ T hT hw hx
 | d + 1, k, gone, hd, hg, h, he => by
  obtain ⟨s1, s2, s3, s4⟩ := h.step hw (by omega)
  rw [hg] at s1 s2 s3 s4
  have hdr : (word ++ [0]).drop k = word.drop k ++ [0] := by rw [List.drop_append_of_le_length (by omega)]
  have hpk : ∀ d : Nat, pk gone ((word ++ [0]).drop k) d = pk gone (word.drop k) d := zq10 _ _ _ _ fun v hv => by
   rw [hdr, List.mem_append, List.mem_singleton]
   constructor
   ·rintro ⟨a, b⟩
    exact ⟨a, fun c => b (.inl c)⟩
   ·rintro ⟨a, b⟩
    exact ⟨a, fun c => c.elim b (by omega)⟩
  have hc : (word ++ [0]).drop k = rd word (k : Int) :: (word ++ [0]).drop (k + 1) := by
   rw [List.drop_eq_getElem_cons (by simp; omega), rd_nat, List.getD_eq_getElem?_getD, List.getElem?_eq_getElem (by omega), List.getElem_append_left (by omega)]
   rfl
  have htk : word.take (k + 1) = word.take k ++ [rd word (k : Int)] := by
   rw [List.take_succ_eq_append_getElem (by omega), rd_nat, List.getD_eq_getElem?_getD, List.getElem?_eq_getElem (by omega)]
   rfl
  have ih := zq27 n hn word T hw hx hT d (k + 1) (gone ++ [pk gone ((word ++ [0]).drop k) n]) (by omega) (by simp [hg]) s1 (by
   rw [← he, hc, gseq])
  rw [show ((k + 1 : Nat) : Int) = (k : Int) + 1 by omega, htk, hpk] at ih
  obtain ⟨u, u0, u1, u2, u3⟩ := free_pk n gone (word.drop k) (by rw [List.length_drop]; omega)
  have u4 : u ∉ word.drop k := fun hm => u3 (List.mem_append_left _ hm)
  refine Ev.step (fun kk => by rw [spec_trOf.l0, if_pos (by omega), if_pos (by omega), if_pos (by omega)]) (zq24 n hn word gone (word.take k) k (rd word k) word (word.length : Int) (by omega) (by omega) (by omega) (by simp; omega) u u0 ⟨u2, u4⟩ T n u1 (Nat.le_refl _) ih)
def treeS (word : List Int) : List Int := outS (word.length + 1) (word ++ [0]) [] (List.replicate (word.length + 1) (-1))
theorem zq28 (word : List Int) : Told (word.length + 1) (word ++ [0]) (gseq (word.length + 1) (word ++ [0]) []) (treeS word) := zq15 (word.length + 1) word rfl
theorem zq29 (word : List Int) (hw : word.length ≤ 900) (hx : ∀ x ∈ word, 0 ≤ x ∧ x ≤ (word.length : Int) + 1) : Ev (fun kk => spec_trOf.f kk word) (treeS word) := by
 have z := zq27 (word.length + 1) (by omega) word (treeS word) rfl (fun x h => by have := hx x h; omega) (zq28 word) word.length 0 [] (by omega) rfl (Sq.none _ _) rfl
 exact Ev.congr (fun kk => by rw [spec_trOf.f, w64 (by omega) (by omega), show (word.length : Int) + 1 = ((word.length + 1 : Nat) : Int) by omega]; rfl) z

def cnt (q : Int → Bool) : List Int → Int
 | [] => 0
 | h :: t => (if q h = true then 1 else 0) + cnt q t
theorem zq30 (q : Int → Bool) : ∀ l : List Int, 0 ≤ cnt q l ∧ cnt q l ≤ l.length
 | [] => by simp [cnt]
 | h :: t => by
  have := zq30 q t
  have e : ((h :: t).length : Int) = (t.length : Int) + 1 := by simp
  simp only [cnt]
  rw [e]
  split <;> omega
theorem zq31 (q : Int → Bool) : ∀ a b : List Int, cnt q (a ++ b) = cnt q a + cnt q b
 | [], b => by simp [cnt]
 | h :: t, b => by simp only [List.cons_append, cnt, zq31 q t b]; omega

def places (q : Int → Bool) : List Int → Int → List Int
 | [], _ => []
 | h :: t, i => if q h = true then i :: places q t (i + 1) else places q t (i + 1)
theorem zq32 (q : Int → Bool) : ∀ (l : List Int) (i : Int), ((places q l i).length : Int) = cnt q l
 | [], i => by simp [places, cnt]
 | h :: t, i => by
  rw [places, cnt]
  have := zq32 q t (i + 1)
  split
  ·simp; omega
  ·omega
theorem zq33 (q : Int → Bool) (x : Int) : ∀ (l : List Int) (i : Int), x ∈ places q l i ↔ ∃ j : Nat, ∃ v, l[j]? = some v ∧ q v = true ∧ x = i + j
 | [], i => by simp [places]
 | h :: t, i => by
  rw [places]
  have ih := zq33 q x t (i + 1)
  constructor
  ·intro hx
   have : x = i ∧ q h = true ∨ x ∈ places q t (i + 1) := by
    split at hx
    ·rename_i c
     rcases List.mem_cons.1 hx with h1 | h1
     ·exact .inl ⟨h1, c⟩
     ·exact .inr h1
    ·exact .inr hx
   rcases this with ⟨h1, h2⟩ | h1
   ·exact ⟨0, h, by simp, h2, by omega⟩
   ·obtain ⟨j, v, h2, h3, h4⟩ := ih.1 h1
    exact ⟨j + 1, v, by simpa using h2, h3, by omega⟩
  ·rintro ⟨j, v, h2, h3, h4⟩
   cases j with
   | zero =>
    have e : h = v := by simpa using h2
    rw [e, if_pos h3]
    exact List.mem_cons.2 (.inl (by omega))
   | succ j =>
    have h1 : x ∈ places q t (i + 1) := ih.2 ⟨j, v, by simpa using h2, h3, by omega⟩
    split
    ·exact List.mem_cons_of_mem _ h1
    ·exact h1
theorem zq34 (q : Int → Bool) : ∀ (l : List Int) (i : Int), (places q l i).Pairwise (· < ·)
 | [], i => by simp [places]
 | h :: t, i => by
  rw [places]
  split
  ·rw [List.pairwise_cons]
   refine ⟨fun x hx => ?_, zq34 q t (i + 1)⟩
   obtain ⟨j, v, _, _, e⟩ := (zq33 q x t (i + 1)).1 hx
   omega
  ·exact zq34 q t (i + 1)

def kids (par : List Int) (v : Int) : List Int := (places (fun p => decide (p = v)) par 0).map (· + 1)
theorem zq35 (par : List Int) (v : Int) : ((kids par v).length : Int) = cnt (fun p => decide (p = v)) par := by
 rw [kids, List.length_map, zq32]

theorem zq36 (par : List Int) (v x : Int) : x ∈ kids par v ↔ 1 ≤ x ∧ x ≤ par.length ∧ rd par (x - 1) = v := by
 rw [kids, List.mem_map]
 constructor
 ·rintro ⟨y, hy, rfl⟩
  obtain ⟨j, w, h1, h2, h3⟩ := (zq33 _ _ _ _).1 hy
  have h4 := (List.getElem?_eq_some_iff.1 h1).1
  refine ⟨by omega, by omega, ?_⟩
  have h5 : w = v := by simpa using h2
  unfold rd
  rw [show (y + 1 - 1).toNat = j by omega, List.getD_eq_getElem?_getD, h1, ← h5]
  rfl
 ·rintro ⟨h1, h2, h3⟩
  refine ⟨x - 1, (zq33 _ _ _ _).2 ⟨(x - 1).toNat, v, ?_, by simp, by omega⟩, by omega⟩
  unfold rd at h3
  rw [List.getD_eq_getElem?_getD, List.getElem?_eq_getElem (by omega)] at h3
  rw [List.getElem?_eq_getElem (by omega)]
  exact congrArg some h3
theorem zq37 (par : List Int) (v : Int) : (kids par v).Nodup := by
 rw [kids]
 refine List.pairwise_map.2 ((zq34 (fun p => decide (p = v)) par 0).imp ?_)
 intro a b h
 omega
structure InB (par ord : List Int) (k : Nat) : Prop where
 nd : ord.Nodup
 le : k ≤ ord.length
 zero : 0 ∈ ord
 range : ∀ v ∈ ord, 0 ≤ v ∧ v ≤ par.length
 has : ∀ v : Int, 1 ≤ v → v ≤ par.length → (v ∈ ord ↔ rd par (v - 1) ∈ ord.take k)
theorem InB.length {par ord : List Int} {k : Nat} (h : InB par ord k) : ord.length ≤ par.length + 1 := zq9 par.length ord h.nd h.range
theorem InB.step {par ord : List Int} {k : Nat} (h : InB par ord k) (hk : k < ord.length) : InB par (ord ++ kids par (rd ord k)) (k + 1) := by
 have hrk : rd ord (k : Int) = ord[k] := by
  unfold rd
  rw [Int.toNat_natCast, List.getD_eq_getElem?_getD, List.getElem?_eq_getElem hk]
  rfl
 have hnt : rd ord (k : Int) ∉ ord.take k := by
  rw [hrk]
  intro hm
  obtain ⟨i, hi, e⟩ := List.mem_iff_getElem.1 hm
  rw [List.getElem_take] at e
  have : i < k := by simp at hi; omega
  exact zq8 h.nd this hk e
 have htk : (ord ++ kids par (rd ord k)).take (k + 1) = ord.take k ++ [rd ord (k : Int)] := by
  rw [List.take_append_of_le_length (by omega), hrk, List.take_append_getElem]
 refine ⟨?_, by simp; omega, List.mem_append_left _ h.zero, ?_, ?_⟩
 ·refine List.nodup_append.2 ⟨h.nd, zq37 par _, ?_⟩
  intro a ha b hb e
  obtain ⟨h1, h2, h3⟩ := (zq36 par _ b).1 hb
  rw [e] at ha
  have := (h.has b h1 h2).1 ha
  rw [h3] at this
  exact hnt this
 ·intro v hv
  rcases List.mem_append.1 hv with h1 | h1
  ·exact h.range v h1
  ·obtain ⟨h2, h3, _⟩ := (zq36 par _ v).1 h1
   omega
 ·intro v h1 h2
  rw [htk, List.mem_append, List.mem_append, h.has v h1 h2, zq36, List.mem_singleton]
  constructor
  ·rintro (h3 | ⟨_, _, h3⟩)
   ·exact .inl h3
   ·exact .inr h3
  ·rintro (h3 | h3)
   ·exact .inl h3
   ·exact .inr ⟨h1, h2, h3⟩
def putS (n : Int) : List Int → List Int
 | [] => [n]
 | h :: t => if h < n then h :: putS n t else if h = n then h :: t else n :: h :: t
theorem zq38 (n x : Int) : ∀ l : List Int, x ∈ putS n l ↔ x = n ∨ x ∈ l
 | [] => by simp [putS]
 | h :: t => by
  rw [putS]
  split
  ·rw [List.mem_cons, zq38 n x t, List.mem_cons]
   constructor
   ·rintro (h1 | h1 | h1)
    ·exact .inr (.inl h1)
    ·exact .inl h1
    ·exact .inr (.inr h1)
   ·rintro (h1 | h1 | h1)
    ·exact .inr (.inl h1)
    ·exact .inl h1
    ·exact .inr (.inr h1)
  ·split
   ·rename_i e
    rw [List.mem_cons, e]
    constructor
    ·exact fun h1 => .inr h1
    ·rintro (h1 | h1)
     ·exact .inl h1
     ·exact h1
   ·simp [List.mem_cons]
theorem zq39 (n : Int) : ∀ l : List Int, (putS n l).length ≤ l.length + 1
 | [] => by simp [putS]
 | h :: t => by
  rw [putS]
  have := zq39 n t
  split
  ·simp; omega
  ·split <;> simp
theorem zq40 (n : Int) : ∀ l : List Int, l.Pairwise (· < ·) → (putS n l).Pairwise (· < ·)
 | [], _ => by simp [putS]
 | h :: t, hp => by
  rw [List.pairwise_cons] at hp
  rw [putS]
  split
  ·rename_i c
   rw [List.pairwise_cons]
   refine ⟨fun x hx => ?_, zq40 n t hp.2⟩
   rcases (zq38 n x t).1 hx with rfl | h1
   ·exact c
   ·exact hp.1 x h1
  ·split
   ·exact List.pairwise_cons.2 hp
   ·rw [List.pairwise_cons]
    refine ⟨fun x hx => ?_, List.pairwise_cons.2 hp⟩
    rcases List.mem_cons.1 hx with rfl | h1
    ·omega
    ·have := hp.1 x h1; omega
def nearFrom (node : Int) (out : List Int) : Int → List Int → List Int
 | _, [] => out
 | i, p :: t => nearFrom node (if p = node then putS (i + 1) out else out) (i + 1) t
theorem zq41 (node : Int) : ∀ (t : List Int) (out : List Int) (i : Int), (nearFrom node out i t).length ≤ out.length + t.length
 | [], out, i => by simp [nearFrom]
 | p :: t, out, i => by
  rw [nearFrom]
  have h1 := zq41 node t (if p = node then putS (i + 1) out else out) (i + 1)
  have h2 := zq39 (i + 1) out
  by_cases c : p = node
  ·rw [if_pos c] at h1 ⊢; simp; omega
  ·rw [if_neg c] at h1 ⊢; simp; omega
theorem zq42 (node x : Int) : ∀ (t : List Int) (out : List Int) (i : Int), x ∈ nearFrom node out i t ↔ x ∈ out ∨ ∃ j : Nat, t[j]? = some node ∧ x = i + j + 1
 | [], out, i => by simp [nearFrom]
 | p :: t, out, i => by
  rw [nearFrom, zq42 node x t]
  constructor
  ·rintro (h | ⟨j, hj, e⟩)
   ·split at h
    ·rename_i c
     rcases (zq38 _ _ _).1 h with rfl | h1
     ·exact .inr ⟨0, by simp [c], by simp⟩
     ·exact .inl h1
    ·exact .inl h
   ·exact .inr ⟨j + 1, by simpa using hj, by omega⟩
  ·rintro (h | ⟨j, hj, e⟩)
   ·left
    split
    ·exact (zq38 _ _ _).2 (.inr h)
    ·exact h
   ·cases j with
    | zero =>
     left
     have c : p = node := by simpa using hj
     rw [if_pos c]
     exact (zq38 _ _ _).2 (.inl (by omega))
    | succ j => exact .inr ⟨j, by simpa using hj, by omega⟩
theorem zq43 (node : Int) : ∀ (t : List Int) (out : List Int) (i : Int), out.Pairwise (· < ·) → (nearFrom node out i t).Pairwise (· < ·)
 | [], out, i, h => h
 | p :: t, out, i, h => by
  rw [nearFrom]
  refine zq43 node t _ (i + 1) ?_
  split
  ·exact zq40 _ _ h
  ·exact h
def near (par : List Int) (node : Int) : List Int := nearFrom node (if node > 0 then [rd par (node - 1)] else []) 0 par

theorem zq44 (node : Int) : ∀ l : List Int, cnt (fun p => decide (p = node)) l = 0 ↔ node ∉ l
 | [] => by simp [cnt]
 | h :: t => by
  have ih := zq44 node t
  have := zq30 (fun p => decide (p = node)) t
  rw [cnt]
  by_cases c : h = node
  ·rw [if_pos (by simp [c])]
   constructor
   ·intro e; omega
   ·intro e; exact absurd (by simp [c]) e
  ·rw [if_neg (by simp [c]), Int.zero_add, ih]
   simp [Ne.symm c]

theorem hgt_le (par : List Int) : ∀ (m : Nat) (a : Int), hgt par m a ≤ m
 | 0, a => Nat.le_refl _
 | m + 1, a => by
  have := hgt_le par m (rd par (a - 1))
  rw [hgt]
  split <;> omega

def leafB (par gone : List Int) (v : Int) : Bool := decide (v ∉ gone) && (kids par v).all fun c => decide (c ∈ gone)
theorem zq45 (par gone : List Int) (v : Int) : leafB par gone v = true ↔ v ∉ gone ∧ ∀ c, c ∈ kids par v → c ∈ gone := by
 simp only [leafB, Bool.and_eq_true, decide_eq_true_eq, List.all_eq_true]
def pickD (par gone : List Int) : Nat → Int
 | 0 => 0
 | d + 1 => if leafB par gone ((d : Int) + 1) = true then (d : Int) + 1 else pickD par gone d
theorem zq46 (par gone : List Int) (u : Int) (hu : leafB par gone u = true) (h1 : 1 ≤ u) : ∀ d : Nat, u ≤ d → leafB par gone (pickD par gone d) = true ∧ 1 ≤ pickD par gone d ∧ pickD par gone d ≤ d
 | 0, h => by omega
 | d + 1, h => by
  rw [pickD]
  by_cases c : leafB par gone ((d : Int) + 1) = true
  ·rw [if_pos c]
   exact ⟨c, by omega, by omega⟩
  ·rw [if_neg c]
   have hd : u ≤ d := by
    refine Classical.byContradiction fun h2 => ?_
    have : u = (d : Int) + 1 := by omega
    rw [this] at hu
    exact absurd hu c
   obtain ⟨h3, h4, h5⟩ := zq46 par gone u hu h1 d hd
   exact ⟨h3, h4, by omega⟩
structure Gone (par gone : List Int) : Prop where
 nd : gone.Nodup
 range : ∀ v ∈ gone, 1 ≤ v ∧ v ≤ par.length
 closed : ∀ v ∈ gone, ∀ c, c ∈ kids par v → c ∈ gone
theorem Gone.none (par : List Int) : Gone par [] := ⟨by simp, by simp, by simp⟩
theorem Gone.add {par gone : List Int} (h : Gone par gone) {v : Int} (hv : leafB par gone v = true) (h0 : 1 ≤ v) (h1 : v ≤ par.length) : Gone par (gone ++ [v]) := by
 obtain ⟨h2, h3⟩ := (zq45 par gone v).1 hv
 refine ⟨?_, ?_, ?_⟩
 ·refine List.nodup_append.2 ⟨h.nd, by simp, ?_⟩
  intro a ha b hb e
  rw [List.mem_singleton] at hb
  exact h2 (by rw [← hb, ← e]; exact ha)
 ·intro u hu
  rcases List.mem_append.1 hu with h4 | h4
  ·exact h.range u h4
  ·rw [List.mem_singleton] at h4
   omega
 ·intro u hu c hc
  rcases List.mem_append.1 hu with h4 | h4
  ·exact List.mem_append_left _ (h.closed u h4 c hc)
  ·rw [List.mem_singleton] at h4
   exact List.mem_append_left _ (h3 c (by rw [← h4]; exact hc))
theorem zq47 (par gone : List Int) (ht : isTr par = true) : ∀ (m : Nat) (v : Int), 1 ≤ v → v ≤ par.length → v ∉ gone → par.length + 1 ≤ m + dep par v → ∃ u, leafB par gone u = true ∧ 1 ≤ u ∧ u ≤ par.length
 | 0, v, _, _, _, h => by
  have : dep par v ≤ par.length := hgt_le par par.length v
  omega
 | m + 1, v, h0, h1, hg, h => by
  by_cases c : leafB par gone v = true
  ·exact ⟨v, c, h0, h1⟩
  ·have : ∃ w, w ∈ kids par v ∧ w ∉ gone := by
    refine Classical.byContradiction fun hn => c ((zq45 par gone v).2 ⟨hg, fun w hw => ?_⟩)
    exact Classical.byContradiction fun h2 => hn ⟨w, hw, h2⟩
   obtain ⟨w, hw, hwg⟩ := this
   obtain ⟨h2, h3, h4⟩ := (zq36 par v w).1 hw
   have hd := zq18 par ht w h2 h3
   rw [h4] at hd
   exact zq47 par gone ht m w h2 h3 hwg (by omega)
theorem zq48 (par gone : List Int) (ht : isTr par = true) (h : gone.length < par.length) : ∃ u, leafB par gone u = true ∧ 1 ≤ u ∧ u ≤ par.length := by
 have : ∃ v : Int, 1 ≤ v ∧ v ≤ par.length ∧ v ∉ gone := by
  refine Classical.byContradiction fun hn => ?_
  have := all_in par.length gone fun v h0 h1 => Classical.byContradiction fun h2 => hn ⟨v, h0, h1, h2⟩
  omega
 obtain ⟨v, h0, h1, h2⟩ := this
 exact zq47 par gone ht (par.length + 1) v h0 h1 h2 (by omega)
def prufS (par : List Int) : Nat → List Int → List Int → List Int
 | 0, _, word => word
 | s + 1, gone, word => prufS par s (gone ++ [pickD par gone par.length]) (word ++ [rd par (pickD par gone par.length - 1)])
theorem zq49 (par : List Int) : ∀ (s : Nat) (gone word : List Int), (prufS par s gone word).length = word.length + s
 | 0, _, _ => rfl
 | s + 1, gone, word => by
  rw [prufS, zq49 par s]
  simp
  omega

theorem zq50 (par : List Int) (v x : Int) (h0 : 1 ≤ v) : x ∈ near par v ↔ x = rd par (v - 1) ∨ x ∈ kids par v := by
 rw [near, if_pos (by omega), zq42, List.mem_singleton, zq36]
 constructor
 ·rintro (h | ⟨j, hj, e⟩)
  ·exact .inl h
  ·have := (List.getElem?_eq_some_iff.1 hj).1
   refine .inr ⟨by omega, by omega, ?_⟩
   unfold rd
   rw [show (x - 1).toNat = j by omega, List.getD_eq_getElem?_getD, hj]
   rfl
 ·rintro (h | ⟨h1, h2, h3⟩)
  ·exact .inl h
  ·refine .inr ⟨(x - 1).toNat, ?_, by omega⟩
   unfold rd at h3
   rw [List.getD_eq_getElem?_getD, List.getElem?_eq_getElem (by omega)] at h3
   rw [List.getElem?_eq_getElem (by omega)]
   exact congrArg some h3
theorem zq51 (par : List Int) (v : Int) (h0 : 1 ≤ v) : (near par v).Pairwise (· < ·) := by
 rw [near, if_pos (by omega)]
 exact zq43 v par _ 0 (by simp)
def leftOf (par gone : List Int) (v : Int) : List Int := (near par v).filter fun x => !decide (x ∈ gone)
theorem zq52 {par gone : List Int} (h : Gone par gone) (v : Int) (h0 : 1 ≤ v) (h1 : v ≤ par.length) (hv : v ∉ gone) : rd par (v - 1) ∉ gone := by
 intro hm
 exact hv (h.closed _ hm v ((zq36 par _ v).2 ⟨h0, h1, rfl⟩))
theorem zq53 {par gone : List Int} (h : Gone par gone) (v : Int) (h0 : 1 ≤ v) (h1 : v ≤ par.length) (hv : leafB par gone v = true) : leftOf par gone v = [rd par (v - 1)] := by
 obtain ⟨h2, h3⟩ := (zq45 par gone v).1 hv
 have hp := zq52 h v h0 h1 h2
 have hmem : ∀ x, x ∈ leftOf par gone v ↔ x = rd par (v - 1) := fun x => by
  rw [leftOf, List.mem_filter, zq50 par v x h0]
  constructor
  ·rintro ⟨h4 | h4, h5⟩
   ·exact h4
   ·have := h3 x h4
    simp [this] at h5
  ·rintro rfl
   exact ⟨.inl rfl, by simpa using hp⟩
 have hr : (leftOf par gone v).Pairwise (· < ·) := (zq51 par v h0).filter _
 cases e : leftOf par gone v with
 | nil => have := (hmem (rd par (v - 1))).2 rfl; rw [e] at this; simp at this
 | cons a t =>
  rw [e] at hmem hr
  have ha : a = rd par (v - 1) := (hmem a).1 (by simp)
  cases t with
  | nil => rw [ha]
  | cons b t =>
   have hb : b = rd par (v - 1) := (hmem b).1 (by simp)
   have := (List.pairwise_cons.1 hr).1 b (by simp)
   omega
theorem zq54 {par gone : List Int} (ht : isTr par = true) (h : Gone par gone) (v : Int) (h0 : 1 ≤ v) (h1 : v ≤ par.length) (hv : leafB par gone v = false) (hg : v ∉ gone) : (leftOf par gone v).length ≠ 1 := by
 have hp := zq52 h v h0 h1 hg
 have : ∃ w, w ∈ kids par v ∧ w ∉ gone := by
  refine Classical.byContradiction fun hn => ?_
  have : leafB par gone v = true := (zq45 par gone v).2 ⟨hg, fun w hw => Classical.byContradiction fun h2 => hn ⟨w, hw, h2⟩⟩
  rw [hv] at this
  cases this
 obtain ⟨w, hw, hwg⟩ := this
 have m1 : rd par (v - 1) ∈ leftOf par gone v := List.mem_filter.2 ⟨(zq50 par v _ h0).2 (.inl rfl), by simpa using hp⟩
 have m2 : w ∈ leftOf par gone v := List.mem_filter.2 ⟨(zq50 par v _ h0).2 (.inr hw), by simpa using hwg⟩
 obtain ⟨k1, k2, k3⟩ := (zq36 par v w).1 hw
 have d1 := zq18 par ht v h0 h1
 have d2 := zq18 par ht w k1 k2
 rw [k3] at d2
 intro hl
 match e : leftOf par gone v, hl with
 | [a], _ =>
  rw [e, List.mem_singleton] at m1 m2
  rw [m1, ← m2] at d1
  omega

theorem rd_take (l : List Int) (k j : Nat) (h : j < k) (hk : k ≤ l.length) : rd (l.take k) (j : Int) = rd l (j : Int) := by
 rw [rd_nat, rd_nat, List.getD_eq_getElem?_getD, List.getD_eq_getElem?_getD, List.getElem?_take, if_pos h]
theorem in_take (l : List Int) (k : Nat) (hk : k ≤ l.length) (v : Int) : v ∈ l.take k ↔ ∃ j : Nat, j < k ∧ rd l (j : Int) = v := by
 constructor
 ·intro h
  obtain ⟨j, hj, e⟩ := in_rd _ v h
  rw [List.length_take] at hj
  rw [rd_take l k j (by omega) hk] at e
  exact ⟨j, by omega, e⟩
 ·rintro ⟨j, hj, e⟩
  rw [← e, ← rd_take l k j hj hk]
  exact rd_in _ j (by rw [List.length_take]; omega)
theorem in_drop (l : List Int) (k : Nat) (v : Int) : v ∈ l.drop k ↔ ∃ j : Nat, k ≤ j ∧ j < l.length ∧ rd l (j : Int) = v := by
 constructor
 ·intro h
  obtain ⟨j, hj, e⟩ := List.mem_iff_getElem.1 h
  rw [List.length_drop] at hj
  rw [List.getElem_drop] at e
  refine ⟨k + j, by omega, by omega, ?_⟩
  rw [rd_nat, List.getD_eq_getElem?_getD, List.getElem?_eq_getElem (by omega), e]
  rfl
 ·rintro ⟨j, h1, h2, e⟩
  rw [rd_nat, List.getD_eq_getElem?_getD, List.getElem?_eq_getElem h2] at e
  refine List.mem_iff_getElem.2 ⟨j - k, by rw [List.length_drop]; omega, ?_⟩
  rw [List.getElem_drop]
  have e2 : l[j] = v := e
  rw [← e2]
  congr 1
  omega
theorem Told.kid {n : Nat} {whole E T : List Int} (h : Told n whole E T) (v c : Int) : c ∈ kids T v ↔ ∃ j : Nat, j < n ∧ rd E (j : Int) = c ∧ rd whole (j : Int) = v := by
 rw [zq36, h.tlen]
 constructor
 ·rintro ⟨h1, h2, h3⟩
  obtain ⟨j, hj, e⟩ := h.sq.covers h.len c h1 h2
  refine ⟨j, hj, e, ?_⟩
  rw [← h.at_ j hj, e, h3]
 ·rintro ⟨j, hj, e, e2⟩
  have := h.sq.range _ (rd_in E j (by rw [h.len]; exact hj))
  rw [e] at this
  refine ⟨this.1, this.2, ?_⟩
  rw [← e, h.at_ j hj, e2]
theorem Told.leaf {n : Nat} {whole E T : List Int} (h : Told n whole E T) (hw : whole.length = n) (k : Nat) (hk : k ≤ n) (v : Int) : leafB T (E.take k) v = true ↔ v ∉ E.take k ∧ v ∉ whole.drop k := by
 rw [zq45]
 constructor
 ·rintro ⟨h1, h2⟩
  refine ⟨h1, fun hm => ?_⟩
  obtain ⟨j, h3, h4, h5⟩ := (in_drop whole k v).1 hm
  have := h2 (rd E (j : Int)) ((h.kid v _).2 ⟨j, by omega, rfl, h5⟩)
  obtain ⟨i, h6, h7⟩ := (in_take E k (by rw [h.len]; exact hk) _).1 this
  have := h.sq.inj (by rw [h.len]; omega) (by rw [h.len]; omega) h7
  omega
 ·rintro ⟨h1, h2⟩
  refine ⟨h1, fun c hc => ?_⟩
  obtain ⟨j, h3, h4, h5⟩ := (h.kid v c).1 hc
  refine (in_take E k (by rw [h.len]; exact hk) c).2 ⟨j, Classical.byContradiction fun hn => h2 ((in_drop whole k v).2 ⟨j, by omega, by omega, h5⟩), h4⟩
theorem Told.pick {n : Nat} {whole E T : List Int} (h : Told n whole E T) (hw : whole.length = n) (k : Nat) (hk : k ≤ n) : ∀ d : Nat, pickD T (E.take k) d = pk (E.take k) (whole.drop k) d
 | 0 => rfl
 | d + 1 => by
  have hl := h.leaf hw k hk ((d : Int) + 1)
  rw [pickD, pk, h.pick hw k hk d]
  by_cases c : ((d : Int) + 1) ∉ E.take k ∧ ((d : Int) + 1) ∉ whole.drop k
  ·rw [if_pos c, if_pos (hl.2 c)]
  ·rw [if_neg c, if_neg (fun h2 => c (hl.1 h2))]
theorem gseq_at (n : Nat) (whole : List Int) (hw : whole.length = n) : ∀ (d k : Nat) (gone : List Int), k + d = n → gone.length = k →
  (gseq n (whole.drop k) gone).length = n ∧ (gseq n (whole.drop k) gone).take k = gone ∧ ∀ j : Nat, k ≤ j → j < n → rd (gseq n (whole.drop k) gone) (j : Int) = pk ((gseq n (whole.drop k) gone).take j) (whole.drop j) n
 | 0, k, gone, hd, hg => by
  rw [List.drop_eq_nil_of_le (by omega), gseq]
  exact ⟨by omega, by rw [List.take_of_length_le (by omega)], fun j h1 h2 => by omega⟩
 | d + 1, k, gone, hd, hg => by
  obtain ⟨x, hx⟩ : ∃ x, whole.drop k = x :: whole.drop (k + 1) := ⟨whole[k]'(by omega), List.drop_eq_getElem_cons (by omega)⟩
  have ih := gseq_at n whole hw d (k + 1) (gone ++ [pk gone (whole.drop k) n]) (by omega) (by simp [hg])
  have e : gseq n (whole.drop k) gone = gseq n (whole.drop (k + 1)) (gone ++ [pk gone (whole.drop k) n]) := by
   rw [hx, gseq]
  rw [e]
  obtain ⟨i1, i2, i3⟩ := ih
  have tk : (gseq n (whole.drop (k + 1)) (gone ++ [pk gone (whole.drop k) n])).take k = gone := by
   have e9 : ∀ X : List Int, X.take k = (X.take (k + 1)).take k := fun X => by rw [List.take_take, Nat.min_eq_left (Nat.le_succ k)]
   rw [e9, i2, List.take_append_of_le_length (by omega), List.take_of_length_le (by omega)]
  refine ⟨i1, tk, fun j h1 h2 => ?_⟩
  by_cases c : j = k
  ·subst c
   rw [tk, ← rd_take _ (j + 1) j (by omega) (by omega), i2]
   have := zq12 gone (pk gone (whole.drop j) n)
   rw [hg] at this
   exact this
  ·exact i3 j (by omega) h2
theorem zq55 (n : Nat) (whole : List Int) (hw : whole.length = n) (G : List Int) (hl : G.length = n) (h : ∀ j : Nat, j < n → rd G (j : Int) = pk (G.take j) (whole.drop j) n) : gseq n whole [] = G := by
 obtain ⟨h1, _, h3⟩ := gseq_at n whole hw n 0 [] (by omega) rfl
 rw [List.drop_zero] at h1 h3
 have tk : ∀ j : Nat, j ≤ n → (gseq n whole []).take j = G.take j := by
  intro j
  induction j with
  | zero => intro _; rfl
  | succ j ih =>
   intro hj
   have ih := ih (by omega)
   have a := h3 j (by omega) (by omega)
   rw [ih, ← h j (by omega), rd_nat, rd_nat, List.getD_eq_getElem?_getD, List.getD_eq_getElem?_getD, List.getElem?_eq_getElem (by omega), List.getElem?_eq_getElem (by omega)] at a
   have a2 : (gseq n whole [])[j] = G[j] := a
   rw [List.take_succ_eq_append_getElem (by omega), List.take_succ_eq_append_getElem (by omega), ih, a2]
 have := tk n (Nat.le_refl _)
 rwa [List.take_of_length_le (by omega), List.take_of_length_le (by omega)] at this
theorem Told.tree {n : Nat} {word E T : List Int} (h : Told n (word ++ [0]) E T) (hw : word.length + 1 = n) (hx : ∀ x ∈ word, 0 ≤ x ∧ x ≤ n) (h8 : n ≤ 8) : isTr T = true := by
 have hl : (word ++ [0]).length = n := by simp; omega
 rw [zq17, h.tlen]
 have hcl : ∀ (q j : Nat), j + q = n → j < n → climb T q (rd E (j : Int)) = true := by
  intro q
  induction q using Nat.strongRecOn with
  | _ q ih =>
   intro j hj hjn
   have hr := h.sq.range _ (rd_in E j (by rw [h.len]; exact hjn))
   match q, hj with
   | 0, hj => omega
   | q + 1, hj =>
    rw [climb, if_pos (by omega), h.at_ j hjn]
    rcases h.later hw hx j hjn with h0 | ⟨i, h1, h2, h3⟩
    ·rw [h0, zq5]
     exact ⟨0, by omega, by simp [up]⟩
    ·have := ih (n - i) (by omega) i (by omega) h2
     rw [← h3]
     rw [zq5] at this ⊢
     obtain ⟨a, ha, hb⟩ := this
     exact ⟨a, by omega, hb⟩
 refine ⟨h8, fun x hm => ?_, fun a h0 h1 => ?_⟩
 ·obtain ⟨i, hi, e⟩ := in_rd T x hm
  rw [h.tlen] at hi
  obtain ⟨j, hj, e2⟩ := h.sq.covers h.len ((i : Int) + 1) (by omega) (by omega)
  have := h.at_ j hj
  rw [e2, show (i : Int) + 1 - 1 = (i : Int) by omega, e] at this
  have hm2 := rd_in (word ++ [0]) j (by omega)
  rw [← this] at hm2
  rcases List.mem_append.1 hm2 with h2 | h2
  ·exact hx x h2
  ·rw [List.mem_singleton] at h2; omega
 ·obtain ⟨j, hj, e⟩ := h.sq.covers h.len a h0 h1
  have := hcl (n - j) j (by omega) hj
  rw [e] at this
  rw [zq5] at this ⊢
  obtain ⟨i, hi, hb⟩ := this
  exact ⟨i, by omega, hb⟩
theorem zq56 {n : Nat} {word E T : List Int} (h : Told n (word ++ [0]) E T) (hw : word.length + 1 = n) (hE : ∀ j : Nat, j < n → rd E (j : Int) = pk (E.take j) ((word ++ [0]).drop j) n) : ∀ (s k : Nat), k + s = word.length → prufS T s (E.take k) (word.take k) = word
 | 0, k, hk => by rw [prufS, List.take_of_length_le (by omega)]
 | s + 1, k, hk => by
  have hl : (word ++ [0]).length = n := by simp; omega
  have hp := h.pick hl k (by omega) n
  rw [← hE k (by omega)] at hp
  have ih := zq56 h hw hE s (k + 1) (by omega)
  have hEl := h.len
  have e1 : E.take (k + 1) = E.take k ++ [rd E (k : Int)] := by
   rw [List.take_succ_eq_append_getElem (by omega), rd_nat, List.getD_eq_getElem?_getD, List.getElem?_eq_getElem (by omega)]
   rfl
  have e2 : word.take (k + 1) = word.take k ++ [rd (word ++ [0]) (k : Int)] := by
   rw [List.take_succ_eq_append_getElem (by omega), rd_nat, List.getD_eq_getElem?_getD, List.getElem?_append_left (by omega), List.getElem?_eq_getElem (by omega)]
   rfl
  rw [e1, e2] at ih
  rw [prufS, h.tlen, hp, h.at_ k (by omega)]
  exact ih
theorem zq57 (word : List Int) : prufS (treeS word) word.length [] [] = word := by
 have hat := gseq_at (word.length + 1) (word ++ [0]) (by simp) (word.length + 1) 0 [] (by omega) rfl
 rw [List.drop_zero] at hat
 exact zq56 (zq28 word) rfl (fun j hj => hat.2.2 j (by omega) hj) word.length 0 (by omega)
theorem zq58 (word : List Int) : (treeS word).length = word.length + 1 := (zq28 word).tlen
theorem zq59 (word : List Int) (hx : ∀ x ∈ word, 0 ≤ x ∧ x ≤ (word.length : Int) + 1) (h8 : word.length + 1 ≤ 8) : isTr (treeS word) = true :=
 (zq28 word).tree rfl (fun x h => by have := hx x h; omega) h8
def goneS (par : List Int) : Nat → List Int → List Int
 | 0, gone => gone
 | s + 1, gone => goneS par s (gone ++ [pickD par gone par.length])
theorem zq60 (par : List Int) (ht : isTr par = true) : ∀ (s k : Nat) (gone word : List Int), k + s = par.length → gone.length = k → Gone par gone → (∀ j : Nat, j < k → rd gone (j : Int) = pickD par (gone.take j) par.length) → word = gone.map (fun v => rd par (v - 1)) →
  (goneS par s gone).length = par.length ∧ Gone par (goneS par s gone) ∧ (∀ j : Nat, j < par.length → rd (goneS par s gone) (j : Int) = pickD par ((goneS par s gone).take j) par.length) ∧ prufS par s gone word = (goneS par s gone).map (fun v => rd par (v - 1))
 | 0, k, gone, word, hk, hl, hg, hp, hw => ⟨by rw [goneS]; omega, hg, fun j hj => hp j (by omega), by rw [prufS, goneS, hw]⟩
 | s + 1, k, gone, word, hk, hl, hg, hp, hw => by
  obtain ⟨u, hu, h1, h2⟩ := zq48 par gone ht (by omega)
  obtain ⟨p1, p2, p3⟩ := zq46 par gone u hu h1 par.length h2
  rw [goneS, prufS]
  refine zq60 par ht s (k + 1) _ _ (by omega) (by simp [hl]) (hg.add p1 p2 p3) (fun j hj => ?_) (by rw [hw, List.map_append]; rfl)
  by_cases c : j < k
  ·rw [zq11 _ _ _ (by omega), List.take_append_of_le_length (by omega)]
   exact hp j c
  ·obtain rfl : j = gone.length := by omega
   rw [zq12, List.take_append_of_le_length (Nat.le_refl _), List.take_length]
theorem rd_map (f : Int → Int) (l : List Int) (j : Nat) (h : j < l.length) : rd (l.map f) (j : Int) = f (rd l (j : Int)) := by
 rw [rd_nat, rd_nat, List.getD_eq_getElem?_getD, List.getD_eq_getElem?_getD, List.getElem?_map, List.getElem?_eq_getElem h]
 rfl
theorem zq61 (par : List Int) : ∀ (s : Nat) (gone word : List Int), ∃ g : List Int, prufS par (s + 1) gone word = prufS par s gone word ++ [rd par (pickD par g par.length - 1)]
 | 0, gone, word => ⟨gone, rfl⟩
 | s + 1, gone, word => by
  obtain ⟨g, h⟩ := zq61 par s (gone ++ [pickD par gone par.length]) (word ++ [rd par (pickD par gone par.length - 1)])
  exact ⟨g, by rw [prufS, h, prufS]⟩
theorem zq62 (par : List Int) (ht : isTr par = true) (hne : 1 ≤ par.length) : treeS (prufS par (par.length - 1) [] []) = par := by
 obtain ⟨h8, h20, _⟩ := (zq17 par).1 ht
 obtain ⟨g1, g2, g3, g4⟩ := zq60 par ht par.length 0 [] [] (by omega) rfl (Gone.none par) (fun j hj => by omega) rfl
 generalize hG : goneS par par.length [] = G at g1 g2 g3 g4
 obtain ⟨g, hs⟩ := zq61 par (par.length - 1) [] []
 have hwl : (prufS par (par.length - 1) [] []).length = par.length - 1 := by rw [zq49]; simp
 generalize hW : prufS par (par.length - 1) [] [] = word at hs hwl
 rw [show par.length - 1 + 1 = par.length by omega] at hs
 have hlast : rd par (rd G ((par.length - 1 : Nat) : Int) - 1) = 0 := by
  have hm := rd_in G (par.length - 1) (by omega)
  have hr := g2.range _ hm
  have hpr := h20 (rd par (rd G ((par.length - 1 : Nat) : Int) - 1)) (rd_mem par _ (by omega) (by omega))
  refine Classical.byContradiction fun hne0 => ?_
  -- the parent would be a node that is gone ahead of its child
  have hpm : rd par (rd G ((par.length - 1 : Nat) : Int) - 1) ∈ G := by
   refine Classical.byContradiction fun hn => ?_
   have := zq9 par.length (0 :: rd par (rd G ((par.length - 1 : Nat) : Int) - 1) :: G) (by
    refine List.nodup_cons.2 ⟨?_, List.nodup_cons.2 ⟨hn, g2.nd⟩⟩
    intro hz
    rcases List.mem_cons.1 hz with e | e
    ·exact hne0 e.symm
    ·have := g2.range 0 e; omega) (by
    intro w hw
    rcases List.mem_cons.1 hw with e | e
    ·omega
    ·rcases List.mem_cons.1 e with e | e
     ·omega
     ·have := g2.range w e; omega)
   simp at this
   omega
  obtain ⟨i, hi, e⟩ := in_rd G _ hpm
  have hpk := g3 i (by omega)
  have hlf : leafB par (G.take i) (rd G (i : Int)) = true := by
   have hgi : (G.take i).length < par.length := by rw [List.length_take]; omega
   obtain ⟨u, hu, h1, h2⟩ := zq48 par (G.take i) ht hgi
   have := (zq46 par (G.take i) u hu h1 par.length h2).1
   rwa [← hpk] at this
  have hc := ((zq45 par _ _).1 hlf).2 (rd G ((par.length - 1 : Nat) : Int)) ((zq36 par _ _).2 ⟨hr.1, hr.2, e.symm⟩)
  obtain ⟨j, hj, e2⟩ := (in_take G i (by omega) _).1 hc
  rw [rd_nat, rd_nat, List.getD_eq_getElem?_getD, List.getD_eq_getElem?_getD, List.getElem?_eq_getElem (by omega), List.getElem?_eq_getElem (by omega)] at e2
  exact zq8 g2.nd (show j < par.length - 1 by omega) (by omega) e2
 have hwhole : word ++ [0] = G.map (fun v => rd par (v - 1)) := by
  rw [← g4, hs]
  congr 1
  have e1 : rd (prufS par par.length [] []) ((par.length - 1 : Nat) : Int) = 0 := by
   rw [g4, rd_map _ _ _ (by omega)]
   exact hlast
  rw [hs] at e1
  have := zq12 word (rd par (pickD par g par.length - 1))
  rw [hwl] at this
  rw [← e1, this]
 have hT : Told par.length (word ++ [0]) G par := by
  refine ⟨⟨g2.nd, g2.range, by omega, fun j hj hm => ?_⟩, g1, rfl, fun j hj => ?_⟩
  ·rw [hwhole] at hm
   obtain ⟨i, h1, h2, h3⟩ := (in_drop _ _ _).1 hm
   rw [List.length_map] at h2
   rw [rd_map _ _ _ h2] at h3
   have hpk := g3 j (by omega)
   have hlf : leafB par (G.take j) (rd G (j : Int)) = true := by
    have hgi : (G.take j).length < par.length := by rw [List.length_take]; omega
    obtain ⟨u, hu, h5, h6⟩ := zq48 par (G.take j) ht hgi
    have := (zq46 par (G.take j) u hu h5 par.length h6).1
    rwa [← hpk] at this
   have hr := g2.range _ (rd_in G i h2)
   have hc := ((zq45 par _ _).1 hlf).2 (rd G (i : Int)) ((zq36 par _ _).2 ⟨hr.1, hr.2, h3⟩)
   obtain ⟨q, hq, e2⟩ := (in_take G j (by omega) _).1 hc
   rw [rd_nat, rd_nat, List.getD_eq_getElem?_getD, List.getD_eq_getElem?_getD, List.getElem?_eq_getElem (by omega), List.getElem?_eq_getElem (by omega)] at e2
   exact zq8 g2.nd (show q < i by omega) (by omega) e2
  ·rw [hwhole, rd_map _ _ _ (by omega)]
 have hgs : gseq par.length (word ++ [0]) [] = G := zq55 par.length (word ++ [0]) (by simp; omega) G g1 fun j hj => by
  rw [g3 j hj, hT.pick (by simp; omega) j (by omega)]
 have hts := zq28 word
 rw [show word.length + 1 = par.length by omega, hgs] at hts
 exact (hts.unique rfl hT.at_).symm
theorem cnt_set (p : Int → Bool) : ∀ (l : List Int) (i : Nat) (x : Int), i < l.length → cnt p (l.set i x) + (if p (rd l (i : Int)) = true then 1 else 0) = cnt p l + (if p x = true then 1 else 0)
 | [], i, x, h => by simp at h
 | a :: t, 0, x, h => by
  simp only [List.set_cons_zero, cnt]
  have : rd (a :: t) ((0 : Nat) : Int) = a := rfl
  rw [this]
  omega
 | a :: t, i + 1, x, h => by
  have ih := cnt_set p t i x (by simp at h; omega)
  have e : rd (a :: t) ((i + 1 : Nat) : Int) = rd t (i : Int) := by
   rw [rd_nat, rd_nat]
   rfl
  simp only [List.set_cons_succ, cnt]
  rw [e]
  omega
theorem zq63 (n : Nat) (word : List Int) (hw : word.length + 1 = n) (v : Int) (hv : 0 ≤ v) : ∀ (d : Nat) (gone out : List Int), gone.length + d = n → Sq n (word ++ [0]) gone → OutOk n (word ++ [0]) gone out →
  cnt (fun p => decide (p = v)) (outS n ((word ++ [0]).drop gone.length) gone out) = cnt (fun p => decide (p = v)) out + cnt (fun p => decide (p = v)) ((word ++ [0]).drop gone.length)
 | 0, gone, out, hd, hs, ho => by
  have hl : (word ++ [0]).length = n := by simp; omega
  rw [List.drop_eq_nil_of_le (by omega), outS, cnt, Int.add_zero]
 | d + 1, gone, out, hd, hs, ho => by
  have hl : (word ++ [0]).length = n := by simp; omega
  obtain ⟨s1, s2, s3, s4⟩ := hs.step hw (by omega)
  have hc : (word ++ [0]).drop gone.length = rd (word ++ [0]) (gone.length : Int) :: (word ++ [0]).drop (gone.length + 1) := by
   rw [List.drop_eq_getElem_cons (by omega), rd_nat, List.getD_eq_getElem?_getD, List.getElem?_eq_getElem (by omega)]
   rfl
  have ih := zq63 n word hw v hv d (gone ++ [pk gone ((word ++ [0]).drop gone.length) n]) (out.set (pk gone ((word ++ [0]).drop gone.length) n - 1).toNat (rd (word ++ [0]) (gone.length : Int))) (by simp; omega) s1 (ho.step hs s2 s3 s4)
  rw [List.length_append, List.length_singleton] at ih
  have hset := cnt_set (fun p => decide (p = v)) out (pk gone ((word ++ [0]).drop gone.length) n - 1).toNat (rd (word ++ [0]) (gone.length : Int)) (by have := ho.len; omega)
  have hlf := ho.left _ s3 s4 s2
  have e9 : ∀ z : Int, 1 ≤ z → (((z - 1).toNat : Nat) : Int) = z - 1 := fun z hz => by omega
  rw [e9 _ s3, hlf] at hset
  rw [if_neg (show ¬ decide ((-1 : Int) = v) = true by simp; omega)] at hset
  rw [hc] at ih hset ⊢
  rw [outS, ih, cnt]
  omega
theorem zq64 (word : List Int) (v : Int) (hv : 0 ≤ v) : cnt (fun p => decide (p = v)) (treeS word) = cnt (fun p => decide (p = v)) (word ++ [0]) := by
 have h := zq63 (word.length + 1) word rfl v hv (word.length + 1) [] (List.replicate (word.length + 1) (-1)) (by simp) (Sq.none _ _) ⟨by simp, by simp, by
  intro u h0 h1 _
  unfold rd
  rw [List.getD_eq_getElem?_getD, List.getElem?_replicate, if_pos (by omega)]
  rfl⟩
 rw [List.length_nil, List.drop_zero] at h
 have hz : cnt (fun p => decide (p = v)) (List.replicate (word.length + 1) (-1)) = 0 := (zq44 v _).2 fun hm => by
  have := (List.mem_replicate.1 hm).2
  omega
 rw [hz, Int.zero_add] at h
 exact h

def idxOf (x : Int) : List Int → Int → Int
 | [], _ => -1
 | h :: t, i => if x = h then i else idxOf x t (i + 1)
theorem zq65 (x : Int) : ∀ (l : List Int) (i : Int), 0 ≤ i → (x ∈ l → i ≤ idxOf x l i ∧ idxOf x l i < i + l.length ∧ rd l (idxOf x l i - i) = x) ∧ (x ∉ l → idxOf x l i = -1)
 | [], i, _ => by simp [idxOf]
 | h :: t, i, hi => by
  have ih := zq65 x t (i + 1) (by omega)
  have e : ((h :: t).length : Int) = (t.length : Int) + 1 := by simp
  by_cases c : x = h
  ·refine ⟨fun _ => ?_, fun hn => absurd (by simp [c]) hn⟩
   rw [idxOf, if_pos c, e]
   refine ⟨by omega, by omega, ?_⟩
   rw [Int.sub_self, c]
   rfl
  ·rw [idxOf, if_neg c, e]
   refine ⟨fun hm => ?_, fun hn => ih.2 (fun hm => hn (by simp [hm]))⟩
   obtain ⟨h1, h2, h3⟩ := ih.1 (by simpa [c] using hm)
   refine ⟨by omega, by omega, ?_⟩
   have h4 : rd (h :: t) (idxOf x t (i + 1) - i) = rd t (idxOf x t (i + 1) - (i + 1)) := by
    unfold rd
    rw [show (idxOf x t (i + 1) - i).toNat = (idxOf x t (i + 1) - (i + 1)).toNat + 1 by omega, List.getD_cons_succ]
   rw [h4, h3]
theorem zq66 (x : Int) : ∀ (t p : List Int), p.length + t.length ≤ 35184372088832 →
  Ev (fun k => slices_Index_int_int.l0 k (p ++ t) x ((p ++ t).length : Int) (p.length : Int)) (idxOf x t p.length)
 | [], p, _ => by
  refine Ev.ret fun k => ?_
  rw [slices_Index_int_int.l0, if_neg (by simp)]
  rfl
 | h :: t, p, hn => by
  have hn' : p.length + t.length + 1 ≤ 35184372088832 := by simpa [Nat.add_assoc] using hn
  have hm := len_mid p h t
  by_cases c : x = h
  ·rw [idxOf, if_pos c]
   refine Ev.ret fun k => ?_
   rw [slices_Index_int_int.l0, if_pos (by omega), if_pos (by omega), if_pos (by omega), rd_mid, if_pos c]
  ·have ih := zq66 x t (p ++ [h]) (by simp; omega)
   rw [zq1, zq0] at ih
   rw [idxOf, if_neg c]
   refine Ev.step (fun k => ?_) ih
   show slices_Index_int_int.l0 (k + 1) (p ++ h :: t) x ((p ++ h :: t).length : Int) (p.length : Int) = _
   rw [slices_Index_int_int.l0, if_pos (by omega), if_pos (by omega), if_pos (by omega), rd_mid, if_neg c, w64 (by omega) (by omega)]
theorem zq67 (l : List Int) (x : Int) (hl : l.length ≤ 35184372088832) : Ev (fun k => slices_Index_int_int.f k l x) (idxOf x l 0) :=
 zq66 x l [] (by simpa using hl)

theorem zq68 (l : List Int) (x : Int) (hl : l.length ≤ 35184372088832) : Ev (fun k => slices_Contains_int_int.f k l x) (decide (x ∈ l)) := by
 have e : decide (idxOf x l 0 ≥ 0) = decide (x ∈ l) := by
  have h := zq65 x l 0 (by omega)
  refine decide_eq_decide.2 ⟨fun h1 => ?_, fun h1 => (h.1 h1).1⟩
  by_cases c : x ∈ l
  ·exact c
  ·rw [h.2 c] at h1; omega
 rw [← e]
 exact Ev.congr (fun k => rfl) (Ev.bind (zq67 l x hl) (Ev.now _))

theorem zq69 (l : List Int) (h : l.length < 17592186044416) : slices_Clone_int_int.f l = some l := by
 unfold slices_Clone_int_int.f
 simp only [Option.bind_some]
 rw [if_pos (by simp; omega)]
 simp

theorem zq70 (q : Int → Bool) : ∀ (t p : List Int), p.length + t.length ≤ 35184372088832 →
  ∃ r : Int, decide (r ≥ 0) = t.any q ∧ Ev (fun k => slices_IndexFunc_int_int.l0 q k (p ++ t) ((p ++ t).length : Int) (p.length : Int)) r
 | [], p, _ => by
  refine ⟨-1, by simp, Ev.ret fun k => ?_⟩
  rw [slices_IndexFunc_int_int.l0, if_neg (by simp)]
 | h :: t, p, hn => by
  have hn' : p.length + t.length + 1 ≤ 35184372088832 := by simpa [Nat.add_assoc] using hn
  have hm := len_mid p h t
  cases c : q h with
  | true =>
   refine ⟨p.length, by simp [c], Ev.ret fun k => ?_⟩
   rw [slices_IndexFunc_int_int.l0, if_pos (by omega), if_pos (by omega), if_pos (by omega), rd_mid, c, Option.bind_some, if_pos rfl]
  | false =>
   obtain ⟨r, hr, ih⟩ := zq70 q t (p ++ [h]) (by simp; omega)
   rw [zq1, zq0] at ih
   refine ⟨r, by simpa [c] using hr, Ev.step (fun k => ?_) ih⟩
   show slices_IndexFunc_int_int.l0 q (k + 1) (p ++ h :: t) ((p ++ h :: t).length : Int) (p.length : Int) = _
   rw [slices_IndexFunc_int_int.l0, if_pos (by omega), if_pos (by omega), if_pos (by omega), rd_mid, c, Option.bind_some, if_neg (by simp), w64 (by omega) (by omega)]
theorem zq71 (q : Int → Bool) (l : List Int) (hl : l.length ≤ 35184372088832) : Ev (fun k => slices_ContainsFunc_int_int.f q k l) (l.any q) := by
 obtain ⟨r, hr, h⟩ := zq70 q l [] (by simpa using hl)
 rw [← hr]
 exact Ev.congr (fun k => rfl) (Ev.bind h (Ev.now _))

theorem zq72 (a b c : Int) : impl_between.f a b c = some (decide (b ≤ a) && decide (a ≤ c)) := by
 unfold impl_between.f
 by_cases h : a ≥ b
 ·rw [if_pos h]; simp [show b ≤ a from h]
 ·rw [if_neg h]; simp [show ¬ b ≤ a from h]

theorem zq73 (l : List Int) (lo hi : Int) (hl : l.length ≤ 35184372088832) : Ev (fun k => impl_areBetween.f k l lo hi) (inAll lo hi l) := by
 have e : (!(l.any (impl_areBetween_1.p lo hi))) = inAll lo hi l := by
  have hp : ∀ n, impl_areBetween_1.p lo hi n = !(decide (lo ≤ n) && decide (n ≤ hi)) := fun n => by
   simp [impl_areBetween_1.p, zq72]
  unfold inAll
  induction l with
  | nil => rfl
  | cons x t ih =>
   rw [List.any_cons, List.all_cons, Bool.not_or, ih (by simp at hl; omega), hp, Bool.not_not]
 rw [← e]
 exact Ev.congr (fun k => rfl) (Ev.bind (zq71 (impl_areBetween_1.p lo hi) l hl) (Ev.now _))

theorem zq74 (a b c : Int) : spec_l1In.f a b c = some (decide (b ≤ a) && decide (a ≤ c)) := by
 unfold spec_l1In.f
 by_cases h : a ≥ b
 ·rw [if_pos h]; simp [show b ≤ a from h]
 ·rw [if_neg h]; simp [show ¬ b ≤ a from h]

theorem zq75 (lo hi : Int) : ∀ (t p : List Int), p.length + t.length ≤ 35184372088832 →
  Ev (fun k => spec_l1All.l0 k lo hi (p ++ t) ((p ++ t).length : Int) (p.length : Int)) (inAll lo hi t)
 | [], p, _ => by
  refine Ev.ret fun k => ?_
  rw [spec_l1All.l0, if_neg (by simp)]
  rfl
 | h :: t, p, hn => by
  have hn' : p.length + t.length + 1 ≤ 35184372088832 := by simpa [Nat.add_assoc] using hn
  have hm := len_mid p h t
  rw [zq3]
  cases c : decide (lo ≤ h) && decide (h ≤ hi) with
  | true =>
   have ih := zq75 lo hi t (p ++ [h]) (by simp; omega)
   rw [zq1, zq0] at ih
   rw [Bool.true_and]
   refine Ev.step (fun k => ?_) ih
   show spec_l1All.l0 (k + 1) lo hi (p ++ h :: t) ((p ++ h :: t).length : Int) (p.length : Int) = _
   rw [spec_l1All.l0, if_pos (by omega), if_pos (by omega), if_pos (by omega), rd_mid, zq74, c, Option.bind_some, if_pos rfl, w64 (by omega) (by omega)]
  | false =>
   rw [Bool.false_and]
   refine Ev.ret fun k => ?_
   rw [spec_l1All.l0, if_pos (by omega), if_pos (by omega), if_pos (by omega), rd_mid, zq74, c]
   rfl
theorem zq76 (l : List Int) (lo hi : Int) (hl : l.length ≤ 35184372088832) : Ev (fun k => spec_l1All.f k l lo hi) (inAll lo hi l) :=
 zq75 lo hi l [] (by simpa using hl)

theorem OutOk.sign {n : Nat} {whole gone out : List Int} (h : OutOk n whole gone out) (hs : gone.length ≤ whole.length) (hx : ∀ x ∈ whole, 0 ≤ x) (v : Int) (h0 : 1 ≤ v) (h1 : v ≤ n) : rd out (v - 1) ≥ 0 ↔ v ∈ gone := by
 constructor
 ·intro hp
  refine Classical.byContradiction fun hn => ?_
  have := h.left v h0 h1 hn
  omega
 ·intro hm
  obtain ⟨j, hj, e⟩ := in_rd gone v hm
  have := h.told j hj
  rw [e] at this
  rw [this]
  exact hx _ (rd_in whole j (by omega))
theorem zq77 (n : Nat) (hn : n ≤ 1000) (whole gone out : List Int) (hw : whole.length = n) (ho : OutOk n whole gone out) (hgl : gone.length ≤ n) (hx : ∀ x ∈ whole, 0 ≤ x) (k : Nat) (hk : k ≤ n) (x m : Int) (u : Int) (h1 : 1 ≤ u) (hu : u ∉ gone ∧ u ∉ whole.drop k) (r : List Int) : ∀ d : Nat, u ≤ d → d ≤ n →
  Ev (fun kk => impl_treeOfPrufer.l0 kk (n : Int) (out.set (pk gone (whole.drop k) d - 1).toNat x) whole whole m ((k : Int) + 1)) r →
  Ev (fun kk => impl_treeOfPrufer.l1 kk (n : Int) out whole (k : Int) x (d : Int) whole m (k : Int)) r
 | 0, h, _, _ => by omega
 | d + 1, h, hd, H => by
  have ed : ((d + 1 : Nat) : Int) = (d : Int) + 1 := by omega
  rw [ed]
  have hol := ho.len
  have less : ((d : Int) + 1 ∈ gone ∨ (d : Int) + 1 ∈ whole.drop k) → u ≤ d := fun hm => by
   refine Classical.byContradiction fun h2 => ?_
   have e : u = (d : Int) + 1 := by omega
   rw [e] at hu
   rcases hm with h3 | h3
   ·exact hu.1 h3
   ·exact hu.2 h3
  have ih := fun c => zq77 n hn whole gone out hw ho hgl hx k hk x m u h1 hu r d c (by omega)
  have hsg := ho.sign (by omega) hx ((d : Int) + 1) (by omega) (by omega)
  rw [show (d : Int) + 1 - 1 = (d : Int) by omega] at hsg
  rw [pk] at H
  by_cases g : (d : Int) + 1 ∈ gone
  ·rw [if_neg (fun h2 => h2.1 g)] at H
   refine Ev.step (fun kk => ?_) (ih (less (.inl g)) H)
   show impl_treeOfPrufer.l1 (kk + 1) (n : Int) out whole (k : Int) x ((d : Int) + 1) whole m (k : Int) = _
   rw [impl_treeOfPrufer.l1, w64 (x := (d : Int) + 1 - 1) (by omega) (by omega), show (d : Int) + 1 - 1 = (d : Int) by omega, if_pos (by omega), if_pos (by omega), if_pos (hsg.2 g)]
  ·have hneg : ¬ rd out (d : Int) ≥ 0 := fun hp => g (hsg.1 hp)
   by_cases g2 : (d : Int) + 1 ∈ whole.drop k
   ·rw [if_neg (fun h2 => h2.2 g2)] at H
    refine Ev.step (fun kk => by rw [impl_treeOfPrufer.l1, w64 (x := (d : Int) + 1 - 1) (by omega) (by omega), show (d : Int) + 1 - 1 = (d : Int) by omega, if_pos (by omega), if_pos (by omega), if_neg hneg, if_pos (by omega), if_pos (by omega), Int.toNat_natCast]) (Ev.bind (zq68 (whole.drop k) _ (by simp; omega)) ?_)
    exact Ev.congr (fun kk => by rw [if_pos (by simpa using g2)]) (ih (less (.inr g2)) H)
   ·rw [if_pos ⟨g, g2⟩, show (d : Int) + 1 - 1 = (d : Int) by omega] at H
    refine Ev.step (fun kk => by rw [impl_treeOfPrufer.l1, w64 (x := (d : Int) + 1 - 1) (by omega) (by omega), show (d : Int) + 1 - 1 = (d : Int) by omega, if_pos (by omega), if_pos (by omega), if_neg hneg, if_pos (by omega), if_pos (by omega), Int.toNat_natCast]) (Ev.bind (zq68 (whole.drop k) _ (by simp; omega)) ?_)
    exact Ev.congr (fun kk => by rw [if_neg (by simpa using g2), w64 (by omega) (by omega)]) H
theorem zq78 (n : Nat) (hn : n ≤ 1000) (word : List Int) (hw : word.length + 1 = n) (hx : ∀ x ∈ word ++ [0], 0 ≤ x) : ∀ (d : Nat) (gone out : List Int), gone.length + d = n → Sq n (word ++ [0]) gone → OutOk n (word ++ [0]) gone out →
  Ev (fun kk => impl_treeOfPrufer.l0 kk (n : Int) out (word ++ [0]) (word ++ [0]) ((word ++ [0]).length : Int) (gone.length : Int)) (outS n ((word ++ [0]).drop gone.length) gone out)
 | 0, gone, out, hd, hs, ho => by
  have hl : (word ++ [0]).length = n := by simp; omega
  rw [List.drop_eq_nil_of_le (by omega), outS]
  exact Ev.ret fun kk => by rw [impl_treeOfPrufer.l0, if_neg (by omega)]
 | d + 1, gone, out, hd, hs, ho => by
  have hl : (word ++ [0]).length = n := by simp; omega
  obtain ⟨s1, s2, s3, s4⟩ := hs.step hw (by omega)
  have hc : (word ++ [0]).drop gone.length = rd (word ++ [0]) (gone.length : Int) :: (word ++ [0]).drop (gone.length + 1) := by
   rw [List.drop_eq_getElem_cons (by omega), rd_nat, List.getD_eq_getElem?_getD, List.getElem?_eq_getElem (by omega)]
   rfl
  have ih := zq78 n hn word hw hx d (gone ++ [pk gone ((word ++ [0]).drop gone.length) n]) (out.set (pk gone ((word ++ [0]).drop gone.length) n - 1).toNat (rd (word ++ [0]) (gone.length : Int))) (by simp; omega) s1 (ho.step hs s2 s3 s4)
  have el : (gone ++ [pk gone ((word ++ [0]).drop gone.length) n]).length = gone.length + 1 := by simp
  rw [el, show ((gone.length + 1 : Nat) : Int) = (gone.length : Int) + 1 by omega] at ih
  have e : outS n ((word ++ [0]).drop gone.length) gone out = outS n ((word ++ [0]).drop (gone.length + 1)) (gone ++ [pk gone ((word ++ [0]).drop gone.length) n]) (out.set (pk gone ((word ++ [0]).drop gone.length) n - 1).toNat (rd (word ++ [0]) (gone.length : Int))) := by
   rw [hc, outS]
  rw [e]
  obtain ⟨u, u0, u1, u2, u3⟩ := free_pk n gone (word.drop gone.length) (by rw [List.length_drop]; omega)
  have hdr : (word ++ [0]).drop gone.length = word.drop gone.length ++ [0] := by rw [List.drop_append_of_le_length (by omega)]
  rw [← hdr] at u3
  refine Ev.step (fun kk => by rw [impl_treeOfPrufer.l0, if_pos (by omega), if_pos (by omega), if_pos (by omega)]) (zq77 n hn (word ++ [0]) gone out hl ho (by omega) hx gone.length (by omega) _ _ u u0 ⟨u2, u3⟩ _ n u1 (Nat.le_refl _) ih)
theorem zq79 (word : List Int) (hw : word.length ≤ 900) (hx : ∀ x ∈ word, 0 ≤ x) : Ev (fun kk => impl_treeOfPrufer.f kk word) (treeS word) := by
 have z := zq78 (word.length + 1) (by omega) word rfl (fun x h => by
  rcases List.mem_append.1 h with h2 | h2
  ·exact hx x h2
  ·rw [List.mem_singleton] at h2; omega) (word.length + 1) [] (List.replicate (word.length + 1) (-1)) (by simp) (Sq.none _ _) ⟨by simp, by simp, by
  intro u h0 h1 _
  unfold rd
  rw [List.getD_eq_getElem?_getD, List.getElem?_replicate, if_pos (by omega)]
  rfl⟩
 rw [List.length_nil, List.drop_zero] at z
 have hr : slices_Repeat_int_int.f [(-1)] (wrap64 ((word.length : Int) + 1)) = some (List.replicate (word.length + 1) (-1)) := by
  rw [w64 (by omega) (by omega), slices_Repeat_int_int.f, if_pos (show ([(-1)] : List Int).length = 1 from rfl), if_pos (by omega), if_pos (by omega), show ((word.length : Int) + 1).toNat = word.length + 1 by omega]
  rfl
 refine Ev.congr (fun kk => by rw [impl_treeOfPrufer.f, hr, Option.bind_some, zq69 word (by omega), Option.bind_some, if_pos (by omega), Option.bind_some, w64 (by omega) (by omega), show (word.length : Int) + 1 = ((word.length + 1 : Nat) : Int) by omega]; rfl) z
def tpR (l : List Int) : List Int × Bool := if l.length < 8 ∧ inAll 0 ((l.length : Int) + 1) l = true then (treeS l, true) else ([], false)
theorem zq80 (l : List Int) (hl : l.length ≤ 35184372088832) : Ev (fun k => spec_TreeOfPrufer.f k l) (tpR l) ∧ Ev (fun k => impl_TreeOfPrufer.f k l) (tpR l) := by
 unfold tpR
 by_cases h8 : (l.length : Int) ≥ 8
 ·rw [if_neg (by omega)]
  exact ⟨Ev.congr (fun k => by rw [spec_TreeOfPrufer.f, if_pos h8]) (Ev.now _), Ev.congr (fun k => by rw [impl_TreeOfPrufer.f, if_pos h8]) (Ev.now _)⟩
 ·have hs := zq76 l 0 ((l.length : Int) + 1) (by omega)
  have hi := zq73 l 0 ((l.length : Int) + 1) (by omega)
  cases c : inAll 0 ((l.length : Int) + 1) l with
  | false =>
   rw [c] at hs hi
   rw [if_neg (by simp)]
   refine ⟨?_, ?_⟩
   ·exact Ev.congr (fun k => by rw [spec_TreeOfPrufer.f, if_neg h8, w64 (by omega) (by omega)]) (Ev.bind hs (Ev.congr (fun k => by rw [if_neg (by simp)]) (Ev.now _)))
   ·exact Ev.congr (fun k => by rw [impl_TreeOfPrufer.f, if_neg h8, w64 (by omega) (by omega)]) (Ev.bind hi (Ev.congr (fun k => by rw [if_neg (by simp)]) (Ev.now _)))
  | true =>
   have hin := (zq2 _ _ _).1 c
   rw [c] at hs hi
   rw [if_pos ⟨by omega, rfl⟩]
   refine ⟨?_, ?_⟩
   ·exact Ev.congr (fun k => by rw [spec_TreeOfPrufer.f, if_neg h8, w64 (by omega) (by omega)]) (Ev.bind hs (Ev.congr (fun k => by rw [if_pos rfl]) (Ev.bind (zq29 l (by omega) hin) (Ev.now _))))
   ·exact Ev.congr (fun k => by rw [impl_TreeOfPrufer.f, if_neg h8, w64 (by omega) (by omega)]) (Ev.bind hi (Ev.congr (fun k => by rw [if_pos rfl]) (Ev.bind (zq79 l (by omega) (fun x h => (hin x h).1)) (Ev.now _))))
theorem zq81 (par : List Int) (n : Int) (hn : n = par.length) (hn8 : par.length ≤ 8) (hp : ∀ x ∈ par, 0 ≤ x ∧ x ≤ par.length) (w i : Int) (r : Bool) (r' : Bool) : ∀ (m : Nat) (a s : Int), 0 ≤ a → a ≤ n → 0 ≤ s → s + m = n →
  Ev (fun k => spec_trGood.l0 k par n w (wrap64 (i + 1))) r → (r' = (climb par m a && r)) → Ev (fun k => spec_trGood.l1 k par n a s w i) r'
 | 0, a, s, h0, h1, hs, hm, h, e => by
  subst e
  simp only [climb]
  by_cases c : a > 0
  ·rw [decide_eq_false (by omega), Bool.false_and]
   refine Ev.ret fun k => ?_
   rw [spec_trGood.l1, if_pos c, if_pos (by omega)]
  ·rw [decide_eq_true (by omega), Bool.true_and]
   refine Ev.step (fun k => ?_) h
   show spec_trGood.l1 (k + 1) par n a s w i = _
   rw [spec_trGood.l1, if_neg c]
 | m + 1, a, s, h0, h1, hs, hm, h, e => by
  subst e
  by_cases c : a > 0
  ·rw [climb, if_pos c]
   have hr : rd par (a - 1) ∈ par := by
    unfold rd
    rw [List.getD_eq_getElem?_getD, List.getElem?_eq_getElem (by omega)]
    exact List.getElem_mem _
   have hb := hp _ hr
   refine Ev.step (fun k => ?_) (zq81 par n hn hn8 hp w i r _ m (rd par (a - 1)) (s + 1) hb.1 (by omega) (by omega) (by omega) h rfl)
   show spec_trGood.l1 (k + 1) par n a s w i = _
   rw [spec_trGood.l1, if_pos c, if_neg (by omega), w64 (x := a - 1) (by omega) (by omega), if_pos (by omega), if_pos (by omega), w64 (by omega) (by omega)]
  ·rw [climb, if_neg c, Bool.true_and]
   refine Ev.step (fun k => ?_) h
   show spec_trGood.l1 (k + 1) par n a s w i = _
   rw [spec_trGood.l1, if_neg c]
theorem zq82 (par : List Int) (hn8 : par.length ≤ 8) (hp : ∀ x ∈ par, 0 ≤ x ∧ x ≤ par.length) : ∀ (d i : Nat), i + d = par.length →
  Ev (fun k => spec_trGood.l0 k par (par.length : Int) (par.length : Int) (i : Int)) ((List.range' i d).all fun j => climb par par.length ((j : Int) + 1))
 | 0, i, hi => by
  refine Ev.ret fun k => ?_
  rw [spec_trGood.l0, if_neg (by omega)]
  rfl
 | d + 1, i, hi => by
  have ih := zq82 par hn8 hp d (i + 1) (by omega)
  refine Ev.step (fun k => ?_) (zq81 par (par.length : Int) rfl hn8 hp (par.length : Int) (i : Int) ((List.range' (i + 1) d).all fun j => climb par par.length ((j : Int) + 1)) _ par.length ((i : Int) + 1) 0 (by omega) (by omega) (by omega) (by omega) ?_ ?_)
  ·show spec_trGood.l0 (k + 1) par (par.length : Int) (par.length : Int) (i : Int) = _
   rw [spec_trGood.l0, if_pos (by omega), w64 (by omega) (by omega)]
  ·rw [w64 (by omega) (by omega)]
   exact ih
  ·rw [List.range'_succ, List.all_cons]
theorem zq83 (par : List Int) (hl : par.length ≤ 35184372088832) : Ev (fun k => spec_trGood.f k par) (isTr par) := by
 by_cases c8 : par.length ≤ 8
 ·cases c : inAll 0 par.length par with
  | false =>
   have e : isTr par = false := by simp [isTr, c]
   rw [e]
   refine Ev.congr (fun k => by rw [spec_trGood.f, if_neg (by omega)]) ?_
   refine Ev.bind (zq76 par 0 par.length hl) ?_
   rw [c]
   exact Ev.ret fun k => by rw [spec_trGood.j0]; rfl
  | true =>
   have hp := (zq2 _ _ _).1 c
   have e : isTr par = (List.range' 0 par.length).all fun j => climb par par.length ((j : Int) + 1) := by
    simp [isTr, c, c8, List.range_eq_range']
   rw [e]
   refine Ev.congr (fun k => by rw [spec_trGood.f, if_neg (by omega)]) ?_
   refine Ev.bind (zq76 par 0 par.length hl) ?_
   rw [c]
   refine Ev.step (fun k => by rw [spec_trGood.j0, if_neg (by simp)]) ?_
   exact zq82 par c8 hp par.length 0 (by omega)
 ·have e : isTr par = false := by simp [isTr, c8]
  rw [e]
  refine Ev.congr (fun k => by rw [spec_trGood.f, if_pos (by omega)]) ?_
  exact Ev.ret fun k => by rw [spec_trGood.j0, if_pos rfl]

theorem zq84 (a : Int) : impl_isCars.f a = some (decide (0 ≤ a) && decide (a ≤ 8)) := by
 unfold impl_isCars.f
 rw [zq72]
 rfl

theorem zq85 (par : List Int) (n : Int) (hn : n = par.length) (hn8 : par.length ≤ 8) (hp : ∀ x ∈ par, 0 ≤ x ∧ x ≤ par.length) (w i : Int) (r : Bool) (r' : Bool) : ∀ (m : Nat) (a s : Int), 0 ≤ a → a ≤ n → 0 ≤ s → s + m = n + 1 →
  Ev (fun k => impl_isTree.l0 k par n w (wrap64 (i + 1))) r → (r' = (climb par m a && r)) → Ev (fun k => impl_isTree.l1 k par n a s w i) r'
 | 0, a, s, h0, h1, hs, hm, h, e => by
  subst e
  simp only [climb]
  by_cases c : a > 0
  ·rw [decide_eq_false (by omega), Bool.false_and]
   refine Ev.ret fun k => ?_
   rw [impl_isTree.l1, if_pos c, if_pos (by omega)]
  ·rw [decide_eq_true (by omega), Bool.true_and]
   refine Ev.step (fun k => ?_) h
   show impl_isTree.l1 (k + 1) par n a s w i = _
   rw [impl_isTree.l1, if_neg c]
 | m + 1, a, s, h0, h1, hs, hm, h, e => by
  subst e
  by_cases c : a > 0
  ·rw [climb, if_pos c]
   have hr : rd par (a - 1) ∈ par := by
    unfold rd
    rw [List.getD_eq_getElem?_getD, List.getElem?_eq_getElem (by omega)]
    exact List.getElem_mem _
   have hb := hp _ hr
   refine Ev.step (fun k => ?_) (zq85 par n hn hn8 hp w i r _ m (rd par (a - 1)) (s + 1) hb.1 (by omega) (by omega) (by omega) h rfl)
   show impl_isTree.l1 (k + 1) par n a s w i = _
   rw [impl_isTree.l1, if_pos c, if_neg (by omega), w64 (x := a - 1) (by omega) (by omega), if_pos (by omega), if_pos (by omega), w64 (by omega) (by omega)]
  ·rw [climb, if_neg c, Bool.true_and]
   refine Ev.step (fun k => ?_) h
   show impl_isTree.l1 (k + 1) par n a s w i = _
   rw [impl_isTree.l1, if_neg c]
theorem zq86 (par : List Int) (hn8 : par.length ≤ 8) (hp : ∀ x ∈ par, 0 ≤ x ∧ x ≤ par.length) : ∀ (d i : Nat), i + d = par.length →
  Ev (fun k => impl_isTree.l0 k par (par.length : Int) (par.length : Int) (i : Int)) ((List.range' i d).all fun j => climb par par.length ((j : Int) + 1))
 | 0, i, hi => by
  refine Ev.ret fun k => ?_
  rw [impl_isTree.l0, if_neg (by omega)]
  rfl
 | d + 1, i, hi => by
  have ih := zq86 par hn8 hp d (i + 1) (by omega)
  refine Ev.step (fun k => ?_) (zq85 par (par.length : Int) rfl hn8 hp (par.length : Int) (i : Int) ((List.range' (i + 1) d).all fun j => climb par par.length ((j : Int) + 1)) _ (par.length + 1) ((i : Int) + 1) 0 (by omega) (by omega) (by omega) (by omega) ?_ ?_)
  ·show impl_isTree.l0 (k + 1) par (par.length : Int) (par.length : Int) (i : Int) = _
   rw [impl_isTree.l0, if_pos (by omega), w64 (by omega) (by omega)]
  ·rw [w64 (by omega) (by omega)]
   exact ih
  ·rw [List.range'_succ, List.all_cons]
   congr 1
   rw [Bool.eq_iff_iff]
   exact ⟨zq4 par _ _, zq7 par hp _ (by omega) (by omega)⟩
theorem zq87 (par : List Int) (hl : par.length ≤ 35184372088832) : Ev (fun k => impl_isTree.f k par) (isTr par) := by
 by_cases c8 : par.length ≤ 8
 ·have d8 : (decide ((0 : Int) ≤ par.length) && decide ((par.length : Int) ≤ 8)) = true := by
   rw [Bool.and_eq_true, decide_eq_true_eq, decide_eq_true_eq]; omega
  cases c : inAll 0 par.length par with
  | false =>
   have e : isTr par = false := by simp [isTr, c]
   rw [e]
   refine Ev.congr (fun k => by rw [impl_isTree.f, zq84, d8, Option.bind_some, if_pos rfl]) ?_
   refine Ev.bind (zq73 par 0 par.length hl) ?_
   rw [c]
   exact Ev.ret fun k => by rw [impl_isTree.j0]; rfl
  | true =>
   have hp := (zq2 _ _ _).1 c
   have e : isTr par = (List.range' 0 par.length).all fun j => climb par par.length ((j : Int) + 1) := by
    simp [isTr, c, c8, List.range_eq_range']
   rw [e]
   refine Ev.congr (fun k => by rw [impl_isTree.f, zq84, d8, Option.bind_some, if_pos rfl]) ?_
   refine Ev.bind (zq73 par 0 par.length hl) ?_
   rw [c]
   refine Ev.step (fun k => by rw [impl_isTree.j0, if_neg (by simp)]) ?_
   exact zq86 par c8 hp par.length 0 (by omega)
 ·have e : isTr par = false := by simp [isTr, c8]
  have d8 : (decide ((0 : Int) ≤ par.length) && decide ((par.length : Int) ≤ 8)) = false := by
   rw [Bool.and_eq_false_iff]; right; exact decide_eq_false (by omega)
  rw [e]
  refine Ev.congr (fun k => by rw [impl_isTree.f, zq84, d8, Option.bind_some, if_neg (by simp)]) ?_
  exact Ev.ret fun k => by rw [impl_isTree.j0, if_pos rfl]

theorem zq88 (n : Int) : ∀ (t p : List Int), p.length + t.length ≤ 1000 →
  Ev (fun k => spec_l1Put.l0 k (p ++ t) n (p.length : Int)) (p ++ putS n t)
 | [], p, hn => by
  have hn' : p.length ≤ 1000 := by simpa using hn
  refine Ev.ret fun k => ?_
  rw [spec_l1Put.l0, if_neg (by simp)]
  simp only [Option.bind_some]
  rw [if_pos (by omega), if_pos (by simp), if_pos (by simp; omega), if_pos (by simp; omega), if_pos (by simp; omega)]
  simp [putS]
 | h :: t, p, hn => by
  have hn' : p.length + t.length + 1 ≤ 1000 := by simpa [Nat.add_assoc] using hn
  have hm := len_mid p h t
  by_cases c : h < n
  ·have ih := zq88 n t (p ++ [h]) (by simp; omega)
   rw [zq1, zq0] at ih
   have e : p ++ putS n (h :: t) = p ++ [h] ++ putS n t := by rw [putS, if_pos c]; simp
   rw [e]
   refine Ev.step (fun k => ?_) ih
   show spec_l1Put.l0 (k + 1) (p ++ h :: t) n (p.length : Int) = _
   rw [spec_l1Put.l0, if_pos (by omega), if_pos (by omega), rd_mid, if_pos c, w64 (by omega) (by omega)]
  ·refine Ev.ret fun k => ?_
   rw [spec_l1Put.l0, if_pos (by omega), if_pos (by omega), rd_mid, if_neg c, putS, if_neg c]
   by_cases d : h = n
   ·rw [if_pos d, if_pos d]
   ·rw [if_neg d, if_neg d]
    simp only [Option.bind_some]
    rw [if_pos (by omega), if_pos (by simp; omega), if_pos (by simp; omega), if_pos (by simp; omega)]
    simp
theorem zq89 (l : List Int) (n : Int) (hl : l.length ≤ 1000) : Ev (fun k => spec_l1Put.f k l n) (putS n l) :=
 zq88 n l [] (by simpa using hl)
theorem zq90 (node : Int) : ∀ (t p out : List Int), p.length + t.length ≤ 400 → out.length + t.length ≤ 900 →
  Ev (fun k => spec_trNear.l0 k node out (p ++ t) ((p ++ t).length : Int) (p.length : Int)) (nearFrom node out p.length t)
 | [], p, out, _, _ => by
  refine Ev.ret fun k => ?_
  rw [spec_trNear.l0, if_neg (by simp)]
  rfl
 | h :: t, p, out, hn, ho => by
  have hn' : p.length + t.length + 1 ≤ 400 := by simpa [Nat.add_assoc] using hn
  have ho' : out.length + t.length + 1 ≤ 900 := by simpa [Nat.add_assoc] using ho
  have hm := len_mid p h t
  by_cases c : h = node
  ·have hl := zq39 ((p.length : Int) + 1) out
   have ih := zq90 node t (p ++ [h]) (putS ((p.length : Int) + 1) out) (by simp; omega) (by omega)
   rw [zq1, zq0] at ih
   rw [nearFrom, if_pos c]
   refine Ev.step (f := fun k => (spec_l1Put.f k out ((p.length : Int) + 1)).bind fun z => spec_trNear.l0 k node z (p ++ h :: t) ((p ++ h :: t).length : Int) ((p.length : Int) + 1)) (fun k => ?_) (Ev.bind (zq89 out _ (by omega)) ih)
   rw [spec_trNear.l0, if_pos (by omega), if_pos (by omega), if_pos (by omega), rd_mid, if_pos c, w64 (by omega) (by omega)]
  ·have ih := zq90 node t (p ++ [h]) out (by simp; omega) (by omega)
   rw [zq1, zq0] at ih
   rw [nearFrom, if_neg c]
   refine Ev.step (fun k => ?_) ih
   show spec_trNear.l0 (k + 1) node out (p ++ h :: t) ((p ++ h :: t).length : Int) (p.length : Int) = _
   rw [spec_trNear.l0, if_pos (by omega), if_pos (by omega), if_pos (by omega), rd_mid, if_neg c, w64 (by omega) (by omega)]
theorem zq91 (par : List Int) (node : Int) (hl : par.length ≤ 400) (h0 : 0 ≤ node) (h1 : node ≤ par.length) : Ev (fun k => spec_trNear.f k par node) (near par node) := by
 by_cases c : node > 0
 ·refine Ev.congr (fun k => by rw [spec_trNear.f, if_pos c, w64 (by omega) (by omega), if_pos (by omega), if_pos (by omega), if_pos (by simp)]) ?_
  refine Ev.step (fun k => by rw [spec_trNear.j0]) ?_
  have := zq90 node par [] [rd par (node - 1)] (by simpa using hl) (by simp; omega)
  rw [near, if_pos c]
  exact this
 ·refine Ev.congr (fun k => by rw [spec_trNear.f, if_neg c]) ?_
  refine Ev.step (fun k => by rw [spec_trNear.j0]) ?_
  have := zq90 node par [] [] (by simpa using hl) (by simp; omega)
  rw [near, if_neg c]
  exact this

theorem zq92 (gone : List Int) (hg : gone.length ≤ 1000) : ∀ (t p out : List Int), p.length + t.length ≤ 1000 → out.length ≤ p.length →
  Ev (fun k => spec_trLeft.l0 k gone out (p ++ t) ((p ++ t).length : Int) (p.length : Int)) (out ++ t.filter fun x => !decide (x ∈ gone))
 | [], p, out, _, _ => by
  refine Ev.ret fun k => ?_
  rw [spec_trLeft.l0, if_neg (by simp)]
  simp
 | h :: t, p, out, hn, ho => by
  have hn' : p.length + t.length + 1 ≤ 1000 := by simpa [Nat.add_assoc] using hn
  have hm := len_mid p h t
  refine Ev.step (f := fun k => (spec_l1Has.f k gone h).bind fun z => if z = true then spec_trLeft.l0 k gone out (p ++ h :: t) ((p ++ h :: t).length : Int) ((p.length : Int) + 1) else if out.length < 17592186044416 then spec_trLeft.l0 k gone (out ++ [h]) (p ++ h :: t) ((p ++ h :: t).length : Int) ((p.length : Int) + 1) else none) (fun k => ?_) (Ev.bind (zq20 gone h (by omega)) ?_)
  ·rw [spec_trLeft.l0, if_pos (by omega), if_pos (by omega), if_pos (by omega), rd_mid, w64 (by omega) (by omega)]
  ·by_cases c : h ∈ gone
   ·have ih := zq92 gone hg t (p ++ [h]) out (by simp; omega) (by simp; omega)
    rw [zq1 p h t, zq0 p h] at ih
    rw [List.filter_cons_of_neg (by simpa using c)]
    exact Ev.congr (fun k => by rw [if_pos (by simpa using c)]) ih
   ·have ih := zq92 gone hg t (p ++ [h]) (out ++ [h]) (by simp; omega) (by simp; omega)
    rw [zq1 p h t, zq0 p h] at ih
    rw [List.filter_cons_of_pos (by simpa using c)]
    have e : out ++ h :: t.filter (fun x => !decide (x ∈ gone)) = out ++ [h] ++ t.filter (fun x => !decide (x ∈ gone)) := by simp
    rw [e]
    exact Ev.congr (fun k => by rw [if_neg (by simpa using c), if_pos (by omega)]) ih
theorem zq93 (par : List Int) (v : Int) : (near par v).length ≤ par.length + 1 := by
 have := zq41 v par (if v > 0 then [rd par (v - 1)] else []) 0
 rw [near]
 split at this <;> rename_i c
 ·rw [if_pos c]; simp at this; omega
 ·rw [if_neg c]; simp at this; omega
theorem zq94 (par gone word : List Int) (ht : isTr par = true) (h : Gone par gone) (hgl : gone.length ≤ 100) (hwl : word.length ≤ 100) (u : Int) (hu : leafB par gone u = true) (h1 : 1 ≤ u) (r : List Int) : ∀ d : Nat, u ≤ d → d ≤ par.length →
  Ev (fun k => spec_trPrufer.l0 k par (word ++ [rd par (pickD par gone d - 1)]) (gone ++ [pickD par gone d])) r →
  Ev (fun k => spec_trPrufer.l1 k par word gone (d : Int)) r
 | 0, hd, _, _ => by omega
 | d + 1, hd, hdn, H => by
  obtain ⟨h8, _, _⟩ := (zq17 par).1 ht
  have ed : ((d + 1 : Nat) : Int) = (d : Int) + 1 := by omega
  have hnl := zq93 par ((d : Int) + 1)
  rw [ed]
  refine Ev.step (f := fun k => (spec_trNear.f k par ((d : Int) + 1)).bind fun t170 => (spec_trLeft.f k t170 gone).bind fun t173 => (spec_l1Has.f k gone ((d : Int) + 1)).bind fun t176 => if t176 = true then spec_trPrufer.l1 k par word gone (wrap64 ((d : Int) + 1 - 1)) else if (t173.length : Int) = 1 then (if 0 < (t173.length : Int) then (if word.length < 17592186044416 then (if gone.length < 17592186044416 then spec_trPrufer.l0 k par (word ++ [rd t173 0]) (gone ++ [(d : Int) + 1]) else none) else none) else none) else spec_trPrufer.l1 k par word gone (wrap64 ((d : Int) + 1 - 1))) (fun k => ?_) ?_
  ·rw [spec_trPrufer.l1, if_pos (by omega)]
  refine Ev.bind (zq91 par ((d : Int) + 1) (by omega) (by omega) (by omega)) ?_
  refine Ev.bind (zq92 gone (by omega) (near par ((d : Int) + 1)) [] [] (by simp; omega) (by simp)) ?_
  refine Ev.bind (zq20 gone ((d : Int) + 1) (by omega)) ?_
  rw [w64 (by omega) (by omega), show (d : Int) + 1 - 1 = (d : Int) by omega, List.nil_append]
  cases c : leafB par gone ((d : Int) + 1) with
  | true =>
   rw [pickD, if_pos c] at H
   have h2 := ((zq45 par gone _).1 c).1
   have h3 := zq53 h ((d : Int) + 1) (by omega) (by omega) c
   unfold leftOf at h3
   rw [h3]
   refine Ev.congr (fun k => ?_) H
   show (if decide (((d : Int) + 1) ∈ gone) = true then _ else _) = _
   rw [if_neg (by simpa using h2), if_pos (by simp), if_pos (by simp), if_pos (by omega), if_pos (by omega)]
   rfl
  | false =>
   rw [pickD, if_neg (by simp [c])] at H
   have hud : u ≤ d := by
    refine Classical.byContradiction fun h2 => ?_
    have : u = (d : Int) + 1 := by omega
    rw [this, c] at hu
    cases hu
   have ih := zq94 par gone word ht h hgl hwl u hu h1 r d hud (by omega) H
   by_cases g : ((d : Int) + 1) ∈ gone
   ·exact Ev.congr (fun k => by rw [if_pos (by simpa using g)]) ih
   ·have h3 := zq54 ht h ((d : Int) + 1) (by omega) (by omega) c g
    unfold leftOf at h3
    exact Ev.congr (fun k => by rw [if_neg (by simpa using g), if_neg (by omega)]) ih
theorem zq95 (par : List Int) (ht : isTr par = true) (hne : 1 ≤ par.length) : ∀ (s : Nat) (gone word : List Int), Gone par gone → gone.length = word.length → word.length + s = par.length - 1 →
  Ev (fun k => spec_trPrufer.l0 k par word gone) (prufS par s gone word)
 | 0, gone, word, h, hl, hs => by
  obtain ⟨h8, _, _⟩ := (zq17 par).1 ht
  refine Ev.ret fun k => ?_
  rw [spec_trPrufer.l0, w64 (by omega) (by omega), if_neg (by omega), prufS]
 | s + 1, gone, word, h, hl, hs => by
  obtain ⟨h8, _, _⟩ := (zq17 par).1 ht
  obtain ⟨u, hu, h1, h2⟩ := zq48 par gone ht (by omega)
  obtain ⟨p1, p2, p3⟩ := zq46 par gone u hu h1 par.length h2
  have ih := zq95 par ht hne s (gone ++ [pickD par gone par.length]) (word ++ [rd par (pickD par gone par.length - 1)]) (h.add p1 p2 p3) (by simp [hl]) (by simp; omega)
  rw [prufS]
  refine Ev.step (f := fun k => spec_trPrufer.l1 k par word gone (par.length : Int)) (fun k => ?_) ?_
  ·rw [spec_trPrufer.l0, w64 (by omega) (by omega), if_pos (by omega)]
  ·exact zq94 par gone word ht h (by omega) (by omega) u hu h1 _ par.length h2 (Nat.le_refl _) ih
theorem zq96 (par : List Int) (ht : isTr par = true) (hne : 1 ≤ par.length) : Ev (fun k => spec_trPrufer.f k par) (prufS par (par.length - 1) [] []) :=
 zq95 par ht hne (par.length - 1) [] [] (Gone.none par) rfl (by simp)

def Lf (par gone left : List Int) : Prop := left.length = par.length ∧ ∀ v : Int, 1 ≤ v → v ≤ par.length → rd left (v - 1) = if v ∈ gone then -1 else rd par (v - 1)
theorem Lf.add {par gone left : List Int} (h : Lf par gone left) (v : Int) (h0 : 1 ≤ v) (h1 : v ≤ par.length) : Lf par (gone ++ [v]) (left.set (v - 1).toNat (-1)) := by
 refine ⟨by simp [h.1], fun u h2 h3 => ?_⟩
 have hl := h.1
 have := rd_set left (v - 1).toNat (u - 1).toNat (-1) (by omega)
 rw [show (((u - 1).toNat : Nat) : Int) = u - 1 by omega] at this
 rw [this, h.2 u h2 h3]
 by_cases c : u = v
 ·rw [if_pos (by rw [c]), if_pos (by simp [c])]
 ·rw [if_neg (by omega)]
  by_cases g : u ∈ gone
  ·rw [if_pos g, if_pos (by simp [g])]
  ·rw [if_neg g, if_neg (by simp [g, c])]
theorem Lf.mem {par gone left : List Int} (h : Lf par gone left) (v : Int) (h0 : 1 ≤ v) : v ∈ left ↔ ∃ c, c ∈ kids par v ∧ c ∉ gone := by
 constructor
 ·intro hm
  obtain ⟨i, hi, e⟩ := List.mem_iff_getElem.1 hm
  have hr : rd left (((i : Int) + 1) - 1) = v := by
   rw [show ((i : Int) + 1) - 1 = (i : Int) by omega, rd_nat, List.getD_eq_getElem?_getD, List.getElem?_eq_getElem hi, e]; rfl
  have hl := h.1
  have h2 := h.2 ((i : Int) + 1) (by omega) (by omega)
  rw [hr] at h2
  by_cases g : ((i : Int) + 1) ∈ gone
  ·rw [if_pos g] at h2; omega
  ·rw [if_neg g] at h2
   exact ⟨(i : Int) + 1, (zq36 par v _).2 ⟨by omega, by omega, h2.symm⟩, g⟩
 ·rintro ⟨c, hc, g⟩
  obtain ⟨h1, h2, h3⟩ := (zq36 par v c).1 hc
  have h4 := h.2 c h1 h2
  rw [if_neg g, h3] at h4
  have hl := h.1
  rw [← h4]
  exact rd_mem left (c - 1) (by omega) (by omega)
theorem zq97 (par gone left word : List Int) (ht : isTr par = true) (hlf : Lf par gone left) (hwl : word.length ≤ 100) (x20 : Int) (i : Nat) (hi : i ≤ 1000) (u : Int) (hu : leafB par gone u = true) (h1 : 1 ≤ u) (r : List Int × Bool) : ∀ d : Nat, u ≤ d → d ≤ par.length →
  Ev (fun k => impl_PruferOf.l0 k (left.set (pickD par gone d - 1).toNat (-1)) (word ++ [rd par (pickD par gone d - 1)]) x20 ((i : Int) + 1)) r →
  Ev (fun k => impl_PruferOf.l1 k left word (d : Int) x20 (i : Int)) r
 | 0, hd, _, _ => by omega
 | d + 1, hd, hdn, H => by
  obtain ⟨h8, h20, _⟩ := (zq17 par).1 ht
  have ed : ((d + 1 : Nat) : Int) = (d : Int) + 1 := by omega
  have hl := hlf.1
  have hv := hlf.2 ((d : Int) + 1) (by omega) (by omega)
  rw [show (d : Int) + 1 - 1 = (d : Int) by omega] at hv
  have hpr := h20 (rd par d) (rd_mem par d (by omega) (by omega))
  have hmm := hlf.mem ((d : Int) + 1) (by omega)
  have hlb := zq45 par gone ((d : Int) + 1)
  rw [ed]
  have ih := fun c => zq97 par gone left word ht hlf hwl x20 i hi u hu h1 r d c (by omega)
  cases c : leafB par gone ((d : Int) + 1) with
  | true =>
   rw [pickD, if_pos c, show (d : Int) + 1 - 1 = (d : Int) by omega] at H
   obtain ⟨h2, h3⟩ := hlb.1 c
   rw [if_neg h2] at hv
   have hnm : ((d : Int) + 1) ∉ left := fun hm => by
    obtain ⟨w, hw, g⟩ := hmm.1 hm
    exact g (h3 w hw)
   refine Ev.step (f := fun k => (slices_Contains_int_int.f k left ((d : Int) + 1)).bind fun t213 => if t213 = true then impl_PruferOf.l1 k left word (d : Int) x20 (i : Int) else if word.length < 17592186044416 then impl_PruferOf.l0 k (left.set (d : Int).toNat (-1)) (word ++ [rd left (d : Int)]) x20 ((i : Int) + 1) else none) (fun k => ?_) (Ev.bind (zq68 left _ (by omega)) ?_)
   ·rw [impl_PruferOf.l1, w64 (by omega) (by omega), show (d : Int) + 1 - 1 = (d : Int) by omega, if_pos (by omega), if_pos (by omega), if_neg (by omega), w64 (by omega) (by omega)]
   ·rw [hv]
    exact Ev.congr (fun k => by rw [if_neg (by simpa using hnm), if_pos (by omega)]) H
  | false =>
   rw [pickD, if_neg (by simp [c])] at H
   have hud : u ≤ d := by
    refine Classical.byContradiction fun h2 => ?_
    have : u = (d : Int) + 1 := by omega
    rw [this, c] at hu
    cases hu
   have ih := ih hud H
   by_cases g : ((d : Int) + 1) ∈ gone
   ·rw [if_pos g] at hv
    refine Ev.step (fun k => ?_) ih
    show impl_PruferOf.l1 (k + 1) left word ((d : Int) + 1) x20 (i : Int) = _
    rw [impl_PruferOf.l1, w64 (by omega) (by omega), show (d : Int) + 1 - 1 = (d : Int) by omega, if_pos (by omega), if_pos (by omega), if_pos (by omega)]
   ·rw [if_neg g] at hv
    have hm : ((d : Int) + 1) ∈ left := by
     refine hmm.2 (Classical.byContradiction fun hn => ?_)
     have : leafB par gone ((d : Int) + 1) = true := hlb.2 ⟨g, fun w hw => Classical.byContradiction fun h2 => hn ⟨w, hw, h2⟩⟩
     rw [c] at this
     cases this
    refine Ev.step (f := fun k => (slices_Contains_int_int.f k left ((d : Int) + 1)).bind fun t213 => if t213 = true then impl_PruferOf.l1 k left word (d : Int) x20 (i : Int) else if word.length < 17592186044416 then impl_PruferOf.l0 k (left.set (d : Int).toNat (-1)) (word ++ [rd left (d : Int)]) x20 ((i : Int) + 1) else none) (fun k => ?_) (Ev.bind (zq68 left _ (by omega)) ?_)
    ·rw [impl_PruferOf.l1, w64 (by omega) (by omega), show (d : Int) + 1 - 1 = (d : Int) by omega, if_pos (by omega), if_pos (by omega), if_neg (by omega), w64 (by omega) (by omega)]
    ·exact Ev.congr (fun k => by rw [if_pos (by simpa using hm)]) ih
theorem zq98 (par : List Int) (ht : isTr par = true) (hne : 1 ≤ par.length) : ∀ (s : Nat) (i : Nat) (gone left word : List Int), Gone par gone → Lf par gone left → gone.length = i → word.length = i → i + s = par.length - 1 →
  Ev (fun k => impl_PruferOf.l0 k left word ((par.length : Int) - 1) (i : Int)) (prufS par s gone word, true)
 | 0, i, gone, left, word, h, hlf, hl, hw, hs => by
  obtain ⟨h8, _, _⟩ := (zq17 par).1 ht
  refine Ev.ret fun k => ?_
  rw [impl_PruferOf.l0, if_neg (by omega), prufS]
 | s + 1, i, gone, left, word, h, hlf, hl, hw, hs => by
  obtain ⟨h8, _, _⟩ := (zq17 par).1 ht
  obtain ⟨u, hu, h1, h2⟩ := zq48 par gone ht (by omega)
  obtain ⟨p1, p2, p3⟩ := zq46 par gone u hu h1 par.length h2
  have ih := zq98 par ht hne s (i + 1) (gone ++ [pickD par gone par.length]) _ (word ++ [rd par (pickD par gone par.length - 1)]) (h.add p1 p2 p3) (hlf.add _ p2 p3) (by simp [hl]) (by simp [hw]) (by omega)
  rw [show ((i + 1 : Nat) : Int) = (i : Int) + 1 by omega] at ih
  rw [prufS]
  refine Ev.step (f := fun k => impl_PruferOf.l1 k left word (left.length : Int) ((par.length : Int) - 1) (i : Int)) (fun k => ?_) ?_
  ·rw [impl_PruferOf.l0, if_pos (by omega)]
  ·rw [hlf.1]
   exact zq97 par gone left word ht hlf (by omega) _ i (by omega) u hu h1 _ par.length h2 (Nat.le_refl _) ih

def prR (l : List Int) : List Int × Bool := if isTr l = true ∧ 1 ≤ l.length then (prufS l (l.length - 1) [] [], true) else ([], false)
theorem zq99 (l : List Int) (hl : l.length ≤ 35184372088832) : Ev (fun k => spec_PruferOf.f k l) (prR l) ∧ Ev (fun k => impl_PruferOf.f k l) (prR l) := by
 unfold prR
 cases c : isTr l with
 | false =>
  rw [if_neg (by simp)]
  refine ⟨?_, ?_⟩
  ·refine Ev.congr (fun k => rfl) (Ev.bind (zq83 l hl) ?_)
   rw [c]; exact Ev.now _
  ·refine Ev.congr (fun k => rfl) (Ev.bind (zq87 l hl) ?_)
   rw [c]
   refine Ev.congr (fun k => by rw [if_neg (by simp)]) ?_
   exact Ev.ret fun k => by rw [impl_PruferOf.j0, if_pos rfl]
 | true =>
  obtain ⟨h8, h2, _⟩ := (zq17 l).1 c
  by_cases h0 : (l.length : Int) = 0
  ·rw [if_neg (by omega)]
   refine ⟨?_, ?_⟩
   ·refine Ev.congr (fun k => rfl) (Ev.bind (zq83 l hl) ?_)
    rw [c]
    exact Ev.congr (fun k => by rw [if_pos rfl, if_pos h0]) (Ev.now _)
   ·refine Ev.congr (fun k => rfl) (Ev.bind (zq87 l hl) ?_)
    rw [c]
    refine Ev.congr (fun k => by rw [if_pos rfl]) ?_
    exact Ev.ret fun k => by rw [impl_PruferOf.j0, if_pos (by simpa using h0)]
  ·rw [if_pos ⟨rfl, by omega⟩]
   refine ⟨?_, ?_⟩
   ·refine Ev.congr (fun k => rfl) (Ev.bind (zq83 l hl) ?_)
    rw [c]
    refine Ev.congr (fun k => by rw [if_pos rfl, if_neg h0]) ?_
    exact Ev.bind (zq96 l c (by omega)) (Ev.now _)
   ·refine Ev.congr (fun k => rfl) (Ev.bind (zq87 l hl) ?_)
    rw [c]
    refine Ev.congr (fun k => by rw [if_pos rfl]) ?_
    refine Ev.step (f := fun k => impl_PruferOf.l0 k l [] ((l.length : Int) - 1) 0) (fun k => ?_) ?_
    ·rw [impl_PruferOf.j0, if_neg (by simpa using h0), zq69 l (by omega), Option.bind_some, w64 (by omega) (by omega)]
    ·exact zq98 l c (by omega) (l.length - 1) 0 [] l [] (Gone.none l) ⟨rfl, fun v _ _ => by simp⟩ rfl rfl (by omega)
theorem zq100 (q : Int → Bool) : ∀ (t p out : List Int), p.length + t.length ≤ 1000000 → out.length ≤ p.length →
  Ev (fun k => impl_indices.l0 q k out (p ++ t) ((p ++ t).length : Int) (p.length : Int)) (out ++ places q t p.length)
 | [], p, out, _, _ => by
  refine Ev.ret fun k => ?_
  rw [impl_indices.l0, if_neg (by simp)]
  simp [places]
 | h :: t, p, out, hn, ho => by
  have hn' : p.length + t.length + 1 ≤ 1000000 := by simpa [Nat.add_assoc] using hn
  have hm := len_mid p h t
  cases c : q h with
  | true =>
   have ih := zq100 q t (p ++ [h]) (out ++ [(p.length : Int)]) (by simp; omega) (by simp; omega)
   rw [zq1, zq0] at ih
   have e : out ++ places q (h :: t) p.length = out ++ [(p.length : Int)] ++ places q t (p.length + 1) := by rw [places, if_pos c]; simp
   rw [e]
   refine Ev.step (fun k => ?_) ih
   show impl_indices.l0 q (k + 1) out (p ++ h :: t) ((p ++ h :: t).length : Int) (p.length : Int) = _
   rw [impl_indices.l0, if_pos (by omega), if_pos (by omega), if_pos (by omega), rd_mid, c, Option.bind_some, if_pos rfl, if_pos (by omega), w64 (by omega) (by omega)]
  | false =>
   have ih := zq100 q t (p ++ [h]) out (by simp; omega) (by simp; omega)
   rw [zq1, zq0] at ih
   have e : out ++ places q (h :: t) p.length = out ++ places q t (p.length + 1) := by rw [places, if_neg (by simp [c])]
   rw [e]
   refine Ev.step (fun k => ?_) ih
   show impl_indices.l0 q (k + 1) out (p ++ h :: t) ((p ++ h :: t).length : Int) (p.length : Int) = _
   rw [impl_indices.l0, if_pos (by omega), if_pos (by omega), if_pos (by omega), rd_mid, c, Option.bind_some, if_neg (by simp), w64 (by omega) (by omega)]
theorem zq101 (q : Int → Bool) (l : List Int) (hl : l.length ≤ 1000000) : Ev (fun k => impl_indices.f q k l) (places q l 0) := by
 have := zq100 q l [] [] (by simpa using hl) (by simp)
 exact this

theorem zq102 : ∀ (t p out : List Int), p.length + t.length ≤ 1000000 → out.length ≤ p.length → (∀ x ∈ t, 0 ≤ x ∧ x ≤ 4611686018427387904) →
  Ev (fun k => impl_children.l0 k out (p ++ t) ((p ++ t).length : Int) (p.length : Int)) (out ++ t.map (· + 1))
 | [], p, out, _, _, _ => by
  refine Ev.ret fun k => ?_
  rw [impl_children.l0, if_neg (by simp)]
  simp
 | h :: t, p, out, hn, ho, hx => by
  have hn' : p.length + t.length + 1 ≤ 1000000 := by simpa [Nat.add_assoc] using hn
  have hm := len_mid p h t
  have hh := hx h (by simp)
  have ih := zq102 t (p ++ [h]) (out ++ [h + 1]) (by simp; omega) (by simp; omega) (fun x h1 => hx x (by simp [h1]))
  rw [zq1, zq0] at ih
  have e : out ++ (h :: t).map (· + 1) = out ++ [h + 1] ++ t.map (· + 1) := by simp
  rw [e]
  refine Ev.step (fun k => ?_) ih
  show impl_children.l0 (k + 1) out (p ++ h :: t) ((p ++ h :: t).length : Int) (p.length : Int) = _
  rw [impl_children.l0, if_pos (by omega), if_pos (by omega), if_pos (by omega), rd_mid, if_pos (by omega), w64 (by omega) (by omega), w64 (by omega) (by omega)]
theorem zq103 (par : List Int) (v : Int) (hl : par.length ≤ 1000000) : Ev (fun k => impl_children.f k par v) (kids par v) := by
 have h1 : Ev (fun k => impl_children_1.f k par v) (places (fun p => decide (p = v)) par 0) := zq101 (impl_children_1.p v) par hl
 refine Ev.congr (fun k => rfl) (Ev.bind h1 ?_)
 have hlen : (places (fun p => decide (p = v)) par 0).length ≤ 1000000 := by
  have a := zq32 (fun p => decide (p = v)) par 0
  have b := zq30 (fun p => decide (p = v)) par
  omega
 refine zq102 (places (fun p => decide (p = v)) par 0) [] [] (by simpa using hlen) (by simp) fun x hx => ?_
 obtain ⟨j, w, h2, _, e⟩ := (zq33 _ _ _ _).1 hx
 have := (List.getElem?_eq_some_iff.1 h2).1
 omega

def degS (par : List Int) : Nat → Nat → List Int
 | 0, _ => []
 | d + 1, i => ((kids par i).length + (if (i : Int) > 0 then 1 else 0) : Int) :: degS par d (i + 1)
theorem zq104 (par : List Int) : ∀ (d i : Nat), (degS par d i).length = d
 | 0, _ => rfl
 | d + 1, i => by rw [degS, List.length_cons, zq104 par d]
theorem zq105 (par : List Int) : ∀ (d i j : Nat), j < d → (degS par d i).getD j 0 = ((kids par ((i + j : Nat) : Int)).length + (if ((i + j : Nat) : Int) > 0 then 1 else 0) : Int)
 | 0, i, j, h => by omega
 | d + 1, i, j, h => by
  rw [degS]
  cases j with
  | zero => rfl
  | succ j => rw [List.getD_cons_succ, zq105 par d (i + 1) j (by omega), show i + 1 + j = i + (j + 1) by omega]
theorem zq106 (par : List Int) (h8 : par.length ≤ 8) : ∀ (d i : Nat) (out : List Int), i + d = par.length + 1 → out.length ≤ i →
  Ev (fun k => impl_DegreesOf.l0 k par out ((par.length : Int) + 1) (i : Int)) (out ++ degS par d i, true)
 | 0, i, out, hi, ho => Ev.ret fun k => by rw [impl_DegreesOf.l0, if_neg (by omega), degS, List.append_nil]
 | d + 1, i, out, hi, ho => by
  have hk := zq35 par (i : Int)
  have hr := zq30 (fun p => decide (p = (i : Int))) par
  have ih := zq106 par h8 d (i + 1) (out ++ [((kids par i).length + (if (i : Int) > 0 then 1 else 0) : Int)]) (by omega) (by simp; omega)
  rw [show ((i + 1 : Nat) : Int) = (i : Int) + 1 by omega] at ih
  have e : out ++ degS par (d + 1) i = out ++ [((kids par i).length + (if (i : Int) > 0 then 1 else 0) : Int)] ++ degS par d (i + 1) := by rw [degS]; simp
  rw [e]
  have hm : mn (i : Int) 1 = if (i : Int) > 0 then 1 else 0 := by
   unfold mn
   split <;> split <;> omega
  have e2 : wrap64 (((kids par (i : Int)).length : Int) + mn (i : Int) 1) = ((kids par i).length + (if (i : Int) > 0 then 1 else 0) : Int) := by
   rw [hm, w64]
   ·split <;> omega
   ·split <;> omega
  refine Ev.step (fun k => by rw [impl_DegreesOf.l0, if_pos (by omega)]) (Ev.bind (zq103 par (i : Int) (by omega)) ?_)
  exact Ev.congr (fun k => by rw [if_pos (by omega), e2, w64 (by omega) (by omega)]) ih

theorem zq107 (x : Int) : ∀ (t p : List Int), p.length + t.length ≤ 35184372088832 →
  Ev (fun k => laws_wHas.l0 k x (p ++ t) ((p ++ t).length : Int) (p.length : Int)) (decide (x ∈ t))
 | [], p, _ => by
  refine Ev.ret fun k => ?_
  rw [laws_wHas.l0, if_neg (by simp)]
  simp
 | h :: t, p, hn => by
  have hn' : p.length + t.length + 1 ≤ 35184372088832 := by simpa [Nat.add_assoc] using hn
  have hm := len_mid p h t
  by_cases c : h = x
  ·rw [decide_eq_true (by simp [c] : x ∈ h :: t)]
   refine Ev.ret fun k => ?_
   rw [laws_wHas.l0, if_pos (by omega), if_pos (by omega), if_pos (by omega), rd_mid, if_pos c]
  ·have ih := zq107 x t (p ++ [h]) (by simp; omega)
   rw [zq1, zq0] at ih
   have e : decide (x ∈ h :: t) = decide (x ∈ t) := decide_eq_decide.2 (by simp [Ne.symm c])
   rw [e]
   refine Ev.step (fun k => ?_) ih
   show laws_wHas.l0 (k + 1) x (p ++ h :: t) ((p ++ h :: t).length : Int) (p.length : Int) = _
   rw [laws_wHas.l0, if_pos (by omega), if_pos (by omega), if_pos (by omega), rd_mid, if_neg c, w64 (by omega) (by omega)]
theorem zq108 (l : List Int) (x : Int) (hl : l.length ≤ 35184372088832) : Ev (fun k => laws_wHas.f k l x) (decide (x ∈ l)) :=
 zq107 x l [] (by simpa using hl)

theorem zq109 (L : List Int) (hl : L.length ≤ 1000000) : ∀ (d i : Nat), i + d = L.length → Ev (fun k => laws_wSame.l0 k L L (L.length : Int) (i : Int)) true
 | 0, i, hd => Ev.ret fun k => by rw [laws_wSame.l0, if_neg (by omega)]
 | d + 1, i, hd => by
  have ih := zq109 L hl d (i + 1) (by omega)
  rw [show ((i + 1 : Nat) : Int) = (i : Int) + 1 by omega] at ih
  refine Ev.step (fun k => ?_) ih
  show laws_wSame.l0 (k + 1) L L (L.length : Int) (i : Int) = _
  rw [laws_wSame.l0, if_pos (by omega), if_pos (by omega), if_pos (by omega), if_pos (by omega), if_pos rfl, w64 (by omega) (by omega)]
theorem zq110 (L : List Int) (hl : L.length ≤ 1000000) : Ev (fun k => laws_wSame.f k L L) true :=
 Ev.congr (fun k => by rw [laws_wSame.f, if_pos rfl]; rfl) (zq109 L hl L.length 0 (by omega))

theorem and255 (x : Int) (h0 : 0 ≤ x) (h1 : x < 18446744073709551616) : 0 ≤ Go.bits .and .u64 x 255 ∧ Go.bits .and .u64 x 255 ≤ 255 := by
 have h : Go.bits .and .u64 x 255 = x % 256 := bits_mask .u64 64 (by decide) wraps_u64 8 (by decide) x h0 h1
 rw [h]
 omega
theorem wrapu (x : Int) : 0 ≤ IntKind.u64.wrap x ∧ IntKind.u64.wrap x < 18446744073709551616 := by
 rw [IntKind.wrap_u64]
 omega
theorem zq111 (code : List Int) (hc : ∀ x ∈ code, 0 ≤ x ∧ x ≤ 255) (at_ seed : Int) (h0 : 0 ≤ at_) (h1 : at_ ≤ 1000000000000) :
  ∃ b s, spec_l1Cur_next.f code at_ seed = some (b, at_ + 1, s) ∧ 0 ≤ b ∧ b ≤ 255 := by
 have fin : ∀ q : Int, 0 ≤ wrap64 (Go.bits .and .u64 (IntKind.u64.wrap q / 1099511627776) 255) ∧ wrap64 (Go.bits .and .u64 (IntKind.u64.wrap q / 1099511627776) 255) ≤ 255 := fun q => by
  have hq := wrapu q
  have := and255 (IntKind.u64.wrap q / 1099511627776) (by omega) (by omega)
  rw [w64 (by omega) (by omega)]
  exact this
 unfold spec_l1Cur_next.f
 rw [w64 (x := at_ + 1) (by omega) (by omega)]
 by_cases c : at_ < (code.length : Int)
 ·have hb : 0 ≤ rd code at_ ∧ rd code at_ ≤ 255 := by
   refine hc _ ?_
   unfold rd
   rw [List.getD_eq_getElem?_getD, List.getElem?_eq_getElem (by omega)]
   exact List.getElem_mem _
  rw [if_pos c, if_pos h0]
  by_cases d : at_ + 1 ≤ (code.length : Int)
  ·rw [if_pos d]
   exact ⟨_, _, rfl, by rw [w64 (by omega) (by omega)]; exact hb⟩
  ·rw [if_neg d]
   exact ⟨_, _, rfl, fin _⟩
 ·rw [if_neg c]
  by_cases d : at_ + 1 ≤ (code.length : Int)
  ·rw [if_pos d]
   exact ⟨_, _, rfl, by omega, by omega⟩
  ·rw [if_neg d]
   exact ⟨_, _, rfl, fin _⟩
def Rdy (at_ : Int) (n : Int) : Prop := 0 ≤ at_ ∧ at_ ≤ n
theorem Rdy.mono {a n m : Int} (h : Rdy a n) (hm : n ≤ m) : Rdy a m := ⟨h.1, Int.le_trans h.2 hm⟩
theorem zq112 (code : List Int) (hc : ∀ x ∈ code, 0 ≤ x ∧ x ≤ 255) (at_ seed n : Int) (b : Int) (h : Rdy at_ b) (hb : b ≤ 100000000000) :
  ∃ v a s, spec_l1Cur_pick.f code at_ seed n = some (v, a, s) ∧ 0 ≤ v ∧ (v = 0 ∨ v < n) ∧ Rdy a (b + 2) := by
 obtain ⟨h0, h1⟩ := h
 unfold spec_l1Cur_pick.f
 by_cases c : n ≤ 1
 ·rw [if_pos c]
  exact ⟨0, at_, seed, rfl, by omega, .inl rfl, h0, by omega⟩
 ·rw [if_neg c]
  obtain ⟨x, s, e, hx0, hx1⟩ := zq111 code hc at_ seed h0 (by omega)
  rw [e, Option.bind_some]
  by_cases d : n > 200
  ·rw [if_pos d]
   obtain ⟨y, s2, e2, hy0, hy1⟩ := zq111 code hc (at_ + 1) s (by omega) (by omega)
   simp only [e2, Option.bind_some]
   rw [if_neg (by omega), w64 (x := x * 256) (by omega) (by omega), w64 (by omega) (by omega)]
   exact ⟨_, _, _, rfl, Int.tmod_nonneg _ (by omega), .inr (Int.tmod_lt_of_pos _ (by omega)), by omega, by omega⟩
  ·rw [if_neg d, if_neg (by omega)]
   exact ⟨_, _, _, rfl, Int.tmod_nonneg _ (by omega), .inr (Int.tmod_lt_of_pos _ (by omega)), by show 0 ≤ at_ + 1; omega, by show at_ + 1 ≤ b + 2; omega⟩
theorem zq113 (code : List Int) (hc : ∀ x ∈ code, 0 ≤ x ∧ x ≤ 255) (at_ seed : Int) (l : List Int) (hl : 1 ≤ l.length) (b : Int) (h : Rdy at_ b) (hb : b ≤ 100000000000) :
  ∃ v a s, spec_l1Cur_among.f code at_ seed l = some (v, a, s) ∧ v ∈ l ∧ Rdy a (b + 2) := by
 obtain ⟨v, a, s, e, h0, h1, h2⟩ := zq112 code hc at_ seed (l.length : Int) b h hb
 unfold spec_l1Cur_among.f
 rw [e, Option.bind_some]
 have hlt : v < (l.length : Int) := by omega
 show ∃ v' a' s', (if 0 ≤ v then (if v < (l.length : Int) then some (rd l v, a, s) else none) else none) = some (v', a', s') ∧ _
 rw [if_pos h0, if_pos hlt]
 refine ⟨_, _, _, rfl, ?_, h2⟩
 unfold rd
 rw [List.getD_eq_getElem?_getD, List.getElem?_eq_getElem (by omega)]
 exact List.getElem_mem _

theorem wrapi (x : Int) : -9223372036854775808 ≤ wrap64 x ∧ wrap64 x ≤ 9223372036854775807 := by
 unfold wrap64
 omega
theorem zq114 (n : Int) (hn : n ≤ 1000) : ∀ (d : Nat) (a i : Int), 1 ≤ i → i + d = n ∨ (d = 0 ∧ n ≤ i) → a ≤ 9223372036854775807 →
  ∃ r, r ≤ 9223372036854775807 ∧ Ev (fun k => spec_trCount.l0 k n a i) r
 | 0, a, i, hi, hd, ha => ⟨a, ha, Ev.ret fun k => by rw [spec_trCount.l0, if_neg (by omega)]⟩
 | d + 1, a, i, hi, hd, ha => by
  obtain ⟨r, hr, ih⟩ := zq114 n hn d (wrap64 (a * (wrap64 (n + 1)))) (i + 1) (by omega) (by omega) (wrapi _).2
  refine ⟨r, hr, Ev.step (fun k => ?_) ih⟩
  show spec_trCount.l0 (k + 1) n a i = _
  rw [spec_trCount.l0, if_pos (by omega), w64 (x := i + 1) (by omega) (by omega)]
theorem zq115 (base : Int) (hb : 1 ≤ base) (hb2 : base ≤ 1000) (n : Nat) (hn : n ≤ 1000) : ∀ (d : Nat) (num : Int) (w : List Int), 0 ≤ num → num ≤ 9223372036854775807 → w.length = n → d ≤ n → (∀ x ∈ w, 0 ≤ x ∧ x < base) →
  ∃ r : List Int, r.length = n ∧ (∀ x ∈ r, 0 ≤ x ∧ x < base) ∧ Ev (fun k => spec_trWord.l0 k base num w ((d : Int) - 1)) r
 | 0, num, w, h0, h1, hw, hd, hx => ⟨w, hw, hx, Ev.ret fun k => by rw [spec_trWord.l0, if_neg (by omega)]⟩
 | d + 1, num, w, h0, h1, hw, hd, hx => by
  have hq0 : 0 ≤ Int.tdiv num base := Int.tdiv_nonneg h0 (by omega)
  have hq1 : Int.tdiv num base ≤ num := by
   rw [Int.tdiv_eq_ediv_of_nonneg h0]
   exact Int.ediv_le_self _ h0
  have hm0 : 0 ≤ Int.tmod num base := Int.tmod_nonneg _ h0
  have hm1 : Int.tmod num base < base := Int.tmod_lt_of_pos _ (by omega)
  obtain ⟨r, hr, hx2, ih⟩ := zq115 base hb hb2 n hn d (Int.tdiv num base) (w.set d (Int.tmod num base)) hq0 (by omega) (by simp [hw]) (by omega) (fun x hxm => by
   rcases List.mem_or_eq_of_mem_set hxm with h | h
   ·exact hx x h
   ·rw [h]; exact ⟨hm0, hm1⟩)
  refine ⟨r, hr, hx2, Ev.step (fun k => ?_) ih⟩
  show spec_trWord.l0 (k + 1) base num w (((d + 1 : Nat) : Int) - 1) = _
  rw [spec_trWord.l0, show ((d + 1 : Nat) : Int) - 1 = (d : Int) by omega, if_pos (by omega), if_neg (by omega), if_pos (by omega), if_pos (by omega), w64 (by omega) (by omega), w64 (by omega) (by omega), Int.toNat_natCast]
theorem zq116 (n : Nat) (hn : n ≤ 1000) (E O : List Int) (hE : E.length = n) (hO : O.length = n) (rE : ∀ x ∈ E, 1 ≤ x ∧ x ≤ n) (rO : ∀ x ∈ O, 0 ≤ x ∧ x ≤ n) (k9 : Nat) (hk9 : k9 ≤ 2000) : ∀ (d i : Nat) (par reached : List Int), i + d = n → par.length = n → Rch n reached → k9 < reached.length →
  (∀ (p2 r2 : List Int), p2.length = n → Rch n r2 → k9 < r2.length → ∃ r : List Int, r.length = n ∧ Ev (fun k => spec_trEdges.l0 k E O p2 r2 ((k9 : Int) + 1)) r) →
  ∃ r : List Int, r.length = n ∧ Ev (fun k => spec_trEdges.l1 k E O par reached (k9 : Int) (n : Int) (i : Int)) r
 | 0, i, par, reached, hd, hp, hr, hk, H => by
  obtain ⟨r, h1, h2⟩ := H par reached hp hr hk
  refine ⟨r, h1, Ev.step (fun k => ?_) h2⟩
  show spec_trEdges.l1 (k + 1) E O par reached (k9 : Int) (n : Int) (i : Int) = _
  rw [spec_trEdges.l1, if_neg (by omega), w64 (by omega) (by omega)]
 | d + 1, i, par, reached, hd, hp, hr, hk, H => by
  have he := rE (rd E i) (rd_mem E i (by omega) (by omega))
  have ho := rO (rd O i) (rd_mem O i (by omega) (by omega))
  have hlen := zq9 n reached hr.nd hr.range
  have e1 : ((i + 1 : Nat) : Int) = (i : Int) + 1 := by omega
  have stay := zq116 n hn E O hE hO rE rO k9 hk9 d (i + 1) par reached (by omega) hp hr hk H
  have grow := fun (v a : Int) (hv : v ∉ reached) (h0 : 0 ≤ v) (h1 : v ≤ n) => zq116 n hn E O hE hO rE rO k9 hk9 d (i + 1) (par.set (v - 1).toNat a) (reached ++ [v]) (by omega) (by simp [hp]) (hr.add hv h0 h1) (by simp; omega) H
  rw [e1] at stay grow
  by_cases c : rd O i = rd reached k9
  ·by_cases g : rd E i ∈ reached
   ·obtain ⟨r, h1, h2⟩ := stay
    refine ⟨r, h1, Ev.step (f := fun k => (spec_l1Has.f k reached (rd E i)).bind fun t => if t = true then spec_trEdges.l1 k E O par reached (k9 : Int) (n : Int) ((i : Int) + 1) else (if 0 ≤ (wrap64 ((rd E i) - 1)) then (if (wrap64 ((rd E i) - 1)) < (par.length : Int) then (if reached.length < 17592186044416 then (spec_trEdges.l1 k E O (par.set ((wrap64 ((rd E i) - 1)) : Int).toNat (rd O i)) (reached ++ [rd E i]) (k9 : Int) (n : Int) (wrap64 ((i : Int) + 1))) else (none)) else (none)) else (none))) (fun k => ?_) (Ev.bind (zq20 reached _ (by omega)) ?_)⟩
    ·rw [spec_trEdges.l1, if_pos (by omega), if_pos (by omega), if_pos (by omega), if_pos (by omega), if_pos (by omega), if_pos (by omega), if_pos c, w64 (x := (i : Int) + 1) (by omega) (by omega)]
    ·exact Ev.congr (fun k => by rw [if_pos (by simpa using g)]) h2
   ·obtain ⟨r, h1, h2⟩ := grow (rd E i) (rd O i) g (by omega) he.2
    refine ⟨r, h1, Ev.step (f := fun k => (spec_l1Has.f k reached (rd E i)).bind fun t => if t = true then spec_trEdges.l1 k E O par reached (k9 : Int) (n : Int) ((i : Int) + 1) else (if 0 ≤ (rd E i) - 1 then (if (rd E i) - 1 < (par.length : Int) then (if reached.length < 17592186044416 then (spec_trEdges.l1 k E O (par.set ((rd E i) - 1).toNat (rd O i)) (reached ++ [rd E i]) (k9 : Int) (n : Int) ((i : Int) + 1)) else (none)) else (none)) else (none))) (fun k => ?_) (Ev.bind (zq20 reached _ (by omega)) ?_)⟩
    ·rw [spec_trEdges.l1, if_pos (by omega), if_pos (by omega), if_pos (by omega), if_pos (by omega), if_pos (by omega), if_pos (by omega), if_pos c, w64 (x := (i : Int) + 1) (by omega) (by omega), w64 (by omega) (by omega)]
    ·exact Ev.congr (fun k => by rw [if_neg (by simpa using g), if_pos (by omega), if_pos (by omega), if_pos (by omega)]) h2
  ·by_cases c2 : rd E i = rd reached k9
   ·by_cases g : rd O i ∈ reached
    ·obtain ⟨r, h1, h2⟩ := stay
     refine ⟨r, h1, Ev.step (f := fun k => (spec_l1Has.f k reached (rd O i)).bind fun t => if t = true then spec_trEdges.l1 k E O par reached (k9 : Int) (n : Int) ((i : Int) + 1) else (if 0 ≤ (wrap64 ((rd O i) - 1)) then (if (wrap64 ((rd O i) - 1)) < (par.length : Int) then (if reached.length < 17592186044416 then (spec_trEdges.l1 k E O (par.set ((wrap64 ((rd O i) - 1)) : Int).toNat (rd E i)) (reached ++ [rd O i]) (k9 : Int) (n : Int) (wrap64 ((i : Int) + 1))) else (none)) else (none)) else (none))) (fun k => ?_) (Ev.bind (zq20 reached _ (by omega)) ?_)⟩
     ·rw [spec_trEdges.l1, if_pos (by omega), if_pos (by omega), if_pos (by omega), if_pos (by omega), if_pos (by omega), if_pos (by omega), if_neg c, if_pos c2, w64 (x := (i : Int) + 1) (by omega) (by omega)]
     ·exact Ev.congr (fun k => by rw [if_pos (by simpa using g)]) h2
    ·have hne : rd O i ≠ 0 := fun e => g (by rw [e]; exact hr.zero)
     obtain ⟨r, h1, h2⟩ := grow (rd O i) (rd E i) g (by omega) ho.2
     refine ⟨r, h1, Ev.step (f := fun k => (spec_l1Has.f k reached (rd O i)).bind fun t => if t = true then spec_trEdges.l1 k E O par reached (k9 : Int) (n : Int) ((i : Int) + 1) else (if 0 ≤ (rd O i) - 1 then (if (rd O i) - 1 < (par.length : Int) then (if reached.length < 17592186044416 then (spec_trEdges.l1 k E O (par.set ((rd O i) - 1).toNat (rd E i)) (reached ++ [rd O i]) (k9 : Int) (n : Int) ((i : Int) + 1)) else (none)) else (none)) else (none))) (fun k => ?_) (Ev.bind (zq20 reached _ (by omega)) ?_)⟩
     ·rw [spec_trEdges.l1, if_pos (by omega), if_pos (by omega), if_pos (by omega), if_pos (by omega), if_pos (by omega), if_pos (by omega), if_neg c, if_pos c2, w64 (x := (i : Int) + 1) (by omega) (by omega), w64 (by omega) (by omega)]
     ·exact Ev.congr (fun k => by rw [if_neg (by simpa using g), if_pos (by omega), if_pos (by omega), if_pos (by omega)]) h2
   ·obtain ⟨r, h1, h2⟩ := stay
    refine ⟨r, h1, Ev.step (fun k => ?_) h2⟩
    show spec_trEdges.l1 (k + 1) E O par reached (k9 : Int) (n : Int) (i : Int) = _
    rw [spec_trEdges.l1, if_pos (by omega), if_pos (by omega), if_pos (by omega), if_pos (by omega), if_pos (by omega), if_pos (by omega), if_neg c, if_neg c2, w64 (x := (i : Int) + 1) (by omega) (by omega)]
theorem zq117 (n : Nat) (hn : n ≤ 1000) (E O : List Int) (hE : E.length = n) (hO : O.length = n) (rE : ∀ x ∈ E, 1 ≤ x ∧ x ≤ n) (rO : ∀ x ∈ O, 0 ≤ x ∧ x ≤ n) : ∀ (d k9 : Nat) (par reached : List Int), k9 + d = n + 1 → par.length = n → Rch n reached →
  ∃ r : List Int, r.length = n ∧ Ev (fun k => spec_trEdges.l0 k E O par reached (k9 : Int)) r
 | 0, k9, par, reached, hd, hp, hr => by
  have hlen := zq9 n reached hr.nd hr.range
  exact ⟨par, hp, Ev.ret fun k => by rw [spec_trEdges.l0, if_neg (by omega)]⟩
 | d + 1, k9, par, reached, hd, hp, hr => by
  have hlen := zq9 n reached hr.nd hr.range
  by_cases c : k9 < reached.length
  ·obtain ⟨r, h1, h2⟩ := zq116 n hn E O hE hO rE rO k9 (by omega) n 0 par reached (by omega) hp hr c (fun p2 r2 h3 h4 _ => by
    have := zq117 n hn E O hE hO rE rO d (k9 + 1) p2 r2 (by omega) h3 h4
    rw [show ((k9 + 1 : Nat) : Int) = (k9 : Int) + 1 by omega] at this
    exact this)
   refine ⟨r, h1, Ev.step (fun k => ?_) h2⟩
   show spec_trEdges.l0 (k + 1) E O par reached (k9 : Int) = _
   rw [spec_trEdges.l0, if_pos (by omega), hE]
   rfl
  ·exact ⟨par, hp, Ev.ret fun k => by rw [spec_trEdges.l0, if_neg (by omega)]⟩
theorem zq118 (n : Nat) (hn : n ≤ 1000) (E O : List Int) (hE : E.length = n) (hO : O.length = n) (rE : ∀ x ∈ E, 1 ≤ x ∧ x ≤ n) (rO : ∀ x ∈ O, 0 ≤ x ∧ x ≤ n) : ∃ r : List Int, r.length = n ∧ Ev (fun k => spec_trEdges.f k (n : Int) E O) r := by
 obtain ⟨r, h1, h2⟩ := zq117 n hn E O hE hO rE rO (n + 1) 0 (List.replicate n 0) [0] (by omega) (by simp) ⟨by simp, by simp, by simp⟩
 exact ⟨r, h1, Ev.congr (fun k => by rw [spec_trEdges.f, if_pos (by omega), if_pos (by omega)]; rfl) h2⟩

theorem trOf_l1 (n : Nat) (hn : n ≤ 1000) (word gone others : List Int) (k : Nat) (x : Int) (L : List Int) (m : Int) (hk : k ≤ word.length) (hw : word.length ≤ 1000) (hg : gone.length ≤ 1000) (ho : others.length ≤ 1000)
  (P : List Int → Prop) (H : ∀ v : Int, 1 ≤ v → v ≤ n → v ∉ gone → ∃ r, P r ∧ Ev (fun kk => spec_trOf.l0 kk word (n : Int) (gone ++ [v]) (others ++ [x]) L m ((k : Int) + 1)) r) (u : Int) (h1 : 1 ≤ u) (hu : u ∉ gone ∧ u ∉ word.drop k) : ∀ d : Nat, u ≤ d → d ≤ n →
  ∃ r, P r ∧ Ev (fun kk => spec_trOf.l1 kk word (n : Int) gone others (k : Int) x (d : Int) L m (k : Int)) r
 | 0, h, _ => by omega
 | d + 1, h, hd => by
  have ed : ((d + 1 : Nat) : Int) = (d : Int) + 1 := by omega
  rw [ed]
  have less : ((d : Int) + 1 ∈ gone ∨ (d : Int) + 1 ∈ word.drop k) → u ≤ d := fun hm => by
   refine Classical.byContradiction fun h2 => ?_
   have e : u = (d : Int) + 1 := by omega
   rw [e] at hu
   rcases hm with h3 | h3
   ·exact hu.1 h3
   ·exact hu.2 h3
  have ih := fun c => trOf_l1 n hn word gone others k x L m hk hw hg ho P H u h1 hu d c (by omega)
  by_cases g : (d : Int) + 1 ∈ gone
  ·obtain ⟨r, hp, h2⟩ := ih (less (.inl g))
   refine ⟨r, hp, Ev.step (fun kk => by rw [spec_trOf.l1, w64 (x := (d : Int) + 1 - 1) (by omega) (by omega), show (d : Int) + 1 - 1 = (d : Int) by omega]) (Ev.bind (zq20 gone _ (by omega)) ?_)⟩
   exact Ev.congr (fun kk => by rw [if_pos (by simpa using g)]) h2
  ·by_cases g2 : (d : Int) + 1 ∈ word.drop k
   ·obtain ⟨r, hp, h2⟩ := ih (less (.inr g2))
    refine ⟨r, hp, Ev.step (fun kk => by rw [spec_trOf.l1, w64 (x := (d : Int) + 1 - 1) (by omega) (by omega), show (d : Int) + 1 - 1 = (d : Int) by omega]) (Ev.bind (zq20 gone _ (by omega)) ?_)⟩
    refine Ev.congr (fun kk => by rw [if_neg (by simpa using g), if_pos (by omega), if_pos (by omega), Int.toNat_natCast]) (Ev.bind (zq20 (word.drop k) _ (by simp; omega)) ?_)
    exact Ev.congr (fun kk => by rw [if_pos (by simpa using g2)]) h2
   ·obtain ⟨r, hp, h2⟩ := H ((d : Int) + 1) (by omega) (by omega) g
    refine ⟨r, hp, Ev.step (fun kk => by rw [spec_trOf.l1]) (Ev.bind (zq20 gone _ (by omega)) ?_)⟩
    refine Ev.congr (fun kk => by rw [if_neg (by simpa using g), if_pos (by omega), if_pos (by omega), Int.toNat_natCast]) (Ev.bind (zq20 (word.drop k) _ (by simp; omega)) ?_)
    exact Ev.congr (fun kk => by rw [if_neg (by simpa using g2), if_pos (by omega), if_pos (by omega), w64 (by omega) (by omega)]) h2
structure Tkn (n : Nat) (gone others : List Int) : Prop where
 nd : gone.Nodup
 range : ∀ v ∈ gone, 1 ≤ v ∧ v ≤ n
 len : others.length = gone.length
 other : ∀ v ∈ others, 0 ≤ v ∧ v ≤ n
theorem Tkn.add {n : Nat} {gone others : List Int} (h : Tkn n gone others) {v x : Int} (hv : v ∉ gone) (h0 : 1 ≤ v) (h1 : v ≤ n) (hx : 0 ≤ x ∧ x ≤ n) : Tkn n (gone ++ [v]) (others ++ [x]) := by
 refine ⟨List.nodup_append.2 ⟨h.nd, by simp, ?_⟩, ?_, by simp [h.len], ?_⟩
 ·intro a ha b hb e
  rw [List.mem_singleton] at hb
  exact hv (by rw [← hb, ← e]; exact ha)
 ·intro u hu
  rcases List.mem_append.1 hu with h2 | h2
  ·exact h.range u h2
  ·rw [List.mem_singleton] at h2; omega
 ·intro u hu
  rcases List.mem_append.1 hu with h2 | h2
  ·exact h.other u h2
  ·rw [List.mem_singleton] at h2; rw [h2]; exact hx
theorem trOf_l2 (n : Nat) (hn : n ≤ 1000) (gone others : List Int) (h : Tkn n gone others) (hlen : gone.length + 1 = n) (u : Int) (h1 : 1 ≤ u) (hu : u ≤ n) (hug : u ∉ gone) : ∀ (d : Nat) (v : Int), 1 ≤ v → v + d = u →
  ∃ r : List Int, r.length = n ∧ Ev (fun kk => spec_trOf.l2 kk (n : Int) gone others v) r
 | d, v, hv, hd => by
  have hol := h.len
  by_cases g : v ∈ gone
  ·match d, hd with
   | 0, hd => exact absurd (by rw [show u = v by omega]; exact g) hug
   | d + 1, hd =>
    obtain ⟨r, h2, h3⟩ := trOf_l2 n hn gone others h hlen u h1 hu hug d (v + 1) (by omega) (by omega)
    refine ⟨r, h2, Ev.step (fun kk => by rw [spec_trOf.l2, if_pos (by omega), w64 (x := v + 1) (by omega) (by omega)]) (Ev.bind (zq20 gone _ (by omega)) ?_)⟩
    exact Ev.congr (fun kk => by rw [if_pos (by simpa using g)]) h3
  ·have ha := h.add g hv (by omega) (x := 0) ⟨by omega, by omega⟩
   obtain ⟨r, h2, h3⟩ := zq118 n hn (gone ++ [v]) (others ++ [0]) (by simp [hlen]) (by simp; omega) ha.range ha.other
   refine ⟨r, h2, Ev.step (fun kk => by rw [spec_trOf.l2, if_pos (by omega)]) (Ev.bind (zq20 gone _ (by omega)) ?_)⟩
   exact Ev.congr (fun kk => by rw [if_neg (by simpa using g), if_pos (by omega), if_pos (by omega)]) (Ev.bind h3 (Ev.now r))
theorem zq119 (n : Nat) (l : List Int) (h : l.length < n) : ∃ u : Int, 1 ≤ u ∧ u ≤ n ∧ u ∉ l := by
 refine Classical.byContradiction fun hn => ?_
 have := all_in n l fun v h0 h1 => Classical.byContradiction fun h2 => hn ⟨v, h0, h1, h2⟩
 omega
theorem trOf_l0 (n : Nat) (hn : n ≤ 1000) (word : List Int) (hw : word.length + 1 = n) (hx : ∀ x ∈ word, 0 ≤ x ∧ x ≤ n) : ∀ (d k : Nat) (gone others : List Int), k + d = word.length → gone.length = k → Tkn n gone others →
  ∃ r : List Int, r.length = n ∧ Ev (fun kk => spec_trOf.l0 kk word (n : Int) gone others word (word.length : Int) (k : Int)) r
 | 0, k, gone, others, hd, hg, h => by
  obtain ⟨u, h1, h2, h3⟩ := zq119 n gone (by omega)
  obtain ⟨r, h4, h5⟩ := trOf_l2 n hn gone others h (by omega) u h1 h2 h3 (u - 1).toNat 1 (by omega) (by omega)
  exact ⟨r, h4, Ev.step (fun kk => by rw [spec_trOf.l0, if_neg (by omega)]) h5⟩
 | d + 1, k, gone, others, hd, hg, h => by
  have hol := h.len
  have hxk := hx (rd word k) (rd_mem word k (by omega) (by omega))
  obtain ⟨u, h1, h2, h3⟩ := zq119 n (gone ++ word.drop k) (by simp; omega)
  rw [List.mem_append, not_or] at h3
  obtain ⟨r, h4, h5⟩ := trOf_l1 n hn word gone others k (rd word k) word (word.length : Int) (by omega) (by omega) (by omega) (by omega) (fun r => r.length = n) (fun v g0 g1 g2 => by
   have := trOf_l0 n hn word hw hx d (k + 1) (gone ++ [v]) (others ++ [rd word k]) (by omega) (by simp [hg]) (h.add g2 g0 g1 hxk)
   rw [show ((k + 1 : Nat) : Int) = (k : Int) + 1 by omega] at this
   exact this) u h1 h3 n h2 (Nat.le_refl _)
  exact ⟨r, h4, Ev.step (fun kk => by rw [spec_trOf.l0, if_pos (by omega), if_pos (by omega), if_pos (by omega)]) h5⟩
theorem zq120 (n : Nat) (hn : n ≤ 1000) (word : List Int) (hw : word.length + 1 = n) (hx : ∀ x ∈ word, 0 ≤ x ∧ x ≤ n) : ∃ r : List Int, r.length = n ∧ Ev (fun kk => spec_trOf.f kk word) r := by
 obtain ⟨r, h1, h2⟩ := trOf_l0 n hn word hw hx word.length 0 [] [] (by omega) rfl ⟨by simp, by simp, rfl, by simp⟩
 exact ⟨r, h1, Ev.congr (fun kk => by rw [spec_trOf.f, w64 (by omega) (by omega), show (word.length : Int) + 1 = (n : Int) by omega]; rfl) h2⟩
theorem zq121 (code : List Int) (hc : ∀ x ∈ code, 0 ≤ x ∧ x ≤ 255) (at_ seed : Int) (most : Nat) (hm : most ≤ 100) (b : Int) (h : Rdy at_ b) (hb : b ≤ 1000000) :
  ∃ (r : List Int) (a s : Int), r.length ≤ 200 ∧ Rdy a (b + 10) ∧ Ev (fun kk => spec_l1Cur_tree.f kk code at_ seed (most : Int)) (r, a, s) := by
 obtain ⟨n, a1, s1, e1, n0, n1, r1⟩ := zq112 code hc at_ seed ((most : Int) + 1) b h (by omega)
 by_cases c : n = 0
 ·refine ⟨[], a1, s1, by simp, r1.mono (by omega), Ev.congr (fun kk => ?_) (Ev.now _)⟩
  show spec_l1Cur_tree.f kk code at_ seed (most : Int) = _
  rw [spec_l1Cur_tree.f, w64 (by omega) (by omega), e1, Option.bind_some, if_pos c]
 ·have hn1 : 1 ≤ n := by omega
  have hn2 : n ≤ most := by omega
  obtain ⟨cnt, hcnt, hC⟩ := zq114 n (by omega) (n - 1).toNat 1 1 (by omega) (by omega) (by omega)
  obtain ⟨num, a2, s2, e2, m0, m1, r2⟩ := zq112 code hc a1 s1 cnt (b + 2) r1 (by omega)
  obtain ⟨word, hwl, hwx, hW⟩ := zq115 (n + 1) (by omega) (by omega) (n - 1).toNat (by omega) (n - 1).toNat num (List.replicate (n - 1).toNat 0) m0 (by omega) (by simp) (Nat.le_refl _) (fun x hx => by have := (List.mem_replicate.1 hx).2; omega)
  obtain ⟨tr, htl, hT⟩ := zq120 n.toNat (by omega) word (by omega) (fun x hx => by have := hwx x hx; omega)
  obtain ⟨w3, a3, s3, e3, q0, q1, r3⟩ := zq112 code hc a2 s2 14 (b + 2 + 2) r2 (by omega)
  refine Exists.elim (show ∃ q : List Int × Int × Int, q.1.length ≤ 200 ∧ Rdy q.2.1 (b + 10) ∧ (if w3 = 0 then (spec_l1Cur_pick.f code a3 s3 n).bind fun bt276 => (spec_l1Cur_pick.f code bt276.2.1 bt276.2.2 (wrap64 (n + 3))).bind fun bt279 => if 0 ≤ bt276.1 then (if bt276.1 < (tr.length : Int) then some (tr.set bt276.1.toNat (wrap64 (bt279.1 - 1)), bt279.2.1, bt279.2.2) else none) else none
    else if w3 = 1 then (spec_l1Cur_among.f code a3 s3 [-1, 0, wrap64 (n + 1)]).bind fun bt286 => if tr.length < 17592186044416 then some (tr ++ [bt286.1], bt286.2.1, bt286.2.2) else none
    else if w3 = 2 then (spec_l1Cur_pick.f code a3 s3 2).bind fun bt292 => if 0 ≤ wrap64 (8 + bt292.1) then (if (wrap64 (8 + bt292.1)).toNat ≤ 35184372088832 then some (List.replicate (wrap64 (8 + bt292.1)).toNat 0, bt292.2.1, bt292.2.2) else none) else none
    else some (tr, a3, s3)) = some q from ?_) ?_
  ·by_cases w0 : w3 = 0
   ·obtain ⟨x, a4, s4, e4, x0, x1, r4⟩ := zq112 code hc a3 s3 n (b + 2 + 2 + 2) r3 (by omega)
    obtain ⟨y, a5, s5, e5, y0, y1, r5⟩ := zq112 code hc a4 s4 (wrap64 (n + 3)) (b + 2 + 2 + 2 + 2) r4 (by omega)
    refine ⟨(tr.set x.toNat (wrap64 (y - 1)), a5, s5), by simp; omega, r5.mono (by omega), ?_⟩
    rw [if_pos w0, e4, Option.bind_some]
    simp only [e5, Option.bind_some]
    rw [if_pos x0, if_pos (by omega)]
   ·rw [if_neg w0]
    by_cases w1 : w3 = 1
    ·obtain ⟨x, a4, s4, e4, x0, r4⟩ := zq113 code hc a3 s3 [-1, 0, wrap64 (n + 1)] (by simp) (b + 2 + 2 + 2) r3 (by omega)
     refine ⟨(tr ++ [x], a4, s4), by simp; omega, r4.mono (by omega), ?_⟩
     rw [if_pos w1, e4, Option.bind_some, if_pos (by omega)]
    ·rw [if_neg w1]
     by_cases w2 : w3 = 2
     ·obtain ⟨x, a4, s4, e4, x0, x1, r4⟩ := zq112 code hc a3 s3 2 (b + 2 + 2 + 2) r3 (by omega)
      have e8 : wrap64 (8 + x) = 8 + x := w64 (by omega) (by omega)
      refine ⟨(List.replicate (8 + x).toNat 0, a4, s4), by simp; omega, r4.mono (by omega), ?_⟩
      rw [if_pos w2, e4, Option.bind_some]
      simp only [e8]
      rw [if_pos (by omega), if_pos (by omega)]
     ·rw [if_neg w2]
      exact ⟨(tr, a3, s3), by show tr.length ≤ 200; omega, r3.mono (by omega), rfl⟩
  ·rintro ⟨r, a, s⟩ ⟨q1, q2, q3⟩
   refine ⟨r, a, s, q1, q2, ?_⟩
   refine Ev.congr (fun kk => by rw [spec_l1Cur_tree.f, w64 (x := (most : Int) + 1) (by omega) (by omega), e1, Option.bind_some, if_neg c]) ?_
   refine Ev.bind (show Ev (fun kk => spec_trCount.f kk n) cnt from hC) ?_
   refine Ev.congr (fun kk => by rw [e2, Option.bind_some]) ?_
   have hW' : Ev (fun kk => spec_trWord.f kk (wrap64 (n - 1)) (wrap64 (n + 1)) num) word := by
    have en : (((n - 1).toNat : Nat) : Int) = n - 1 := by omega
    rw [en] at hW
    refine Ev.congr (fun kk => by rw [w64 (x := n - 1) (by omega) (by omega), w64 (x := n + 1) (by omega) (by omega), spec_trWord.f, if_pos (by omega), if_pos (by omega), w64 (x := n - 1 - 1) (by omega) (by omega)]) hW
   refine Ev.bind hW' (Ev.bind hT ?_)
   refine Ev.congr (fun kk => by rw [e3, Option.bind_some]) ?_
   exact Ev.congr (fun kk => q3) (Ev.now _)

def leafL (par : List Int) : Nat → Nat → List Int
 | 0, _ => []
 | d + 1, i => if ((i : Int) + 1) ∈ par then leafL par d (i + 1) else ((i : Int) + 1) :: leafL par d (i + 1)
theorem zq122 (par : List Int) : ∀ (d i : Nat), (leafL par d i).length ≤ d
 | 0, _ => Nat.le_refl _
 | d + 1, i => by
  have := zq122 par d (i + 1)
  rw [leafL]
  split
  ·omega
  ·rw [List.length_cons]; omega
theorem zq123 (par : List Int) (v : Int) : ∀ (d i : Nat), v ∈ leafL par d i ↔ (i : Int) + 1 ≤ v ∧ v ≤ (i : Int) + d ∧ v ∉ par
 | 0, i => by
  simp [leafL]
  omega
 | d + 1, i => by
  have ih := zq123 par v d (i + 1)
  rw [leafL]
  split
  ·rename_i c
   rw [ih]
   constructor
   ·rintro ⟨h1, h2, h3⟩
    exact ⟨by omega, by omega, h3⟩
   ·rintro ⟨h1, h2, h3⟩
    have : v ≠ (i : Int) + 1 := fun e => h3 (by rw [e]; exact c)
    exact ⟨by omega, by omega, h3⟩
  ·rename_i c
   rw [List.mem_cons, ih]
   constructor
   ·rintro (h1 | ⟨h1, h2, h3⟩)
    ·exact ⟨by omega, by omega, by rw [h1]; exact c⟩
    ·exact ⟨by omega, by omega, h3⟩
   ·rintro ⟨h1, h2, h3⟩
    by_cases e : v = (i : Int) + 1
    ·exact .inl e
    ·exact .inr ⟨by omega, by omega, h3⟩
theorem zq124 (par : List Int) (h8 : par.length ≤ 8) : ∀ (d i : Nat) (out : List Int), i + d = par.length → out.length ≤ i → Ev (fun k => impl_LeavesOf.l0 k par out (par.length : Int) (i : Int)) (out ++ leafL par d i, true)
 | 0, i, out, hi, ho => Ev.ret fun k => by rw [impl_LeavesOf.l0, if_neg (by omega), leafL, List.append_nil]
 | d + 1, i, out, hi, ho => by
  have hc := zq68 par ((i : Int) + 1) (by omega)
  rw [leafL]
  by_cases c : (i : Int) + 1 ∈ par
  ·have ih := zq124 par h8 d (i + 1) out (by omega) (by omega)
   rw [if_pos c]
   refine Ev.step (fun k => by rw [impl_LeavesOf.l0, if_pos (by omega), w64 (by omega) (by omega)]) ?_
   refine Ev.bind hc ?_
   rw [decide_eq_true c]
   exact ih
  ·have ih := zq124 par h8 d (i + 1) (out ++ [(i : Int) + 1]) (by omega) (by simp; omega)
   rw [if_neg c]
   rw [List.append_assoc] at ih
   refine Ev.step (fun k => by rw [impl_LeavesOf.l0, if_pos (by omega), w64 (by omega) (by omega)]) ?_
   refine Ev.bind hc ?_
   rw [decide_eq_false c]
   refine Ev.congr (fun k => by rw [if_neg (by simp), if_pos (by omega)]) ?_
   exact ih
structure TW (par word : List Int) : Prop where
 len : word.length + 1 = par.length
 le : par.length ≤ 8
 cn : ∀ v : Int, 0 ≤ v → cnt (fun p => decide (p = v)) par = cnt (fun p => decide (p = v)) word + (if v > 0 then 0 else 1)
theorem TW.of (par : List Int) (ht : isTr par = true) (hn : 1 ≤ par.length) : TW par (prufS par (par.length - 1) [] []) := by
 obtain ⟨h8, h20, _⟩ := (zq17 par).1 ht
 have hl : (prufS par (par.length - 1) [] []).length = par.length - 1 := by rw [zq49]; simp
 refine ⟨by omega, h8, fun v hv => ?_⟩
 have h := zq64 (prufS par (par.length - 1) [] []) v hv
 rw [zq62 par ht hn, zq31] at h
 rw [h]
 congr 1
 simp only [cnt]
 by_cases c : v > 0
 ·rw [if_pos c, if_neg (by simp; omega)]; rfl
 ·rw [if_neg c, if_pos (by simp; omega)]; rfl
theorem tw_l1 (par word : List Int) (h : TW par word) (i : Nat) (hi : i ≤ par.length) (r : Bool)
  (H : Ev (fun k => laws_FnTreesAreWords.l0 k word (leafL par par.length 0) (degS par (par.length + 1) 0) ((degS par (par.length + 1) 0).length : Int) ((i : Int) + 1)) r) : ∀ (t p : List Int) (c : Int), p ++ t = word → c = cnt (fun x => decide (x = (i : Int))) p →
  Ev (fun k => laws_FnTreesAreWords.l1 k word (leafL par par.length 0) (i : Int) (rd (degS par (par.length + 1) 0) i) c (degS par (par.length + 1) 0) ((degS par (par.length + 1) 0).length : Int) (i : Int) word (word.length : Int) (p.length : Int)) r
 | [], p, c, hp, hc => by
  rw [List.append_nil] at hp
  subst hp
  have hlen := h.len
  have hle := h.le
  have hcr := zq30 (fun x => decide (x = (i : Int))) p
  have hcn := h.cn (i : Int) (by omega)
  have hd : rd (degS par (par.length + 1) 0) (i : Int) = c + 1 := by
   rw [rd_nat, zq105 par (par.length + 1) 0 i (by omega), Nat.zero_add, zq35, hcn, hc]
   by_cases g : (i : Int) > 0
   ·rw [if_pos g, if_pos g]; omega
   ·rw [if_neg g, if_neg g]; omega
  have hlf := zq122 par par.length 0
  rw [hd]
  by_cases g : (i : Int) > 0
  ·have hw := zq108 (leafL par par.length 0) (i : Int) (by omega)
   have hmem : decide ((i : Int) ∈ leafL par par.length 0) = (c + 1 == 1) := by
    rw [if_pos g] at hcn
    have hz := zq44 (i : Int) par
    rw [hcn] at hz
    have h2 := zq123 par (i : Int) par.length 0
    by_cases e : c = 0
    ·rw [decide_eq_true (h2.2 ⟨by omega, by omega, hz.1 (by omega)⟩), e]; rfl
    ·rw [decide_eq_false (fun hm => e (by have := hz.2 (h2.1 hm).2.2; omega))]
     symm
     rw [beq_eq_false_iff_ne]
     omega
   refine Ev.step (fun k => by rw [laws_FnTreesAreWords.l1, if_neg (by omega), if_pos (by rw [w64 (by omega) (by omega)]), if_pos g]) ?_
   refine Ev.bind hw ?_
   rw [hmem]
   exact Ev.congr (fun k => by rw [bne_self_eq_false, if_neg (by simp), w64 (by omega) (by omega)]) H
  ·exact Ev.step (fun k => by rw [laws_FnTreesAreWords.l1, if_neg (by omega), if_pos (by rw [w64 (by omega) (by omega)]), if_neg g, w64 (x := (i : Int) + 1) (by omega) (by omega)]) H
 | x :: t, p, c, hp, hc => by
  have hlen : (word.length : Int) = (p.length : Int) + t.length + 1 := by rw [← hp]; simp; omega
  have hx : rd word (p.length : Int) = x := by rw [← hp]; exact rd_mid p x t
  have hcr := zq30 (fun x => decide (x = (i : Int))) p
  have h1 := h.len
  have h2 := h.le
  by_cases e : x = (i : Int)
  ·have ih := tw_l1 par word h i hi r H t (p ++ [x]) (c + 1) (by rw [← hp]; simp) (by rw [zq31, cnt, if_pos (by simpa using e), hc]; simp [cnt])
   rw [zq0 p x] at ih
   refine Ev.step (fun k => ?_) ih
   show laws_FnTreesAreWords.l1 (k + 1) word (leafL par par.length 0) (i : Int) (rd (degS par (par.length + 1) 0) i) c (degS par (par.length + 1) 0) ((degS par (par.length + 1) 0).length : Int) (i : Int) word (word.length : Int) (p.length : Int) = _
   rw [laws_FnTreesAreWords.l1, if_pos (by omega), if_pos (by omega), if_pos (by omega), hx, if_pos e, w64 (x := c + 1) (by omega) (by omega), w64 (by omega) (by omega)]
  ·have ih := tw_l1 par word h i hi r H t (p ++ [x]) c (by rw [← hp]; simp) (by rw [zq31, cnt, if_neg (by simpa using e), hc]; simp [cnt])
   rw [zq0 p x] at ih
   refine Ev.step (fun k => ?_) ih
   show laws_FnTreesAreWords.l1 (k + 1) word (leafL par par.length 0) (i : Int) (rd (degS par (par.length + 1) 0) i) c (degS par (par.length + 1) 0) ((degS par (par.length + 1) 0).length : Int) (i : Int) word (word.length : Int) (p.length : Int) = _
   rw [laws_FnTreesAreWords.l1, if_pos (by omega), if_pos (by omega), if_pos (by omega), hx, if_neg e, w64 (by omega) (by omega)]
theorem tw_l0 (par word : List Int) (h : TW par word) : ∀ (d i : Nat), i + d = par.length + 1 → Ev (fun k => laws_FnTreesAreWords.l0 k word (leafL par par.length 0) (degS par (par.length + 1) 0) ((degS par (par.length + 1) 0).length : Int) (i : Int)) true
 | 0, i, hd => by
  have hl := zq104 par (par.length + 1) 0
  exact Ev.ret fun k => by rw [laws_FnTreesAreWords.l0, if_neg (by omega)]
 | d + 1, i, hd => by
  have hl := zq104 par (par.length + 1) 0
  have ih := tw_l0 par word h d (i + 1) (by omega)
  rw [show ((i + 1 : Nat) : Int) = (i : Int) + 1 by omega] at ih
  refine Ev.step (fun k => ?_) (tw_l1 par word h i (by omega) true ih word [] 0 rfl rfl)
  show laws_FnTreesAreWords.l0 (k + 1) word (leafL par par.length 0) (degS par (par.length + 1) 0) ((degS par (par.length + 1) 0).length : Int) (i : Int) = _
  rw [laws_FnTreesAreWords.l0, if_pos (by omega), if_pos (by omega), if_pos (by omega)]
  rfl
theorem zq125 (par : List Int) (ht : isTr par = true) (hn : 1 ≤ par.length) (x : Int) (hx : x ∈ prufS par (par.length - 1) [] []) : 0 ≤ x ∧ x ≤ par.length := by
 obtain ⟨h8, h20, _⟩ := (zq17 par).1 ht
 have hl : (prufS par (par.length - 1) [] []).length = par.length - 1 := by rw [zq49]; simp
 have h := zq28 (prufS par (par.length - 1) [] [])
 rw [zq62 par ht hn] at h
 obtain ⟨j, hj, e⟩ := in_rd _ x hx
 have h1 := h.at_ j (by omega)
 rw [zq11 _ _ _ hj, e] at h1
 have h2 := h.sq.range _ (rd_in _ j (by rw [h.len]; omega))
 refine h20 x ?_
 rw [← h1]
 exact rd_mem par _ (by omega) (by omega)
theorem tw_j2 (par : List Int) (hl : par.length ≤ 1000) : Ev (fun k => laws_FnTreesAreWords.j2 k par (prR par).1 (prR par).2) true := by
 by_cases c : isTr par = true ∧ 1 ≤ par.length
 ·have hpr : prR par = (prufS par (par.length - 1) [] [], true) := by unfold prR; rw [if_pos c]
  rw [hpr]
  obtain ⟨ht, hn⟩ := c
  have htw := TW.of par ht hn
  have h8 := htw.le
  have hwl := htw.len
  have e1 := (zq80 (prufS par (par.length - 1) [] []) (by omega)).2
  have htp : tpR (prufS par (par.length - 1) [] []) = (par, true) := by
   unfold tpR
   rw [if_pos ⟨by omega, (zq2 _ _ _).2 fun x hx => by have := zq125 par ht hn x hx; omega⟩, zq62 par ht hn]
  rw [htp] at e1
  have hi := zq87 par (by omega)
  rw [ht] at hi
  have ed : Ev (fun k => impl_DegreesOf.f k par) (degS par (par.length + 1) 0, true) := by
   have h := zq106 par (by omega) (par.length + 1) 0 [] (by omega) (by simp)
   refine Ev.congr (fun k => rfl) (Ev.bind hi (Ev.congr (fun k => ?_) h))
   show (if true = true then _ else _) = _
   rw [if_pos rfl, w64 (by omega) (by omega)]
   rfl
  have el : Ev (fun k => impl_LeavesOf.f k par) (leafL par par.length 0, true) := by
   have h := zq124 par (by omega) par.length 0 [] (by omega) (by simp)
   exact Ev.congr (fun k => rfl) (Ev.bind hi (Ev.congr (fun k => if_pos rfl) h))
  refine Ev.step (fun k => by rw [laws_FnTreesAreWords.j2, if_pos rfl]) (Ev.bind e1 (Ev.bind ed (Ev.bind el ?_)))
  refine Ev.congr (fun k => by rw [if_pos rfl, if_pos rfl, if_pos rfl]) (Ev.bind (zq110 par (by omega)) ?_)
  have hne : (((prufS par (par.length - 1) [] []).length : Int) != wrap64 ((par.length : Int) - 1)) = false := by
   rw [w64 (by omega) (by omega)]
   have : ((prufS par (par.length - 1) [] []).length : Int) = (par.length : Int) - 1 := by omega
   rw [this, bne_self_eq_false]
  refine Ev.congr (fun k => by rw [if_pos rfl, hne]) ?_
  refine Ev.step (fun k => by rw [laws_FnTreesAreWords.j3, if_neg (by simp)]) ?_
  exact tw_l0 par _ htw (par.length + 1) 0 (by omega)
 ·have hpr : prR par = ([], false) := by unfold prR; rw [if_neg c]
  rw [hpr]
  exact Ev.ret fun k => by rw [laws_FnTreesAreWords.j2, if_neg (by simp)]
theorem zq126 (code : List Int) (hc : ∀ x ∈ code, 0 ≤ x ∧ x ≤ 255) (n : Nat) (hn : n ≤ 8) (h1 : 1 ≤ n) : ∀ (d : Nat) (w : List Int) (at_ seed b : Int), w.length + d = n - 1 → Rdy at_ b → b + 2 * d ≤ 1000000 →
  ∃ r : List Int, r.length ≤ 200 ∧ Ev (fun k => spec_DrawTreeOfPrufer.l0 k (n : Int) w code at_ seed) r
 | 0, w, at_, seed, b, hw, h, hb => by
  obtain ⟨w3, a3, s3, e3, q0, q1, r3⟩ := zq112 code hc at_ seed 14 b h (by omega)
  refine Exists.elim (show ∃ q : List Int, q.length ≤ 200 ∧ (if w3 = 0 then ((spec_l1Cur_among.f code a3 s3 (([(-1), 0, wrap64 ((n : Int) + 1), wrap64 ((n : Int) + 2)] : List Int))).bind fun bt359 => (if w.length < 17592186044416 then (some (w ++ [bt359.1])) else (none))) else (if w3 = 1 then ((spec_l1Cur_pick.f code a3 s3 2).bind fun bt365 => (if 0 ≤ (wrap64 (7 + bt365.1)) then (if (wrap64 (7 + bt365.1) : Int).toNat ≤ 35184372088832 then (some (List.replicate (wrap64 (7 + bt365.1) : Int).toNat 0)) else (none)) else (none))) else (some w))) = some q from ?_) ?_
  ·by_cases w0 : w3 = 0
   ·obtain ⟨x, a4, s4, e4, x0, r4⟩ := zq113 code hc a3 s3 [(-1), 0, wrap64 ((n : Int) + 1), wrap64 ((n : Int) + 2)] (by simp) (b + 2) r3 (by omega)
    exact ⟨w ++ [x], by simp; omega, by rw [if_pos w0, e4, Option.bind_some, if_pos (by omega)]⟩
   ·rw [if_neg w0]
    by_cases w1 : w3 = 1
    ·obtain ⟨x, a4, s4, e4, x0, x1, r4⟩ := zq112 code hc a3 s3 2 (b + 2) r3 (by omega)
     have e8 : wrap64 (7 + x) = 7 + x := w64 (by omega) (by omega)
     refine ⟨List.replicate (7 + x).toNat 0, by simp; omega, ?_⟩
     rw [if_pos w1, e4, Option.bind_some]
     simp only [e8]
     rw [if_pos (by omega), if_pos (by omega)]
    ·rw [if_neg w1]
     exact ⟨w, by omega, rfl⟩
  ·rintro q ⟨h2, h3⟩
   refine ⟨q, h2, Ev.ret fun k => ?_⟩
   rw [spec_DrawTreeOfPrufer.l0, w64 (x := (n : Int) - 1) (by omega) (by omega), if_neg (by omega), e3, Option.bind_some]
   exact h3
 | d + 1, w, at_, seed, b, hw, h, hb => by
  obtain ⟨v, a1, s1, e1, q0, q1, r1⟩ := zq112 code hc at_ seed (wrap64 ((n : Int) + 1)) b h (by omega)
  obtain ⟨r, h2, h3⟩ := zq126 code hc n hn h1 d (w ++ [v]) a1 s1 (b + 2) (by simp; omega) r1 (by omega)
  refine ⟨r, h2, Ev.step (fun k => ?_) h3⟩
  show spec_DrawTreeOfPrufer.l0 (k + 1) (n : Int) w code at_ seed = _
  rw [spec_DrawTreeOfPrufer.l0, w64 (x := (n : Int) - 1) (by omega) (by omega), if_pos (by omega), e1, Option.bind_some, if_pos (by omega)]
theorem tp_draw (code : List Int) (hc : ∀ x ∈ code, 0 ≤ x ∧ x ≤ 255) : ∃ r : List Int, r.length ≤ 200 ∧ Ev (fun k => spec_DrawTreeOfPrufer.f k code) r := by
 obtain ⟨v, a1, s1, e1, q0, q1, r1⟩ := zq112 code hc 0 0 8 0 ⟨by omega, by omega⟩ (by omega)
 obtain ⟨r, h2, h3⟩ := zq126 code hc (1 + v).toNat (by omega) (by omega) ((1 + v).toNat - 1) [] a1 s1 (0 + 2) (by simp) r1 (by omega)
 refine ⟨r, h2, Ev.congr (fun k => by rw [spec_DrawTreeOfPrufer.f, e1, Option.bind_some, w64 (by omega) (by omega), show (1 : Int) + v = (((1 + v).toNat : Nat) : Int) by omega, Int.toNat_natCast]) h3⟩
theorem FnTreesAreWords : laws_FnTreesAreWords.Pure := by
 intro l0 l1 hm0 _ hw0 hm1 _ hw1
 have hbig : ∃ b, laws_big.f l0 l1 = some b := by
  unfold laws_big.f
  by_cases c : (l0.length : Int) > 1048576
  ·rw [if_pos c]; exact ⟨true, rfl⟩
  ·rw [if_neg c]; exact ⟨_, rfl⟩
 obtain ⟨b, hb⟩ := hbig
 cases b with
 | true => exact ⟨0, by rw [laws_FnTreesAreWords.f, hb]; rfl⟩
 | false =>
  have hc0 : ∀ x ∈ l0, 0 ≤ x ∧ x ≤ 255 := fun x hx => by
   have := hw0 x hx
   simpa [Lit.wf, IntKind.min, IntKind.max, IntKind.signed, IntKind.bits] using this
  have hc1 : ∀ x ∈ l1, 0 ≤ x ∧ x ≤ 255 := fun x hx => by
   have := hw1 x hx
   simpa [Lit.wf, IntKind.min, IntKind.max, IntKind.signed, IntKind.bits] using this
  obtain ⟨t, a_, s_, htl, _, hT⟩ := zq121 l0 hc0 0 0 7 (by omega) 0 ⟨by omega, by omega⟩ (by omega)
  have hD : Ev (fun k => spec_DrawPruferOf.f k l0) t := Ev.bind hT (Ev.now _)
  obtain ⟨q, hql, hD2⟩ := tp_draw l1 hc1
  have hpl : (prR t).1.length ≤ 1000000 := by
   unfold prR
   split
   ·show (prufS t (t.length - 1) [] []).length ≤ _
    rw [zq49]; simp; omega
   ·simp
  have htl2 : (tpR q).1.length ≤ 1000 := by
   unfold tpR
   split
   ·show (treeS q).length ≤ _
    rw [zq58]; omega
   ·simp
  refine Ev.rounds ?_
  refine Ev.congr (fun k => by rw [laws_FnTreesAreWords.f, hb, Option.bind_some, if_neg (by simp)]) ?_
  refine Ev.bind hD ?_
  obtain ⟨e2, e1⟩ := zq99 t (by omega)
  refine Ev.bind e1 (Ev.bind e2 ?_)
  refine Ev.congr (fun k => by rw [bne_self_eq_false, if_neg (by simp)]) (Ev.bind (zq110 _ hpl) ?_)
  refine Ev.congr (fun k => rfl) ?_
  refine Ev.step (fun k => by rw [laws_FnTreesAreWords.j0, if_neg (by simp)]) ?_
  refine Ev.bind hD2 ?_
  obtain ⟨f2, f1⟩ := zq80 q (by omega)
  refine Ev.bind f1 (Ev.bind f2 ?_)
  refine Ev.congr (fun k => by rw [bne_self_eq_false, if_neg (by simp)]) (Ev.bind (zq110 _ (by omega)) ?_)
  refine Ev.step (fun k => by rw [laws_FnTreesAreWords.j1, if_neg (by simp)]) ?_
  by_cases c : q.length < 8 ∧ inAll 0 ((q.length : Int) + 1) q = true
  ·have htp : tpR q = (treeS q, true) := by unfold tpR; rw [if_pos c]
   rw [htp]
   have hin := (zq2 _ _ _).1 c.2
   have htr := zq59 q hin (by omega)
   have hlen := zq58 q
   have hp := (zq99 (treeS q) (by omega)).2
   have hpr : prR (treeS q) = (q, true) := by
    unfold prR
    rw [if_pos ⟨htr, by omega⟩, hlen, show q.length + 1 - 1 = q.length by omega, zq57]
   rw [hpr] at hp
   have hi := zq87 (treeS q) (by omega)
   rw [htr] at hi
   refine Ev.congr (fun k => by rw [if_pos rfl]) (Ev.bind hp ?_)
   refine Ev.congr (fun k => by rw [if_pos rfl]) (Ev.bind (zq110 q (by omega)) ?_)
   refine Ev.congr (fun k => by rw [if_pos rfl]) (Ev.bind (show Ev (fun k => impl_IsTree.f k (treeS q)) true from Ev.bind hi (Ev.now _)) ?_)
   exact Ev.congr (fun k => by rw [if_pos rfl]) (tw_j2 t (by omega))
  ·have htp : tpR q = ([], false) := by unfold tpR; rw [if_neg c]
   rw [htp]
   exact Ev.congr (fun k => by rw [if_neg (by simp)]) (tw_j2 t (by omega))

end Go.Proofs.Ytmollfkakalagaa.Pure
