/- Trees are listed by their words and counted, and as many have each number of inversions as parking functions have it as distance, for every draw. -/
import Derived.Test.YtkbdjbmalpkkfaaVFnTreesListedSized
import Derived.Test.YtkbdjbmalpkkfaaPFnTreesListedx
import Derived.Laws.BitsLemmas
import Derived.Lib.EndianBits
namespace Go.Proofs.Ytkbdjbmalpkkfaa.PrintWords
set_option linter.defProp false in
def sized_ints := @Go.Proofs.YtkbdjbmalpkkfaaW.PrintWords.sized_ints
end Go.Proofs.Ytkbdjbmalpkkfaa.PrintWords
namespace Go.Proofs.Ytkbdjbmalpkkfaa.Pure
open Go.RowKit Go.Proofs.Ytkbdjbmalpkkfaa.PFnTreesListed Go.Proofs.YtkbdjbmalpkkfaaW.PrintWords Go.Proofs.YtkbdjbmalpkkfaaW.PrintLast
set_option linter.unusedVariables false
set_option linter.unusedSimpArgs false

theorem w64 {x : Int} (h0 : -9223372036854775808 ≤ x) (h1 : x ≤ 9223372036854775807) : wrap64 x = x := by
 unfold wrap64
 omega
theorem rd_mid (p : List Int) (h : Int) (t : List Int) : rd (p ++ h :: t) (p.length : Int) = h := by
 unfold rd
 simp
theorem rd_nat (l : List Int) (i : Nat) : rd l (i : Int) = l.getD i 0 := by
 unfold rd
 simp
theorem Ev.ret {α : Type} {g : Nat → Option α} {r : α} (h : ∀ k, g (k + 1) = some r) : Ev g r :=
 Ev.step (f := fun _ => some r) h (Ev.now r)

theorem zq0 (p : List Int) (h : Int) : (((p ++ [h]).length : Nat) : Int) = (p.length : Int) + 1 := by simp
theorem zq1 (p : List Int) (h : Int) (t : List Int) : (p ++ [h]) ++ t = p ++ h :: t := by simp
theorem len_mid (p : List Int) (h : Int) (t : List Int) : ((p ++ h :: t).length : Int) = (p.length : Int) + t.length + 1 := by simp; omega

theorem and255 (x : Int) (h0 : 0 ≤ x) (h1 : x < 18446744073709551616) : 0 ≤ Go.bits .and .u64 x 255 ∧ Go.bits .and .u64 x 255 ≤ 255 := by
 have h : Go.bits .and .u64 x 255 = x % 256 := bits_mask .u64 64 (by decide) wraps_u64 8 (by decide) x h0 h1
 rw [h]
 omega
theorem wrapu (x : Int) : 0 ≤ IntKind.u64.wrap x ∧ IntKind.u64.wrap x < 18446744073709551616 := by
 rw [IntKind.wrap_u64]
 omega
theorem zq2 (code : List Int) (hc : ∀ x ∈ code, 0 ≤ x ∧ x ≤ 255) (at_ seed : Int) (h0 : 0 ≤ at_) (h1 : at_ ≤ 1000000000000) :
  ∃ b s, spec_l1Cur_next.f code at_ seed = some (b, at_ + 1, s) ∧ 0 ≤ b ∧ b ≤ 255 := by
 have fin : ∀ q : Int, 0 ≤ wrap64 (Go.bits .and .u64 (IntKind.u64.wrap q / 1099511627776) 255) ∧ wrap64 (Go.bits .and .u64 (IntKind.u64.wrap q / 1099511627776) 255) ≤ 255 := fun q => by
  have hq := wrapu q
  have := and255 (IntKind.u64.wrap q / 1099511627776) (by omega) (by omega)
  rw [w64 (by omega) (by omega)]
  exact this
 unfold spec_l1Cur_next.f
 rw [w64 (x := at_ + 1) (by omega) (by omega)]
 by_cases c : at_ < (code.length : Int)
 ·have hb : 0 ≤ rd code at_ ∧ rd code at_ ≤ 255 := by
   refine hc _ ?_
   unfold rd
   rw [List.getD_eq_getElem?_getD, List.getElem?_eq_getElem (by omega)]
   exact List.getElem_mem _
  rw [if_pos c, if_pos h0]
  by_cases d : at_ + 1 ≤ (code.length : Int)
  ·rw [if_pos d]
   exact ⟨_, _, rfl, by rw [w64 (by omega) (by omega)]; exact hb⟩
  ·rw [if_neg d]
   exact ⟨_, _, rfl, fin _⟩
 ·rw [if_neg c]
  by_cases d : at_ + 1 ≤ (code.length : Int)
  ·rw [if_pos d]
   exact ⟨_, _, rfl, by omega, by omega⟩
  ·rw [if_neg d]
   exact ⟨_, _, rfl, fin _⟩
def Rdy (at_ : Int) (n : Int) : Prop := 0 ≤ at_ ∧ at_ ≤ n
theorem Rdy.mono {a n m : Int} (h : Rdy a n) (hm : n ≤ m) : Rdy a m := ⟨h.1, Int.le_trans h.2 hm⟩
theorem zq3 (code : List Int) (hc : ∀ x ∈ code, 0 ≤ x ∧ x ≤ 255) (at_ seed n : Int) (b : Int) (h : Rdy at_ b) (hb : b ≤ 100000000000) :
  ∃ v a s, spec_l1Cur_pick.f code at_ seed n = some (v, a, s) ∧ 0 ≤ v ∧ (v = 0 ∨ v < n) ∧ Rdy a (b + 2) := by
 obtain ⟨h0, h1⟩ := h
 unfold spec_l1Cur_pick.f
 by_cases c : n ≤ 1
 ·rw [if_pos c]
  exact ⟨0, at_, seed, rfl, by omega, .inl rfl, h0, by omega⟩
 ·rw [if_neg c]
  obtain ⟨x, s, e, hx0, hx1⟩ := zq2 code hc at_ seed h0 (by omega)
  rw [e, Option.bind_some]
  by_cases d : n > 200
  ·rw [if_pos d]
   obtain ⟨y, s2, e2, hy0, hy1⟩ := zq2 code hc (at_ + 1) s (by omega) (by omega)
   simp only [e2, Option.bind_some]
   rw [if_neg (by omega), w64 (x := x * 256) (by omega) (by omega), w64 (by omega) (by omega)]
   exact ⟨_, _, _, rfl, Int.tmod_nonneg _ (by omega), .inr (Int.tmod_lt_of_pos _ (by omega)), by omega, by omega⟩
  ·rw [if_neg d, if_neg (by omega)]
   exact ⟨_, _, _, rfl, Int.tmod_nonneg _ (by omega), .inr (Int.tmod_lt_of_pos _ (by omega)), by show 0 ≤ at_ + 1; omega, by show at_ + 1 ≤ b + 2; omega⟩

theorem zq4 (code : List Int) (hc : ∀ x ∈ code, 0 ≤ x ∧ x ≤ 255) (at_ seed : Int) (l : List Int) (hl : 1 ≤ l.length) (b : Int) (h : Rdy at_ b) (hb : b ≤ 100000000000) :
  ∃ v a s, spec_l1Cur_among.f code at_ seed l = some (v, a, s) ∧ v ∈ l ∧ Rdy a (b + 2) := by
 obtain ⟨v, a, s, e, h0, h1, h2⟩ := zq3 code hc at_ seed (l.length : Int) b h hb
 unfold spec_l1Cur_among.f
 rw [e, Option.bind_some]
 have hlt : v < (l.length : Int) := by omega
 show ∃ v' a' s', (if 0 ≤ v then (if v < (l.length : Int) then some (rd l v, a, s) else none) else none) = some (v', a', s') ∧ _
 rw [if_pos h0, if_pos hlt]
 refine ⟨_, _, _, rfl, ?_, h2⟩
 unfold rd
 rw [List.getD_eq_getElem?_getD, List.getElem?_eq_getElem (by omega)]
 exact List.getElem_mem _

theorem zq5 (code : List Int) (hc : ∀ x ∈ code, 0 ≤ x ∧ x ≤ 255) (at_ seed n : Int) (b : Int) (h : Rdy at_ b) (hb : b ≤ 100000000000) :
  ∃ v a s, spec_l1Cur_one.f code at_ seed n = some (v, a, s) ∧ Rdy a (b + 2) := by
 obtain ⟨v, a, s, e, -, -, h2⟩ := zq3 code hc at_ seed n b h hb
 unfold spec_l1Cur_one.f
 rw [e, Option.bind_some]
 exact ⟨_, _, _, rfl, h2⟩
theorem zq6 (code : List Int) (hc : ∀ x ∈ code, 0 ≤ x ∧ x ≤ 255) (at_ seed n : Int) (hn0 : 0 ≤ n) (hn1 : n ≤ 100) (b : Int) (h : Rdy at_ b) (hb : b ≤ 10000000000) :
  ∃ v a s, spec_l1Cur_sized.f code at_ seed n = some (v, a, s) ∧ -1 ≤ v ∧ v ≤ n + 1 ∧ Rdy a (b + 4) := by
 obtain ⟨o, a, s, e, h2⟩ := zq5 code hc at_ seed 6 b h (by omega)
 unfold spec_l1Cur_sized.f
 rw [e, Option.bind_some, w64 (x := n + 1) (by omega) (by omega)]
 cases o with
 | true =>
  obtain ⟨v, a2, s2, e2, hv, h3⟩ := zq4 code hc a s [(-1), 0, 1, n, n + 1] (by simp) (b + 2) h2 (by omega)
  simp only [e2]
  refine ⟨_, _, _, rfl, ?_, ?_, ?_⟩
  ·simp at hv; omega
  ·simp at hv; omega
  ·exact h3.mono (by omega)
 | false =>
  obtain ⟨v, a2, s2, e2, hv, hv2, h3⟩ := zq3 code hc a s (n + 1) (b + 2) h2 (by omega)
  simp only [e2]
  exact ⟨_, _, _, rfl, by omega, by omega, h3.mono (by omega)⟩

def inAll (lo hi : Int) (l : List Int) : Bool := l.all fun n => decide (lo ≤ n) && decide (n ≤ hi)
theorem zq7 (lo hi : Int) (l : List Int) : inAll lo hi l = true ↔ ∀ x ∈ l, lo ≤ x ∧ x ≤ hi := by
 simp [inAll, List.all_eq_true]
def climb (par : List Int) : Nat → Int → Bool
 | 0, a => decide (a ≤ 0)
 | m + 1, a => if a > 0 then climb par m (rd par (a - 1)) else true
def up (par : List Int) : Nat → Int → Int
 | 0, a => a
 | m + 1, a => up par m (rd par (a - 1))
theorem zq8 (par : List Int) : ∀ (m : Nat) (a : Int), climb par m a = true ↔ ∃ j, j ≤ m ∧ up par j a ≤ 0
 | 0, a => by
  simp only [climb, decide_eq_true_eq]
  constructor
  ·exact fun h => ⟨0, Nat.le_refl _, h⟩
  ·rintro ⟨j, hj, h⟩
   obtain rfl : j = 0 := by omega
   exact h
 | m + 1, a => by
  rw [climb]
  by_cases c : a > 0
  ·rw [if_pos c, zq8 par m]
   constructor
   ·rintro ⟨j, hj, h⟩
    exact ⟨j + 1, by omega, h⟩
   ·rintro ⟨j, hj, h⟩
    cases j with
    | zero => exact absurd h (by simp only [up]; omega)
    | succ j => exact ⟨j, by omega, h⟩
  ·rw [if_neg c]
   exact ⟨fun _ => ⟨0, by omega, by simp only [up]; omega⟩, fun _ => rfl⟩
theorem zq9 : ∀ (n : Nat) (f : Nat → Int), (∀ i, i ≤ n → 1 ≤ f i ∧ f i ≤ n) → ∃ i j, i < j ∧ j ≤ n ∧ f i = f j
 | 0, f, h => by have := h 0 (by omega); omega
 | n + 1, f, h => by
  by_cases c : ∃ i, i ≤ n ∧ f i = f (n + 1)
  ·obtain ⟨i, hi, e⟩ := c
   exact ⟨i, n + 1, by omega, by omega, e⟩
  ·
   let g : Nat → Int := fun i => if f i > f (n + 1) then f i - 1 else f i
   have hg : ∀ i, i ≤ n → 1 ≤ g i ∧ g i ≤ n := by
    intro i hi
    have h1 := h i (by omega)
    have h2 := h (n + 1) (by omega)
    have h3 : f i ≠ f (n + 1) := fun e => c ⟨i, hi, e⟩
    show 1 ≤ (if f i > f (n + 1) then f i - 1 else f i) ∧ (if f i > f (n + 1) then f i - 1 else f i) ≤ n
    split <;> omega
   obtain ⟨i, j, hij, hj, e⟩ := zq9 n g hg
   have h3 : f i ≠ f (n + 1) := fun e => c ⟨i, by omega, e⟩
   have h4 : f j ≠ f (n + 1) := fun e => c ⟨j, by omega, e⟩
   refine ⟨i, j, hij, by omega, ?_⟩
   have e' : (if f i > f (n + 1) then f i - 1 else f i) = (if f j > f (n + 1) then f j - 1 else f j) := e
   split at e' <;> split at e' <;> omega
def isTr (par : List Int) : Bool := decide (par.length ≤ 8) && inAll 0 par.length par && (List.range par.length).all fun i => climb par par.length ((i : Int) + 1)

theorem zq10 {l : List Int} (h : l.Nodup) {i j : Nat} (hi : i < j) (hj : j < l.length) : l[i]'(by omega) ≠ l[j] :=
 List.pairwise_iff_getElem.1 h i j (by omega) hj hi
theorem zq11 (n : Nat) (l : List Int) (h : l.Nodup) (hr : ∀ v ∈ l, 0 ≤ v ∧ v ≤ n) : l.length ≤ n + 1 := by
 refine Classical.byContradiction fun c => ?_
 obtain ⟨i, j, hij, hj, e⟩ := zq9 (n + 1) (fun i => l.getD i 0 + 1) (fun i hi => by
  have hm : l.getD i 0 ∈ l := by
   rw [List.getD_eq_getElem?_getD, List.getElem?_eq_getElem (by omega)]
   exact List.getElem_mem _
  have := hr _ hm
  show 1 ≤ l.getD i 0 + 1 ∧ l.getD i 0 + 1 ≤ ((n + 1 : Nat) : Int)
  omega)
 have e2 : l.getD i 0 + 1 = l.getD j 0 + 1 := e
 rw [List.getD_eq_getElem?_getD, List.getD_eq_getElem?_getD, List.getElem?_eq_getElem (by omega), List.getElem?_eq_getElem (by omega)] at e2
 simp only [Option.getD_some] at e2
 exact zq10 h hij (by omega) (by omega)

theorem rd_set (l : List Int) (i j : Nat) (x : Int) (hi : i < l.length) : rd (l.set i x) (j : Int) = if j = i then x else rd l (j : Int) := by
 rw [rd_nat, rd_nat, List.getD_eq_getElem?_getD, List.getD_eq_getElem?_getD]
 by_cases c : j = i
 ·rw [if_pos c, c, List.getElem?_set_self hi]; rfl
 ·rw [if_neg c, List.getElem?_set_ne (fun e => c e.symm)]

theorem all_in : ∀ (n : Nat) (g : List Int), (∀ v : Int, 1 ≤ v → v ≤ n → v ∈ g) → n ≤ g.length
 | 0, g, _ => Nat.zero_le _
 | n + 1, g, h => by
  have hm : ((n + 1 : Nat) : Int) ∈ g := h _ (by omega) (by omega)
  have ih := all_in n (g.erase ((n + 1 : Nat) : Int)) fun v h1 h2 => (List.mem_erase_of_ne (by omega)).2 (h v h1 (by omega))
  rw [List.length_erase_of_mem hm] at ih
  have := List.length_pos_of_mem hm
  omega

def pk (gone rest : List Int) : Nat → Int
 | 0 => 0
 | d + 1 => if ((d : Int) + 1) ∉ gone ∧ ((d : Int) + 1) ∉ rest then (d : Int) + 1 else pk gone rest d
theorem pk_spec (gone rest : List Int) (u : Int) (hu : u ∉ gone ∧ u ∉ rest) (h1 : 1 ≤ u) : ∀ d : Nat, u ≤ d → (pk gone rest d ∉ gone ∧ pk gone rest d ∉ rest) ∧ 1 ≤ pk gone rest d ∧ pk gone rest d ≤ d
 | 0, h => by omega
 | d + 1, h => by
  rw [pk]
  by_cases c : ((d : Int) + 1) ∉ gone ∧ ((d : Int) + 1) ∉ rest
  ·rw [if_pos c]
   exact ⟨c, by omega, by omega⟩
  ·rw [if_neg c]
   have hd : u ≤ d := by
    refine Classical.byContradiction fun h2 => ?_
    have : u = (d : Int) + 1 := by omega
    rw [this] at hu
    exact absurd hu c
   obtain ⟨h3, h4, h5⟩ := pk_spec gone rest u hu h1 d hd
   exact ⟨h3, h4, by omega⟩
theorem zq12 (gone gone' rest rest' : List Int) (h : ∀ v : Int, 1 ≤ v → (v ∉ gone ∧ v ∉ rest ↔ v ∉ gone' ∧ v ∉ rest')) : ∀ d : Nat, pk gone rest d = pk gone' rest' d
 | 0 => rfl
 | d + 1 => by
  rw [pk, pk, zq12 gone gone' rest rest' h d]
  by_cases c : ((d : Int) + 1) ∉ gone ∧ ((d : Int) + 1) ∉ rest
  ·rw [if_pos c, if_pos ((h _ (by omega)).1 c)]
  ·rw [if_neg c, if_neg (fun h2 => c ((h _ (by omega)).2 h2))]
def gseq (n : Nat) : List Int → List Int → List Int
 | [], gone => gone
 | x :: t, gone => gseq n t (gone ++ [pk gone (x :: t) n])
def outS (n : Nat) : List Int → List Int → List Int → List Int
 | [], _, out => out
 | x :: t, gone, out => outS n t (gone ++ [pk gone (x :: t) n]) (out.set (pk gone (x :: t) n - 1).toNat x)
structure Sq (n : Nat) (whole gone : List Int) : Prop where
 nd : gone.Nodup
 range : ∀ v ∈ gone, 1 ≤ v ∧ v ≤ n
 le : gone.length ≤ n
 free : ∀ j : Nat, j < gone.length → rd gone (j : Int) ∉ whole.drop j
theorem zq13 (l : List Int) (x : Int) (j : Nat) (h : j < l.length) : rd (l ++ [x]) (j : Int) = rd l (j : Int) := by
 rw [rd_nat, rd_nat, List.getD_eq_getElem?_getD, List.getD_eq_getElem?_getD, List.getElem?_append_left h]
theorem zq14 (l : List Int) (x : Int) : rd (l ++ [x]) (l.length : Int) = x := by
 rw [rd_nat, List.getD_eq_getElem?_getD, List.getElem?_append_right (Nat.le_refl _)]
 simp
theorem rd_in (l : List Int) (j : Nat) (h : j < l.length) : rd l (j : Int) ∈ l := by
 rw [rd_nat, List.getD_eq_getElem?_getD, List.getElem?_eq_getElem h]
 exact List.getElem_mem h
theorem in_rd (l : List Int) (v : Int) (h : v ∈ l) : ∃ j : Nat, j < l.length ∧ rd l (j : Int) = v := by
 obtain ⟨j, hj, e⟩ := List.mem_iff_getElem.1 h
 refine ⟨j, hj, ?_⟩
 rw [rd_nat, List.getD_eq_getElem?_getD, List.getElem?_eq_getElem hj, e]
 rfl
theorem zq15 (n : Nat) (l : List Int) (h : l.length < n) : ∃ u : Int, 1 ≤ u ∧ u ≤ n ∧ u ∉ l := by
 refine Classical.byContradiction fun hn => ?_
 have := all_in n l fun v h0 h1 => Classical.byContradiction fun h2 => hn ⟨v, h0, h1, h2⟩
 omega
theorem free_pk (n : Nat) (gone t : List Int) (h : gone.length + t.length < n) : ∃ u : Int, 1 ≤ u ∧ u ≤ n ∧ u ∉ gone ∧ u ∉ t ++ [0] := by
 obtain ⟨u, h0, h1, h2⟩ := zq15 n (gone ++ t) (by simp; omega)
 rw [List.mem_append, not_or] at h2
 refine ⟨u, h0, h1, h2.1, fun hm => ?_⟩
 rcases List.mem_append.1 hm with h3 | h3
 ·exact h2.2 h3
 ·rw [List.mem_singleton] at h3; omega
theorem Sq.step {n : Nat} {word gone : List Int} (h : Sq n (word ++ [0]) gone) (hw : word.length + 1 = n) (hk : gone.length < n) :
  Sq n (word ++ [0]) (gone ++ [pk gone ((word ++ [0]).drop gone.length) n]) ∧ pk gone ((word ++ [0]).drop gone.length) n ∉ gone ∧ 1 ≤ pk gone ((word ++ [0]).drop gone.length) n ∧ pk gone ((word ++ [0]).drop gone.length) n ≤ n := by
 have hd : (word ++ [0]).drop gone.length = word.drop gone.length ++ [0] := by rw [List.drop_append_of_le_length (by omega)]
 obtain ⟨u, u0, u1, u2, u3⟩ := free_pk n gone (word.drop gone.length) (by rw [List.length_drop]; omega)
 rw [← hd] at u3
 obtain ⟨⟨p1, p2⟩, p3, p4⟩ := pk_spec gone ((word ++ [0]).drop gone.length) u ⟨u2, u3⟩ u0 n u1
 refine ⟨⟨?_, ?_, by simp; omega, ?_⟩, p1, p3, p4⟩
 ·refine List.nodup_append.2 ⟨h.nd, by simp, ?_⟩
  intro a ha b hb e
  rw [List.mem_singleton] at hb
  exact p1 (by rw [← hb, ← e]; exact ha)
 ·intro v hv
  rcases List.mem_append.1 hv with h2 | h2
  ·exact h.range v h2
  ·rw [List.mem_singleton] at h2; omega
 ·intro j hj
  rw [List.length_append, List.length_singleton] at hj
  by_cases c : j < gone.length
  ·rw [zq13 _ _ _ c]
   exact h.free j c
  ·obtain rfl : j = gone.length := by omega
   rw [zq14]
   exact p2
theorem Sq.none (n : Nat) (whole : List Int) : Sq n whole [] := ⟨by simp, by simp, by simp, by simp⟩
structure Told (n : Nat) (whole E T : List Int) : Prop where
 sq : Sq n whole E
 len : E.length = n
 tlen : T.length = n
 at_ : ∀ j : Nat, j < n → rd T (rd E (j : Int) - 1) = rd whole (j : Int)
structure OutOk (n : Nat) (whole gone out : List Int) : Prop where
 len : out.length = n
 told : ∀ j : Nat, j < gone.length → rd out (rd gone (j : Int) - 1) = rd whole (j : Int)
 left : ∀ v : Int, 1 ≤ v → v ≤ n → v ∉ gone → rd out (v - 1) = -1
theorem rd_setI (l : List Int) (v u x : Int) (h0 : 1 ≤ v) (h1 : v ≤ l.length) (h2 : 1 ≤ u) : rd (l.set (v - 1).toNat x) (u - 1) = if u = v then x else rd l (u - 1) := by
 have := rd_set l (v - 1).toNat (u - 1).toNat x (by omega)
 rw [show (((u - 1).toNat : Nat) : Int) = u - 1 by omega] at this
 rw [this]
 by_cases c : u = v
 ·rw [if_pos c, if_pos (by rw [c])]
 ·rw [if_neg c, if_neg (by omega)]
theorem OutOk.step {n : Nat} {whole gone out : List Int} (h : OutOk n whole gone out) (hs : Sq n whole gone) {v : Int} (hv : v ∉ gone) (h0 : 1 ≤ v) (h1 : v ≤ n) : OutOk n whole (gone ++ [v]) (out.set (v - 1).toNat (rd whole (gone.length : Int))) := by
 have hl := h.len
 refine ⟨by simp [hl], ?_, ?_⟩
 ·intro j hj
  rw [List.length_append, List.length_singleton] at hj
  by_cases c : j < gone.length
  ·have hm := rd_in gone j c
   have hr := hs.range _ hm
   rw [zq13 _ _ _ c, rd_setI _ _ _ _ h0 (by omega) hr.1, if_neg (fun e => hv (by rw [← e]; exact hm))]
   exact h.told j c
  ·obtain rfl : j = gone.length := by omega
   rw [zq14, rd_setI _ _ _ _ h0 (by omega) h0, if_pos rfl]
 ·intro u g0 g1 hu
  rw [List.mem_append, not_or, List.mem_singleton] at hu
  rw [rd_setI _ _ _ _ h0 (by omega) g0, if_neg hu.2]
  exact h.left u g0 g1 hu.1
theorem zq16 (n : Nat) (word : List Int) (hw : word.length + 1 = n) : ∀ (d : Nat) (gone out : List Int), gone.length + d = n → Sq n (word ++ [0]) gone → OutOk n (word ++ [0]) gone out →
  Told n (word ++ [0]) (gseq n ((word ++ [0]).drop gone.length) gone) (outS n ((word ++ [0]).drop gone.length) gone out)
 | 0, gone, out, hd, hs, ho => by
  have hl : (word ++ [0]).length = n := by simp; omega
  rw [List.drop_eq_nil_of_le (by omega), gseq, outS]
  exact ⟨hs, by omega, ho.len, fun j hj => ho.told j (by omega)⟩
 | d + 1, gone, out, hd, hs, ho => by
  have hl : (word ++ [0]).length = n := by simp; omega
  obtain ⟨s1, s2, s3, s4⟩ := hs.step hw (by omega)
  have hc : (word ++ [0]).drop gone.length = rd (word ++ [0]) (gone.length : Int) :: (word ++ [0]).drop (gone.length + 1) := by
   rw [List.drop_eq_getElem_cons (by omega), rd_nat, List.getD_eq_getElem?_getD, List.getElem?_eq_getElem (by omega)]
   rfl
  have ih := zq16 n word hw d (gone ++ [pk gone ((word ++ [0]).drop gone.length) n]) (out.set (pk gone ((word ++ [0]).drop gone.length) n - 1).toNat (rd (word ++ [0]) (gone.length : Int))) (by simp; omega) s1 (ho.step hs s2 s3 s4)
  rw [List.length_append, List.length_singleton] at ih
  rw [hc] at ih ⊢
  exact ih
theorem zq17 (n : Nat) (word : List Int) (hw : word.length + 1 = n) : Told n (word ++ [0]) (gseq n (word ++ [0]) []) (outS n (word ++ [0]) [] (List.replicate n (-1))) := by
 refine zq16 n word hw n [] (List.replicate n (-1)) (by simp) (Sq.none _ _) ⟨by simp, by simp, ?_⟩
 intro v h0 h1 _
 unfold rd
 rw [List.getD_eq_getElem?_getD, List.getElem?_replicate]
 rw [if_pos (by omega)]
 rfl
theorem Sq.covers {n : Nat} {whole E : List Int} (h : Sq n whole E) (hl : E.length = n) (v : Int) (h0 : 1 ≤ v) (h1 : v ≤ n) : ∃ j : Nat, j < n ∧ rd E (j : Int) = v := by
 have hm : v ∈ E := by
  refine Classical.byContradiction fun hn => ?_
  have := zq11 n (0 :: v :: E) (by
   refine List.nodup_cons.2 ⟨?_, List.nodup_cons.2 ⟨hn, h.nd⟩⟩
   intro hz
   rcases List.mem_cons.1 hz with e | e
   ·omega
   ·have := h.range 0 e; omega) (by
   intro u hu
   rcases List.mem_cons.1 hu with e | e
   ·omega
   ·rcases List.mem_cons.1 e with e | e
    ·omega
    ·have := h.range u e; omega)
  simp at this
  omega
 obtain ⟨j, hj, e⟩ := in_rd E v hm
 exact ⟨j, by omega, e⟩
theorem Sq.inj {n : Nat} {whole E : List Int} (h : Sq n whole E) {i j : Nat} (hi : i < E.length) (hj : j < E.length) (e : rd E (i : Int) = rd E (j : Int)) : i = j := by
 rw [rd_nat, rd_nat, List.getD_eq_getElem?_getD, List.getD_eq_getElem?_getD, List.getElem?_eq_getElem hi, List.getElem?_eq_getElem hj] at e
 have e2 : E[i] = E[j] := e
 rcases Nat.lt_trichotomy i j with c | c | c
 ·exact absurd e2 (zq10 h.nd c hj)
 ·exact c
 ·exact absurd e2.symm (zq10 h.nd c hi)
theorem Told.unique {n : Nat} {whole E T T' : List Int} (h : Told n whole E T) (hl : T'.length = n) (ha : ∀ j : Nat, j < n → rd T' (rd E (j : Int) - 1) = rd whole (j : Int)) : T' = T := by
 apply List.ext_getElem (by rw [hl, h.tlen])
 intro i h1 h2
 obtain ⟨j, hj, e⟩ := h.sq.covers h.len ((i : Int) + 1) (by omega) (by omega)
 have a1 := ha j hj
 have a2 := h.at_ j hj
 rw [e, show (i : Int) + 1 - 1 = (i : Int) by omega, rd_nat, List.getD_eq_getElem?_getD] at a1 a2
 rw [List.getElem?_eq_getElem h1] at a1
 rw [List.getElem?_eq_getElem h2] at a2
 exact a1.trans a2.symm
theorem Told.later {n : Nat} {word E T : List Int} (h : Told n (word ++ [0]) E T) (hw : word.length + 1 = n) (hx : ∀ x ∈ word, 0 ≤ x ∧ x ≤ n) (j : Nat) (hj : j < n) : rd (word ++ [0]) (j : Int) = 0 ∨ ∃ i : Nat, j < i ∧ i < n ∧ rd E (i : Int) = rd (word ++ [0]) (j : Int) := by
 have hl : (word ++ [0]).length = n := by simp; omega
 have hr : 0 ≤ rd (word ++ [0]) (j : Int) ∧ rd (word ++ [0]) (j : Int) ≤ n := by
  rcases List.mem_append.1 (rd_in (word ++ [0]) j (by omega)) with h1 | h1
  ·exact hx _ h1
  ·rw [List.mem_singleton] at h1; omega
 by_cases c : rd (word ++ [0]) (j : Int) = 0
 ·exact .inl c
 ·obtain ⟨i, hi, e⟩ := h.sq.covers h.len _ (by omega) hr.2
  refine .inr ⟨i, Classical.byContradiction fun hn => ?_, hi, e⟩
  refine h.sq.free i (by rw [h.len]; exact hi) ?_
  rw [e]
  have hi2 : i ≤ j := by omega
  rw [rd_nat, List.getD_eq_getElem?_getD, List.getElem?_eq_getElem (by omega)]
  show (word ++ [0])[j] ∈ _
  rw [List.mem_iff_getElem]
  refine ⟨j - i, by rw [List.length_drop]; omega, ?_⟩
  rw [List.getElem_drop]
  congr 1
  omega

structure Rch (n : Nat) (reached : List Int) : Prop where
 nd : reached.Nodup
 zero : 0 ∈ reached
 range : ∀ v ∈ reached, 0 ≤ v ∧ v ≤ n
theorem Rch.add {n : Nat} {reached : List Int} (h : Rch n reached) {v : Int} (hv : v ∉ reached) (h0 : 0 ≤ v) (h1 : v ≤ n) : Rch n (reached ++ [v]) := by
 refine ⟨List.nodup_append.2 ⟨h.nd, by simp, ?_⟩, List.mem_append_left _ h.zero, ?_⟩
 ·intro a ha b hb e
  rw [List.mem_singleton] at hb
  exact hv (by rw [← hb, ← e]; exact ha)
 ·intro u hu
  rcases List.mem_append.1 hu with h2 | h2
  ·exact h.range u h2
  ·rw [List.mem_singleton] at h2; omega

def hgt (par : List Int) : Nat → Int → Nat
 | 0, _ => 0
 | m + 1, a => if a > 0 then hgt par m (rd par (a - 1)) + 1 else 0
theorem zq18 (par : List Int) : ∀ (m : Nat) (a : Int), climb par m a = true → hgt par (m + 1) a = hgt par m a
 | 0, a, h => by
  simp only [climb, decide_eq_true_eq] at h
  simp only [hgt]
  rw [if_neg (by omega)]
 | m + 1, a, h => by
  rw [climb] at h
  show (if a > 0 then hgt par (m + 1) (rd par (a - 1)) + 1 else 0) = (if a > 0 then hgt par m (rd par (a - 1)) + 1 else 0)
  by_cases c : a > 0
  ·rw [if_pos c] at h
   rw [if_pos c, if_pos c, zq18 par m _ h]
  ·rw [if_neg c, if_neg c]
def dep (par : List Int) (a : Int) : Nat := hgt par par.length a
theorem zq19 (par : List Int) : isTr par = true ↔ par.length ≤ 8 ∧ (∀ x ∈ par, 0 ≤ x ∧ x ≤ par.length) ∧ ∀ a : Int, 1 ≤ a → a ≤ par.length → climb par par.length a = true := by
 simp only [isTr, Bool.and_eq_true, decide_eq_true_eq, zq7, List.all_eq_true, List.mem_range]
 constructor
 ·rintro ⟨⟨h1, h2⟩, h3⟩
  refine ⟨h1, h2, fun a ha hb => ?_⟩
  have := h3 (a - 1).toNat (by omega)
  rwa [show (((a - 1).toNat : Nat) : Int) + 1 = a by omega] at this
 ·rintro ⟨h1, h2, h3⟩
  exact ⟨⟨h1, h2⟩, fun i hi => h3 _ (by omega) (by omega)⟩
theorem rd_mem (l : List Int) (i : Int) (h0 : 0 ≤ i) (h1 : i < l.length) : rd l i ∈ l := by
 unfold rd
 rw [List.getD_eq_getElem?_getD, List.getElem?_eq_getElem (by omega)]
 exact List.getElem_mem _
theorem zq20 (par : List Int) (ht : isTr par = true) (a : Int) (h0 : 1 ≤ a) (h1 : a ≤ par.length) : dep par a = dep par (rd par (a - 1)) + 1 := by
 obtain ⟨_, h2, h3⟩ := (zq19 par).1 ht
 have hc := h3 a h0 h1
 unfold dep
 obtain ⟨m, hm⟩ : ∃ m, par.length = m + 1 := ⟨par.length - 1, by omega⟩
 rw [hm] at hc ⊢
 rw [climb, if_pos (by omega)] at hc
 rw [hgt, if_pos (by omega), zq18 par m _ hc]

theorem zq21 (x : Int) : ∀ (t p : List Int), p.length + t.length ≤ 35184372088832 →
  Ev (fun k => spec_l1Has.l0 k x (p ++ t) ((p ++ t).length : Int) (p.length : Int)) (decide (x ∈ t))
 | [], p, _ => by
  refine Ev.ret fun k => ?_
  rw [spec_l1Has.l0, if_neg (by simp)]
  simp
 | h :: t, p, hn => by
  have hn' : p.length + t.length + 1 ≤ 35184372088832 := by simpa [Nat.add_assoc] using hn
  have hm := len_mid p h t
  by_cases c : h = x
  ·rw [decide_eq_true (by simp [c] : x ∈ h :: t)]
   refine Ev.ret fun k => ?_
   rw [spec_l1Has.l0, if_pos (by omega), if_pos (by omega), if_pos (by omega), rd_mid, if_pos c]
  ·have ih := zq21 x t (p ++ [h]) (by simp; omega)
   rw [zq1, zq0] at ih
   have e : decide (x ∈ h :: t) = decide (x ∈ t) := decide_eq_decide.2 (by simp [Ne.symm c])
   rw [e]
   refine Ev.step (fun k => ?_) ih
   show spec_l1Has.l0 (k + 1) x (p ++ h :: t) ((p ++ h :: t).length : Int) (p.length : Int) = _
   rw [spec_l1Has.l0, if_pos (by omega), if_pos (by omega), if_pos (by omega), rd_mid, if_neg c, w64 (by omega) (by omega)]
theorem zq22 (l : List Int) (x : Int) (hl : l.length ≤ 35184372088832) : Ev (fun k => spec_l1Has.f k l x) (decide (x ∈ l)) :=
 zq21 x l [] (by simpa using hl)

structure EInv (n : Nat) (E O par reached : List Int) : Prop where
 plen : par.length = n
 rch : Rch n reached
 inv : ∀ j : Nat, j < n → rd E (j : Int) ∈ reached → rd O (j : Int) ∈ reached ∧ rd par (rd E (j : Int) - 1) = rd O (j : Int)
def Closed (n : Nat) (E O reached : List Int) (u : Int) : Prop := ∀ j : Nat, j < n → rd O (j : Int) = u → rd E (j : Int) ∈ reached
theorem zq23 (n : Nat) (hn : n ≤ 1000) (E O T : List Int) (hE : E.length = n) (hO : O.length = n) (nd : ∀ i j : Nat, i < n → j < n → rd E (i : Int) = rd E (j : Int) → i = j) (rE : ∀ x ∈ E, 1 ≤ x ∧ x ≤ n) (k9 : Nat) (hk9 : k9 ≤ 2000) : ∀ (d i : Nat) (par reached : List Int), i + d = n → EInv n E O par reached → k9 < reached.length →
  (∀ m : Nat, m < k9 → Closed n E O reached (rd reached (m : Int))) → (∀ j : Nat, j < i → rd O (j : Int) = rd reached (k9 : Int) → rd E (j : Int) ∈ reached) →
  (∀ (p2 r2 : List Int), EInv n E O p2 r2 → k9 < r2.length → (∀ m : Nat, m < k9 + 1 → Closed n E O r2 (rd r2 (m : Int))) → Ev (fun k => spec_trEdges.l0 k E O p2 r2 ((k9 : Int) + 1)) T) →
  Ev (fun k => spec_trEdges.l1 k E O par reached (k9 : Int) (n : Int) (i : Int)) T
 | 0, i, par, reached, hd, hv, hk, hcl, hci, H => by
  refine Ev.step (fun k => ?_) (H par reached hv hk (fun m hm => ?_))
  ·show spec_trEdges.l1 (k + 1) E O par reached (k9 : Int) (n : Int) (i : Int) = _
   rw [spec_trEdges.l1, if_neg (by omega), w64 (by omega) (by omega)]
  ·by_cases c : m < k9
   ·exact hcl m c
   ·obtain rfl : m = k9 := by omega
    exact fun j hj e => hci j (by omega) e
 | d + 1, i, par, reached, hd, hv, hk, hcl, hci, H => by
  have hp := hv.plen
  have hr := hv.rch
  have he := rE (rd E i) (rd_mem E i (by omega) (by omega))
  have hlen := zq11 n reached hr.nd hr.range
  have e1 : ((i + 1 : Nat) : Int) = (i : Int) + 1 := by omega
  have stay := fun (hst : rd O (i : Int) = rd reached (k9 : Int) → rd E (i : Int) ∈ reached) => zq23 n hn E O T hE hO nd rE k9 hk9 d (i + 1) par reached (by omega) hv hk hcl (fun j hj e => by
   by_cases c : j < i
   ·exact hci j c e
   ·obtain rfl : j = i := by omega
    exact hst e) H
  rw [e1] at stay
  by_cases c : rd O i = rd reached k9
  ·have hom : rd O (i : Int) ∈ reached := by rw [c]; exact rd_in reached k9 hk
   by_cases g : rd E i ∈ reached
   ·refine Ev.step (f := fun k => (spec_l1Has.f k reached (rd E i)).bind fun t => if t = true then spec_trEdges.l1 k E O par reached (k9 : Int) (n : Int) ((i : Int) + 1) else (if 0 ≤ (wrap64 ((rd E i) - 1)) then (if (wrap64 ((rd E i) - 1)) < (par.length : Int) then (if reached.length < 17592186044416 then (spec_trEdges.l1 k E O (par.set ((wrap64 ((rd E i) - 1)) : Int).toNat (rd O i)) (reached ++ [rd E i]) (k9 : Int) (n : Int) (wrap64 ((i : Int) + 1))) else (none)) else (none)) else (none))) (fun k => ?_) (Ev.bind (zq22 reached _ (by omega)) ?_)
    ·rw [spec_trEdges.l1, if_pos (by omega), if_pos (by omega), if_pos (by omega), if_pos (by omega), if_pos (by omega), if_pos (by omega), if_pos c, w64 (x := (i : Int) + 1) (by omega) (by omega)]
    ·exact Ev.congr (fun k => by rw [if_pos (by simpa using g)]) (stay fun _ => g)
   ·have grow := zq23 n hn E O T hE hO nd rE k9 hk9 d (i + 1) (par.set (rd E i - 1).toNat (rd O i)) (reached ++ [rd E i]) (by omega) ⟨by simp [hp], hr.add g (by omega) he.2, fun j hj hm => by
      rw [rd_setI _ _ _ _ he.1 (by omega) (by have := rE _ (rd_in E j (by omega)); omega)]
      by_cases q : rd E (j : Int) = rd E (i : Int)
      ·obtain rfl := nd j i hj (by omega) q
       rw [if_pos rfl]
       exact ⟨List.mem_append_left _ hom, rfl⟩
      ·rw [if_neg q]
       rcases List.mem_append.1 hm with h2 | h2
       ·obtain ⟨h3, h4⟩ := hv.inv j hj h2
        exact ⟨List.mem_append_left _ h3, h4⟩
       ·rw [List.mem_singleton] at h2; exact absurd h2 q⟩ (by simp; omega)
      (fun m hm j hj e => List.mem_append_left _ (hcl m hm j hj (by rw [e, zq13 _ _ _ (by omega)])))
      (fun j hj e => by
       rw [zq13 _ _ _ hk] at e
       by_cases q : j < i
       ·exact List.mem_append_left _ (hci j q e)
       ·obtain rfl : j = i := by omega
        exact List.mem_append_right _ (by simp)) H
    rw [e1] at grow
    refine Ev.step (f := fun k => (spec_l1Has.f k reached (rd E i)).bind fun t => if t = true then spec_trEdges.l1 k E O par reached (k9 : Int) (n : Int) ((i : Int) + 1) else (if 0 ≤ (rd E i) - 1 then (if (rd E i) - 1 < (par.length : Int) then (if reached.length < 17592186044416 then (spec_trEdges.l1 k E O (par.set ((rd E i) - 1).toNat (rd O i)) (reached ++ [rd E i]) (k9 : Int) (n : Int) ((i : Int) + 1)) else (none)) else (none)) else (none))) (fun k => ?_) (Ev.bind (zq22 reached _ (by omega)) ?_)
    ·rw [spec_trEdges.l1, if_pos (by omega), if_pos (by omega), if_pos (by omega), if_pos (by omega), if_pos (by omega), if_pos (by omega), if_pos c, w64 (x := (i : Int) + 1) (by omega) (by omega), w64 (by omega) (by omega)]
    ·exact Ev.congr (fun k => by rw [if_neg (by simpa using g), if_pos (by omega), if_pos (by omega), if_pos (by omega)]) grow
  ·by_cases c2 : rd E i = rd reached k9
   ·have g : rd O i ∈ reached := (hv.inv i (by omega) (by rw [c2]; exact rd_in reached k9 hk)).1
    refine Ev.step (f := fun k => (spec_l1Has.f k reached (rd O i)).bind fun t => if t = true then spec_trEdges.l1 k E O par reached (k9 : Int) (n : Int) ((i : Int) + 1) else (if 0 ≤ (wrap64 ((rd O i) - 1)) then (if (wrap64 ((rd O i) - 1)) < (par.length : Int) then (if reached.length < 17592186044416 then (spec_trEdges.l1 k E O (par.set ((wrap64 ((rd O i) - 1)) : Int).toNat (rd E i)) (reached ++ [rd O i]) (k9 : Int) (n : Int) (wrap64 ((i : Int) + 1))) else (none)) else (none)) else (none))) (fun k => ?_) (Ev.bind (zq22 reached _ (by omega)) ?_)
    ·rw [spec_trEdges.l1, if_pos (by omega), if_pos (by omega), if_pos (by omega), if_pos (by omega), if_pos (by omega), if_pos (by omega), if_neg c, if_pos c2, w64 (x := (i : Int) + 1) (by omega) (by omega)]
    ·exact Ev.congr (fun k => by rw [if_pos (by simpa using g)]) (stay fun e => absurd e c)
   ·refine Ev.step (fun k => ?_) (stay fun e => absurd e c)
    show spec_trEdges.l1 (k + 1) E O par reached (k9 : Int) (n : Int) (i : Int) = _
    rw [spec_trEdges.l1, if_pos (by omega), if_pos (by omega), if_pos (by omega), if_pos (by omega), if_pos (by omega), if_pos (by omega), if_neg c, if_neg c2, w64 (x := (i : Int) + 1) (by omega) (by omega)]
theorem zq24 (n : Nat) (hn : n ≤ 1000) (word E T : List Int) (h : Told n (word ++ [0]) E T) (hw : word.length + 1 = n) (hx : ∀ x ∈ word, 0 ≤ x ∧ x ≤ n) : ∀ (d k9 : Nat) (par reached : List Int), k9 + d = n + 1 → EInv n E (word ++ [0]) par reached → k9 ≤ reached.length → (∀ m : Nat, m < k9 → Closed n E (word ++ [0]) reached (rd reached (m : Int))) →
  Ev (fun k => spec_trEdges.l0 k E (word ++ [0]) par reached (k9 : Int)) T
 | d, k9, par, reached, hd, hv, hle, hcl => by
  have hl : (word ++ [0]).length = n := by simp; omega
  have hlen := zq11 n reached hv.rch.nd hv.rch.range
  by_cases c : k9 < reached.length
  ·match d, hd with
   | 0, hd => omega
   | d + 1, hd =>
   refine Ev.step (fun k => ?_) (zq23 n hn E (word ++ [0]) T h.len hl (fun i j hi hj e => h.sq.inj (by rw [h.len]; exact hi) (by rw [h.len]; exact hj) e) h.sq.range k9 (by omega) n 0 par reached (by omega) hv c hcl (fun j hj => by omega) (fun p2 r2 h3 h4 h5 => by
    have := zq24 n hn word E T h hw hx d (k9 + 1) p2 r2 (by omega) h3 (by omega) h5
    rw [show ((k9 + 1 : Nat) : Int) = (k9 : Int) + 1 by omega] at this
    exact this))
   show spec_trEdges.l0 (k + 1) E (word ++ [0]) par reached (k9 : Int) = _
   rw [spec_trEdges.l0, if_pos (by omega), h.len]
   rfl
  ·have hall : ∀ (q j : Nat), j + q + 1 = n → rd E (j : Int) ∈ reached := by
    intro q
    induction q using Nat.strongRecOn with
    | _ q ih =>
     intro j hj
     rcases h.later hw hx j (by omega) with h0 | ⟨i, h1, h2, h3⟩
     ·obtain ⟨m, hm, e⟩ := in_rd reached 0 hv.rch.zero
      exact hcl m (by omega) j (by omega) (by rw [h0, e])
     ·have := ih (n - 1 - i) (by omega) i (by omega)
      rw [h3] at this
      obtain ⟨m, hm, e⟩ := in_rd reached _ this
      exact hcl m (by omega) j (by omega) e.symm
   have hT : par = T := h.unique hv.plen fun j hj => (hv.inv j hj (hall (n - 1 - j) j (by omega))).2
   refine Ev.ret fun k => ?_
   rw [spec_trEdges.l0, if_neg (by omega), hT]
theorem zq25 (n : Nat) (hn : n ≤ 1000) (word E T : List Int) (h : Told n (word ++ [0]) E T) (hw : word.length + 1 = n) (hx : ∀ x ∈ word, 0 ≤ x ∧ x ≤ n) : Ev (fun k => spec_trEdges.f k (n : Int) E (word ++ [0])) T := by
 have z := zq24 n hn word E T h hw hx (n + 1) 0 (List.replicate n 0) [0] (by omega) ⟨by simp, ⟨by simp, by simp, by simp⟩, fun j hj hm => by
  have := h.sq.range _ (rd_in E j (by rw [h.len]; exact hj))
  rw [List.mem_singleton] at hm
  omega⟩ (by simp) (fun m hm => by omega)
 exact Ev.congr (fun k => by rw [spec_trEdges.f, if_pos (by omega), if_pos (by omega)]; rfl) z

theorem zq26 (n : Nat) (hn : n ≤ 1000) (word gone others : List Int) (k : Nat) (x : Int) (L : List Int) (m : Int) (hk : k ≤ word.length) (hw : word.length ≤ 1000) (hg : gone.length ≤ 1000) (ho : others.length ≤ 1000)
  (u : Int) (h1 : 1 ≤ u) (hu : u ∉ gone ∧ u ∉ word.drop k) (r : List Int) : ∀ d : Nat, u ≤ d → d ≤ n →
  Ev (fun kk => spec_trOf.l0 kk word (n : Int) (gone ++ [pk gone (word.drop k) d]) (others ++ [x]) L m ((k : Int) + 1)) r →
  Ev (fun kk => spec_trOf.l1 kk word (n : Int) gone others (k : Int) x (d : Int) L m (k : Int)) r
 | 0, h, _, _ => by omega
 | d + 1, h, hd, H => by
  have ed : ((d + 1 : Nat) : Int) = (d : Int) + 1 := by omega
  rw [ed]
  have less : ((d : Int) + 1 ∈ gone ∨ (d : Int) + 1 ∈ word.drop k) → u ≤ d := fun hm => by
   refine Classical.byContradiction fun h2 => ?_
   have e : u = (d : Int) + 1 := by omega
   rw [e] at hu
   rcases hm with h3 | h3
   ·exact hu.1 h3
   ·exact hu.2 h3
  have ih := fun c => zq26 n hn word gone others k x L m hk hw hg ho u h1 hu r d c (by omega)
  rw [pk] at H
  by_cases g : (d : Int) + 1 ∈ gone
  ·rw [if_neg (fun h2 => h2.1 g)] at H
   refine Ev.step (fun kk => by rw [spec_trOf.l1, w64 (x := (d : Int) + 1 - 1) (by omega) (by omega), show (d : Int) + 1 - 1 = (d : Int) by omega]) (Ev.bind (zq22 gone _ (by omega)) ?_)
   exact Ev.congr (fun kk => by rw [if_pos (by simpa using g)]) (ih (less (.inl g)) H)
  ·by_cases g2 : (d : Int) + 1 ∈ word.drop k
   ·rw [if_neg (fun h2 => h2.2 g2)] at H
    refine Ev.step (fun kk => by rw [spec_trOf.l1, w64 (x := (d : Int) + 1 - 1) (by omega) (by omega), show (d : Int) + 1 - 1 = (d : Int) by omega]) (Ev.bind (zq22 gone _ (by omega)) ?_)
    refine Ev.congr (fun kk => by rw [if_neg (by simpa using g), if_pos (by omega), if_pos (by omega), Int.toNat_natCast]) (Ev.bind (zq22 (word.drop k) _ (by simp; omega)) ?_)
    exact Ev.congr (fun kk => by rw [if_pos (by simpa using g2)]) (ih (less (.inr g2)) H)
   ·rw [if_pos ⟨g, g2⟩] at H
    refine Ev.step (fun kk => by rw [spec_trOf.l1]) (Ev.bind (zq22 gone _ (by omega)) ?_)
    refine Ev.congr (fun kk => by rw [if_neg (by simpa using g), if_pos (by omega), if_pos (by omega), Int.toNat_natCast]) (Ev.bind (zq22 (word.drop k) _ (by simp; omega)) ?_)
    exact Ev.congr (fun kk => by rw [if_neg (by simpa using g2), if_pos (by omega), if_pos (by omega), w64 (by omega) (by omega)]) H
theorem zq27 (n : Nat) (gone : List Int) (hs : gone.Nodup) (hr : ∀ v ∈ gone, 1 ≤ v ∧ v ≤ n) (hl : gone.length + 1 = n) (v u : Int) (h0 : 1 ≤ v) (h1 : v ≤ n) (hv : v ∉ gone) (g0 : 1 ≤ u) (g1 : u ≤ n) (hu : u ∉ gone) : v = u := by
 refine Classical.byContradiction fun hne => ?_
 have := zq11 n (0 :: v :: u :: gone) (by
  refine List.nodup_cons.2 ⟨?_, List.nodup_cons.2 ⟨?_, List.nodup_cons.2 ⟨hu, hs⟩⟩⟩
  ·intro hz
   rcases List.mem_cons.1 hz with e | e
   ·omega
   ·rcases List.mem_cons.1 e with e | e
    ·omega
    ·have := hr 0 e; omega
  ·intro hz
   rcases List.mem_cons.1 hz with e | e
   ·exact hne e
   ·exact hv e) (by
  intro w hw
  rcases List.mem_cons.1 hw with e | e
  ·omega
  ·rcases List.mem_cons.1 e with e | e
   ·omega
   ·rcases List.mem_cons.1 e with e | e
    ·omega
    ·have := hr w e; omega)
 simp at this
 omega
theorem zq28 (n : Nat) (hn : n ≤ 1000) (gone others T : List Int) (hs : gone.Nodup) (hr : ∀ v ∈ gone, 1 ≤ v ∧ v ≤ n) (hol : others.length = gone.length) (hlen : gone.length + 1 = n) (u : Int) (h1 : 1 ≤ u) (hu : u ≤ n) (hug : u ∉ gone)
  (H : Ev (fun kk => spec_trEdges.f kk (n : Int) (gone ++ [u]) (others ++ [0])) T) : ∀ (d : Nat) (v : Int), 1 ≤ v → v + d = u →
  Ev (fun kk => spec_trOf.l2 kk (n : Int) gone others v) T
 | d, v, hv, hd => by
  by_cases g : v ∈ gone
  ·match d, hd with
   | 0, hd => exact absurd (by rw [show u = v by omega]; exact g) hug
   | d + 1, hd =>
    have h3 := zq28 n hn gone others T hs hr hol hlen u h1 hu hug H d (v + 1) (by omega) (by omega)
    refine Ev.step (fun kk => by rw [spec_trOf.l2, if_pos (by omega), w64 (x := v + 1) (by omega) (by omega)]) (Ev.bind (zq22 gone _ (by omega)) ?_)
    exact Ev.congr (fun kk => by rw [if_pos (by simpa using g)]) h3
  ·obtain rfl := zq27 n gone hs hr hlen v u hv (by omega) g h1 hu hug
   refine Ev.step (fun kk => by rw [spec_trOf.l2, if_pos (by omega)]) (Ev.bind (zq22 gone _ (by omega)) ?_)
   exact Ev.congr (fun kk => by rw [if_neg (by simpa using g), if_pos (by omega), if_pos (by omega)]) (Ev.bind H (Ev.now _))
theorem zq29 (n : Nat) (hn : n ≤ 1000) (word T : List Int) (hw : word.length + 1 = n) (hx : ∀ x ∈ word, 0 ≤ x ∧ x ≤ n) (hT : Told n (word ++ [0]) (gseq n (word ++ [0]) []) T) : ∀ (d k : Nat) (gone : List Int), k + d = word.length → gone.length = k → Sq n (word ++ [0]) gone → gseq n ((word ++ [0]).drop k) gone = gseq n (word ++ [0]) [] →
  Ev (fun kk => spec_trOf.l0 kk word (n : Int) gone (word.take k) word (word.length : Int) (k : Int)) T
 | 0, k, gone, hd, hg, h, he => by
  have hk : k = word.length := by omega
  obtain ⟨s1, s2, s3, s4⟩ := h.step hw (by omega)
  have hdr : (word ++ [0]).drop gone.length = [0] := by rw [List.drop_append_of_le_length (by omega), List.drop_eq_nil_of_le (by omega)]; rfl
  rw [hdr] at s1 s2 s3 s4
  have e0 : (word ++ [0]).drop k = [0] := by rw [← hg]; exact hdr
  rw [e0, gseq, gseq] at he
  refine Ev.step (fun kk => by rw [spec_trOf.l0, if_neg (by omega)]) (zq28 n hn gone (word.take k) T h.nd h.range (by rw [List.length_take]; omega) (by omega) _ s3 s4 s2 ?_ (pk gone [0] n - 1).toNat 1 (by omega) (by omega))
  rw [he, show word.take k = word by rw [hk, List.take_length]]
  exact zq25 n hn word _ T hT hw hx
 | d + 1, k, gone, hd, hg, h, he => by
  obtain ⟨s1, s2, s3, s4⟩ := h.step hw (by omega)
  rw [hg] at s1 s2 s3 s4
  have hdr : (word ++ [0]).drop k = word.drop k ++ [0] := by rw [List.drop_append_of_le_length (by omega)]
  have hpk : ∀ d : Nat, pk gone ((word ++ [0]).drop k) d = pk gone (word.drop k) d := zq12 _ _ _ _ fun v hv => by
   rw [hdr, List.mem_append, List.mem_singleton]
   constructor
   ·rintro ⟨a, b⟩
    exact ⟨a, fun c => b (.inl c)⟩
   ·rintro ⟨a, b⟩
    exact ⟨a, fun c => c.elim b (by omega)⟩
  have hc : (word ++ [0]).drop k = rd word (k : Int) :: (word ++ [0]).drop (k + 1) := by
   rw [List.drop_eq_getElem_cons (by simp; omega), rd_nat, List.getD_eq_getElem?_getD, List.getElem?_eq_getElem (by omega), List.getElem_append_left (by omega)]
   rfl
  have htk : word.take (k + 1) = word.take k ++ [rd word (k : Int)] := by
   rw [List.take_succ_eq_append_getElem (by omega), rd_nat, List.getD_eq_getElem?_getD, List.getElem?_eq_getElem (by omega)]
   rfl
  have ih := zq29 n hn word T hw hx hT d (k + 1) (gone ++ [pk gone ((word ++ [0]).drop k) n]) (by omega) (by simp [hg]) s1 (by
   rw [← he, hc, gseq])
  rw [show ((k + 1 : Nat) : Int) = (k : Int) + 1 by omega, htk, hpk] at ih
  obtain ⟨u, u0, u1, u2, u3⟩ := free_pk n gone (word.drop k) (by rw [List.length_drop]; omega)
  have u4 : u ∉ word.drop k := fun hm => u3 (List.mem_append_left _ hm)
  refine Ev.step (fun kk => by rw [spec_trOf.l0, if_pos (by omega), if_pos (by omega), if_pos (by omega)]) (zq26 n hn word gone (word.take k) k (rd word k) word (word.length : Int) (by omega) (by omega) (by omega) (by simp; omega) u u0 ⟨u2, u4⟩ T n u1 (Nat.le_refl _) ih)
def treeS (word : List Int) : List Int := outS (word.length + 1) (word ++ [0]) [] (List.replicate (word.length + 1) (-1))
theorem zq30 (word : List Int) : Told (word.length + 1) (word ++ [0]) (gseq (word.length + 1) (word ++ [0]) []) (treeS word) := zq17 (word.length + 1) word rfl
theorem zq31 (word : List Int) (hw : word.length ≤ 900) (hx : ∀ x ∈ word, 0 ≤ x ∧ x ≤ (word.length : Int) + 1) : Ev (fun kk => spec_trOf.f kk word) (treeS word) := by
 have z := zq29 (word.length + 1) (by omega) word (treeS word) rfl (fun x h => by have := hx x h; omega) (zq30 word) word.length 0 [] (by omega) rfl (Sq.none _ _) rfl
 exact Ev.congr (fun kk => by rw [spec_trOf.f, w64 (by omega) (by omega), show (word.length : Int) + 1 = ((word.length + 1 : Nat) : Int) by omega]; rfl) z

def places (q : Int → Bool) : List Int → Int → List Int
 | [], _ => []
 | h :: t, i => if q h = true then i :: places q t (i + 1) else places q t (i + 1)
theorem zq32 (q : Int → Bool) (x : Int) : ∀ (l : List Int) (i : Int), x ∈ places q l i ↔ ∃ j : Nat, ∃ v, l[j]? = some v ∧ q v = true ∧ x = i + j
 | [], i => by simp [places]
 | h :: t, i => by
  rw [places]
  have ih := zq32 q x t (i + 1)
  constructor
  ·intro hx
   have : x = i ∧ q h = true ∨ x ∈ places q t (i + 1) := by
    split at hx
    ·rename_i c
     rcases List.mem_cons.1 hx with h1 | h1
     ·exact .inl ⟨h1, c⟩
     ·exact .inr h1
    ·exact .inr hx
   rcases this with ⟨h1, h2⟩ | h1
   ·exact ⟨0, h, by simp, h2, by omega⟩
   ·obtain ⟨j, v, h2, h3, h4⟩ := ih.1 h1
    exact ⟨j + 1, v, by simpa using h2, h3, by omega⟩
  ·rintro ⟨j, v, h2, h3, h4⟩
   cases j with
   | zero =>
    have e : h = v := by simpa using h2
    rw [e, if_pos h3]
    exact List.mem_cons.2 (.inl (by omega))
   | succ j =>
    have h1 : x ∈ places q t (i + 1) := ih.2 ⟨j, v, by simpa using h2, h3, by omega⟩
    split
    ·exact List.mem_cons_of_mem _ h1
    ·exact h1
theorem zq33 (q : Int → Bool) : ∀ (l : List Int) (i : Int), (places q l i).Pairwise (· < ·)
 | [], i => by simp [places]
 | h :: t, i => by
  rw [places]
  split
  ·rw [List.pairwise_cons]
   refine ⟨fun x hx => ?_, zq33 q t (i + 1)⟩
   obtain ⟨j, v, _, _, e⟩ := (zq32 q x t (i + 1)).1 hx
   omega
  ·exact zq33 q t (i + 1)

def kids (par : List Int) (v : Int) : List Int := (places (fun p => decide (p = v)) par 0).map (· + 1)
theorem zq34 (par : List Int) (v x : Int) : x ∈ kids par v ↔ 1 ≤ x ∧ x ≤ par.length ∧ rd par (x - 1) = v := by
 rw [kids, List.mem_map]
 constructor
 ·rintro ⟨y, hy, rfl⟩
  obtain ⟨j, w, h1, h2, h3⟩ := (zq32 _ _ _ _).1 hy
  have h4 := (List.getElem?_eq_some_iff.1 h1).1
  refine ⟨by omega, by omega, ?_⟩
  have h5 : w = v := by simpa using h2
  unfold rd
  rw [show (y + 1 - 1).toNat = j by omega, List.getD_eq_getElem?_getD, h1, ← h5]
  rfl
 ·rintro ⟨h1, h2, h3⟩
  refine ⟨x - 1, (zq32 _ _ _ _).2 ⟨(x - 1).toNat, v, ?_, by simp, by omega⟩, by omega⟩
  unfold rd at h3
  rw [List.getD_eq_getElem?_getD, List.getElem?_eq_getElem (by omega)] at h3
  rw [List.getElem?_eq_getElem (by omega)]
  exact congrArg some h3
theorem zq35 (par : List Int) (v : Int) : (kids par v).Nodup := by
 rw [kids]
 refine List.pairwise_map.2 ((zq33 (fun p => decide (p = v)) par 0).imp ?_)
 intro a b h
 omega
structure InB (par ord : List Int) (k : Nat) : Prop where
 nd : ord.Nodup
 le : k ≤ ord.length
 zero : 0 ∈ ord
 range : ∀ v ∈ ord, 0 ≤ v ∧ v ≤ par.length
 has : ∀ v : Int, 1 ≤ v → v ≤ par.length → (v ∈ ord ↔ rd par (v - 1) ∈ ord.take k)
theorem InB.first (par : List Int) : InB par [0] 0 :=
 ⟨by simp, by simp, by simp, by simp, by intro v h1 h2; simp; omega⟩
theorem InB.length {par ord : List Int} {k : Nat} (h : InB par ord k) : ord.length ≤ par.length + 1 := zq11 par.length ord h.nd h.range
theorem InB.step {par ord : List Int} {k : Nat} (h : InB par ord k) (hk : k < ord.length) : InB par (ord ++ kids par (rd ord k)) (k + 1) := by
 have hrk : rd ord (k : Int) = ord[k] := by
  unfold rd
  rw [Int.toNat_natCast, List.getD_eq_getElem?_getD, List.getElem?_eq_getElem hk]
  rfl
 have hnt : rd ord (k : Int) ∉ ord.take k := by
  rw [hrk]
  intro hm
  obtain ⟨i, hi, e⟩ := List.mem_iff_getElem.1 hm
  rw [List.getElem_take] at e
  have : i < k := by simp at hi; omega
  exact zq10 h.nd this hk e
 have htk : (ord ++ kids par (rd ord k)).take (k + 1) = ord.take k ++ [rd ord (k : Int)] := by
  rw [List.take_append_of_le_length (by omega), hrk, List.take_append_getElem]
 refine ⟨?_, by simp; omega, List.mem_append_left _ h.zero, ?_, ?_⟩
 ·refine List.nodup_append.2 ⟨h.nd, zq35 par _, ?_⟩
  intro a ha b hb e
  obtain ⟨h1, h2, h3⟩ := (zq34 par _ b).1 hb
  rw [e] at ha
  have := (h.has b h1 h2).1 ha
  rw [h3] at this
  exact hnt this
 ·intro v hv
  rcases List.mem_append.1 hv with h1 | h1
  ·exact h.range v h1
  ·obtain ⟨h2, h3, _⟩ := (zq34 par _ v).1 h1
   omega
 ·intro v h1 h2
  rw [htk, List.mem_append, List.mem_append, h.has v h1 h2, zq34, List.mem_singleton]
  constructor
  ·rintro (h3 | ⟨_, _, h3⟩)
   ·exact .inl h3
   ·exact .inr h3
  ·rintro (h3 | h3)
   ·exact .inl h3
   ·exact .inr ⟨h1, h2, h3⟩
def leafB (par gone : List Int) (v : Int) : Bool := decide (v ∉ gone) && (kids par v).all fun c => decide (c ∈ gone)
theorem zq36 (par gone : List Int) (v : Int) : leafB par gone v = true ↔ v ∉ gone ∧ ∀ c, c ∈ kids par v → c ∈ gone := by
 simp only [leafB, Bool.and_eq_true, decide_eq_true_eq, List.all_eq_true]
structure Gone (par gone : List Int) : Prop where
 nd : gone.Nodup
 range : ∀ v ∈ gone, 1 ≤ v ∧ v ≤ par.length
 closed : ∀ v ∈ gone, ∀ c, c ∈ kids par v → c ∈ gone
theorem Gone.none (par : List Int) : Gone par [] := ⟨by simp, by simp, by simp⟩
theorem Gone.add {par gone : List Int} (h : Gone par gone) {v : Int} (hv : leafB par gone v = true) (h0 : 1 ≤ v) (h1 : v ≤ par.length) : Gone par (gone ++ [v]) := by
 obtain ⟨h2, h3⟩ := (zq36 par gone v).1 hv
 refine ⟨?_, ?_, ?_⟩
 ·refine List.nodup_append.2 ⟨h.nd, by simp, ?_⟩
  intro a ha b hb e
  rw [List.mem_singleton] at hb
  exact h2 (by rw [← hb, ← e]; exact ha)
 ·intro u hu
  rcases List.mem_append.1 hu with h4 | h4
  ·exact h.range u h4
  ·rw [List.mem_singleton] at h4
   omega
 ·intro u hu c hc
  rcases List.mem_append.1 hu with h4 | h4
  ·exact List.mem_append_left _ (h.closed u h4 c hc)
  ·rw [List.mem_singleton] at h4
   exact List.mem_append_left _ (h3 c (by rw [← h4]; exact hc))
theorem Told.tree {n : Nat} {word E T : List Int} (h : Told n (word ++ [0]) E T) (hw : word.length + 1 = n) (hx : ∀ x ∈ word, 0 ≤ x ∧ x ≤ n) (h8 : n ≤ 8) : isTr T = true := by
 have hl : (word ++ [0]).length = n := by simp; omega
 rw [zq19, h.tlen]
 have hcl : ∀ (q j : Nat), j + q = n → j < n → climb T q (rd E (j : Int)) = true := by
  intro q
  induction q using Nat.strongRecOn with
  | _ q ih =>
   intro j hj hjn
   have hr := h.sq.range _ (rd_in E j (by rw [h.len]; exact hjn))
   match q, hj with
   | 0, hj => omega
   | q + 1, hj =>
    rw [climb, if_pos (by omega), h.at_ j hjn]
    rcases h.later hw hx j hjn with h0 | ⟨i, h1, h2, h3⟩
    ·rw [h0, zq8]
     exact ⟨0, by omega, by simp [up]⟩
    ·have := ih (n - i) (by omega) i (by omega) h2
     rw [← h3]
     rw [zq8] at this ⊢
     obtain ⟨a, ha, hb⟩ := this
     exact ⟨a, by omega, hb⟩
 refine ⟨h8, fun x hm => ?_, fun a h0 h1 => ?_⟩
 ·obtain ⟨i, hi, e⟩ := in_rd T x hm
  rw [h.tlen] at hi
  obtain ⟨j, hj, e2⟩ := h.sq.covers h.len ((i : Int) + 1) (by omega) (by omega)
  have := h.at_ j hj
  rw [e2, show (i : Int) + 1 - 1 = (i : Int) by omega, e] at this
  have hm2 := rd_in (word ++ [0]) j (by omega)
  rw [← this] at hm2
  rcases List.mem_append.1 hm2 with h2 | h2
  ·exact hx x h2
  ·rw [List.mem_singleton] at h2; omega
 ·obtain ⟨j, hj, e⟩ := h.sq.covers h.len a h0 h1
  have := hcl (n - j) j (by omega) hj
  rw [e] at this
  rw [zq8] at this ⊢
  obtain ⟨i, hi, hb⟩ := this
  exact ⟨i, by omega, hb⟩
theorem zq37 (word : List Int) : (treeS word).length = word.length + 1 := (zq30 word).tlen
theorem zq38 (word : List Int) (hx : ∀ x ∈ word, 0 ≤ x ∧ x ≤ (word.length : Int) + 1) (h8 : word.length + 1 ≤ 8) : isTr (treeS word) = true :=
 (zq30 word).tree rfl (fun x h => by have := hx x h; omega) h8
def idxOf (x : Int) : List Int → Int → Int
 | [], _ => -1
 | h :: t, i => if x = h then i else idxOf x t (i + 1)
theorem zq39 (x : Int) : ∀ (l : List Int) (i : Int), 0 ≤ i → (x ∈ l → i ≤ idxOf x l i ∧ idxOf x l i < i + l.length ∧ rd l (idxOf x l i - i) = x) ∧ (x ∉ l → idxOf x l i = -1)
 | [], i, _ => by simp [idxOf]
 | h :: t, i, hi => by
  have ih := zq39 x t (i + 1) (by omega)
  have e : ((h :: t).length : Int) = (t.length : Int) + 1 := by simp
  by_cases c : x = h
  ·refine ⟨fun _ => ?_, fun hn => absurd (by simp [c]) hn⟩
   rw [idxOf, if_pos c, e]
   refine ⟨by omega, by omega, ?_⟩
   rw [Int.sub_self, c]
   rfl
  ·rw [idxOf, if_neg c, e]
   refine ⟨fun hm => ?_, fun hn => ih.2 (fun hm => hn (by simp [hm]))⟩
   obtain ⟨h1, h2, h3⟩ := ih.1 (by simpa [c] using hm)
   refine ⟨by omega, by omega, ?_⟩
   have h4 : rd (h :: t) (idxOf x t (i + 1) - i) = rd t (idxOf x t (i + 1) - (i + 1)) := by
    unfold rd
    rw [show (idxOf x t (i + 1) - i).toNat = (idxOf x t (i + 1) - (i + 1)).toNat + 1 by omega, List.getD_cons_succ]
   rw [h4, h3]
theorem zq40 (x : Int) : ∀ (t p : List Int), p.length + t.length ≤ 35184372088832 →
  Ev (fun k => slices_Index_int_int.l0 k (p ++ t) x ((p ++ t).length : Int) (p.length : Int)) (idxOf x t p.length)
 | [], p, _ => by
  refine Ev.ret fun k => ?_
  rw [slices_Index_int_int.l0, if_neg (by simp)]
  rfl
 | h :: t, p, hn => by
  have hn' : p.length + t.length + 1 ≤ 35184372088832 := by simpa [Nat.add_assoc] using hn
  have hm := len_mid p h t
  by_cases c : x = h
  ·rw [idxOf, if_pos c]
   refine Ev.ret fun k => ?_
   rw [slices_Index_int_int.l0, if_pos (by omega), if_pos (by omega), if_pos (by omega), rd_mid, if_pos c]
  ·have ih := zq40 x t (p ++ [h]) (by simp; omega)
   rw [zq1, zq0] at ih
   rw [idxOf, if_neg c]
   refine Ev.step (fun k => ?_) ih
   show slices_Index_int_int.l0 (k + 1) (p ++ h :: t) x ((p ++ h :: t).length : Int) (p.length : Int) = _
   rw [slices_Index_int_int.l0, if_pos (by omega), if_pos (by omega), if_pos (by omega), rd_mid, if_neg c, w64 (by omega) (by omega)]
theorem zq41 (l : List Int) (x : Int) (hl : l.length ≤ 35184372088832) : Ev (fun k => slices_Index_int_int.f k l x) (idxOf x l 0) :=
 zq40 x l [] (by simpa using hl)

theorem zq42 (l : List Int) (x : Int) (hl : l.length ≤ 35184372088832) : Ev (fun k => slices_Contains_int_int.f k l x) (decide (x ∈ l)) := by
 have e : decide (idxOf x l 0 ≥ 0) = decide (x ∈ l) := by
  have h := zq39 x l 0 (by omega)
  refine decide_eq_decide.2 ⟨fun h1 => ?_, fun h1 => (h.1 h1).1⟩
  by_cases c : x ∈ l
  ·exact c
  ·rw [h.2 c] at h1; omega
 rw [← e]
 exact Ev.congr (fun k => rfl) (Ev.bind (zq41 l x hl) (Ev.now _))

theorem zq43 (l : List Int) (h : l.length < 17592186044416) : slices_Clone_int_int.f l = some l := by
 unfold slices_Clone_int_int.f
 simp only [Option.bind_some]
 rw [if_pos (by simp; omega)]
 simp

theorem OutOk.sign {n : Nat} {whole gone out : List Int} (h : OutOk n whole gone out) (hs : gone.length ≤ whole.length) (hx : ∀ x ∈ whole, 0 ≤ x) (v : Int) (h0 : 1 ≤ v) (h1 : v ≤ n) : rd out (v - 1) ≥ 0 ↔ v ∈ gone := by
 constructor
 ·intro hp
  refine Classical.byContradiction fun hn => ?_
  have := h.left v h0 h1 hn
  omega
 ·intro hm
  obtain ⟨j, hj, e⟩ := in_rd gone v hm
  have := h.told j hj
  rw [e] at this
  rw [this]
  exact hx _ (rd_in whole j (by omega))
theorem zq44 (n : Nat) (hn : n ≤ 1000) (whole gone out : List Int) (hw : whole.length = n) (ho : OutOk n whole gone out) (hgl : gone.length ≤ n) (hx : ∀ x ∈ whole, 0 ≤ x) (k : Nat) (hk : k ≤ n) (x m : Int) (u : Int) (h1 : 1 ≤ u) (hu : u ∉ gone ∧ u ∉ whole.drop k) (r : List Int) : ∀ d : Nat, u ≤ d → d ≤ n →
  Ev (fun kk => impl_treeOfPrufer.l0 kk (n : Int) (out.set (pk gone (whole.drop k) d - 1).toNat x) whole whole m ((k : Int) + 1)) r →
  Ev (fun kk => impl_treeOfPrufer.l1 kk (n : Int) out whole (k : Int) x (d : Int) whole m (k : Int)) r
 | 0, h, _, _ => by omega
 | d + 1, h, hd, H => by
  have ed : ((d + 1 : Nat) : Int) = (d : Int) + 1 := by omega
  rw [ed]
  have hol := ho.len
  have less : ((d : Int) + 1 ∈ gone ∨ (d : Int) + 1 ∈ whole.drop k) → u ≤ d := fun hm => by
   refine Classical.byContradiction fun h2 => ?_
   have e : u = (d : Int) + 1 := by omega
   rw [e] at hu
   rcases hm with h3 | h3
   ·exact hu.1 h3
   ·exact hu.2 h3
  have ih := fun c => zq44 n hn whole gone out hw ho hgl hx k hk x m u h1 hu r d c (by omega)
  have hsg := ho.sign (by omega) hx ((d : Int) + 1) (by omega) (by omega)
  rw [show (d : Int) + 1 - 1 = (d : Int) by omega] at hsg
  rw [pk] at H
  by_cases g : (d : Int) + 1 ∈ gone
  ·rw [if_neg (fun h2 => h2.1 g)] at H
   refine Ev.step (fun kk => ?_) (ih (less (.inl g)) H)
   show impl_treeOfPrufer.l1 (kk + 1) (n : Int) out whole (k : Int) x ((d : Int) + 1) whole m (k : Int) = _
   rw [impl_treeOfPrufer.l1, w64 (x := (d : Int) + 1 - 1) (by omega) (by omega), show (d : Int) + 1 - 1 = (d : Int) by omega, if_pos (by omega), if_pos (by omega), if_pos (hsg.2 g)]
  ·have hneg : ¬ rd out (d : Int) ≥ 0 := fun hp => g (hsg.1 hp)
   by_cases g2 : (d : Int) + 1 ∈ whole.drop k
   ·rw [if_neg (fun h2 => h2.2 g2)] at H
    refine Ev.step (fun kk => by rw [impl_treeOfPrufer.l1, w64 (x := (d : Int) + 1 - 1) (by omega) (by omega), show (d : Int) + 1 - 1 = (d : Int) by omega, if_pos (by omega), if_pos (by omega), if_neg hneg, if_pos (by omega), if_pos (by omega), Int.toNat_natCast]) (Ev.bind (zq42 (whole.drop k) _ (by simp; omega)) ?_)
    exact Ev.congr (fun kk => by rw [if_pos (by simpa using g2)]) (ih (less (.inr g2)) H)
   ·rw [if_pos ⟨g, g2⟩, show (d : Int) + 1 - 1 = (d : Int) by omega] at H
    refine Ev.step (fun kk => by rw [impl_treeOfPrufer.l1, w64 (x := (d : Int) + 1 - 1) (by omega) (by omega), show (d : Int) + 1 - 1 = (d : Int) by omega, if_pos (by omega), if_pos (by omega), if_neg hneg, if_pos (by omega), if_pos (by omega), Int.toNat_natCast]) (Ev.bind (zq42 (whole.drop k) _ (by simp; omega)) ?_)
    exact Ev.congr (fun kk => by rw [if_neg (by simpa using g2), w64 (by omega) (by omega)]) H
theorem zq45 (n : Nat) (hn : n ≤ 1000) (word : List Int) (hw : word.length + 1 = n) (hx : ∀ x ∈ word ++ [0], 0 ≤ x) : ∀ (d : Nat) (gone out : List Int), gone.length + d = n → Sq n (word ++ [0]) gone → OutOk n (word ++ [0]) gone out →
  Ev (fun kk => impl_treeOfPrufer.l0 kk (n : Int) out (word ++ [0]) (word ++ [0]) ((word ++ [0]).length : Int) (gone.length : Int)) (outS n ((word ++ [0]).drop gone.length) gone out)
 | 0, gone, out, hd, hs, ho => by
  have hl : (word ++ [0]).length = n := by simp; omega
  rw [List.drop_eq_nil_of_le (by omega), outS]
  exact Ev.ret fun kk => by rw [impl_treeOfPrufer.l0, if_neg (by omega)]
 | d + 1, gone, out, hd, hs, ho => by
  have hl : (word ++ [0]).length = n := by simp; omega
  obtain ⟨s1, s2, s3, s4⟩ := hs.step hw (by omega)
  have hc : (word ++ [0]).drop gone.length = rd (word ++ [0]) (gone.length : Int) :: (word ++ [0]).drop (gone.length + 1) := by
   rw [List.drop_eq_getElem_cons (by omega), rd_nat, List.getD_eq_getElem?_getD, List.getElem?_eq_getElem (by omega)]
   rfl
  have ih := zq45 n hn word hw hx d (gone ++ [pk gone ((word ++ [0]).drop gone.length) n]) (out.set (pk gone ((word ++ [0]).drop gone.length) n - 1).toNat (rd (word ++ [0]) (gone.length : Int))) (by simp; omega) s1 (ho.step hs s2 s3 s4)
  have el : (gone ++ [pk gone ((word ++ [0]).drop gone.length) n]).length = gone.length + 1 := by simp
  rw [el, show ((gone.length + 1 : Nat) : Int) = (gone.length : Int) + 1 by omega] at ih
  have e : outS n ((word ++ [0]).drop gone.length) gone out = outS n ((word ++ [0]).drop (gone.length + 1)) (gone ++ [pk gone ((word ++ [0]).drop gone.length) n]) (out.set (pk gone ((word ++ [0]).drop gone.length) n - 1).toNat (rd (word ++ [0]) (gone.length : Int))) := by
   rw [hc, outS]
  rw [e]
  obtain ⟨u, u0, u1, u2, u3⟩ := free_pk n gone (word.drop gone.length) (by rw [List.length_drop]; omega)
  have hdr : (word ++ [0]).drop gone.length = word.drop gone.length ++ [0] := by rw [List.drop_append_of_le_length (by omega)]
  rw [← hdr] at u3
  refine Ev.step (fun kk => by rw [impl_treeOfPrufer.l0, if_pos (by omega), if_pos (by omega), if_pos (by omega)]) (zq44 n hn (word ++ [0]) gone out hl ho (by omega) hx gone.length (by omega) _ _ u u0 ⟨u2, u3⟩ _ n u1 (Nat.le_refl _) ih)
theorem zq46 (word : List Int) (hw : word.length ≤ 900) (hx : ∀ x ∈ word, 0 ≤ x) : Ev (fun kk => impl_treeOfPrufer.f kk word) (treeS word) := by
 have z := zq45 (word.length + 1) (by omega) word rfl (fun x h => by
  rcases List.mem_append.1 h with h2 | h2
  ·exact hx x h2
  ·rw [List.mem_singleton] at h2; omega) (word.length + 1) [] (List.replicate (word.length + 1) (-1)) (by simp) (Sq.none _ _) ⟨by simp, by simp, by
  intro u h0 h1 _
  unfold rd
  rw [List.getD_eq_getElem?_getD, List.getElem?_replicate, if_pos (by omega)]
  rfl⟩
 rw [List.length_nil, List.drop_zero] at z
 have hr : slices_Repeat_int_int.f [(-1)] (wrap64 ((word.length : Int) + 1)) = some (List.replicate (word.length + 1) (-1)) := by
  rw [w64 (by omega) (by omega), slices_Repeat_int_int.f, if_pos (show ([(-1)] : List Int).length = 1 from rfl), if_pos (by omega), if_pos (by omega), show ((word.length : Int) + 1).toNat = word.length + 1 by omega]
  rfl
 refine Ev.congr (fun kk => by rw [impl_treeOfPrufer.f, hr, Option.bind_some, zq43 word (by omega), Option.bind_some, if_pos (by omega), Option.bind_some, w64 (by omega) (by omega), show (word.length : Int) + 1 = ((word.length + 1 : Nat) : Int) by omega]; rfl) z

def wdN (n x : Nat) : List Int := (spec_trWord.f 12 ((n : Int) - 1) ((n : Int) + 1) (x : Int)).getD []
def cntT (n : Nat) : Nat := (n + 1) ^ (n - 1)
def okW (n : Nat) : Bool := (List.range (cntT n)).all fun x => decide (spec_trWord.f 12 ((n : Int) - 1) ((n : Int) + 1) (x : Int) = some (wdN n x)) && decide ((wdN n x).length = n - 1) && ((wdN n x).all fun y => decide (0 ≤ y) && decide (y ≤ (n : Int))) &&
 decide (impl_allTrees.nxt (List.replicate (n - 1) 0) (List.replicate (n - 1) (n : Int)) (n - 1) (wdN n x) = if x + 1 < cntT n then some (wdN n (x + 1)) else none)
def okN (n : Nat) : Bool := okW n && decide (wdN n 0 = List.replicate (n - 1) 0) && decide (spec_trCount.f 12 (n : Int) = some (cntT n : Int)) && decide (cntT n ≤ 1296) && decide (1 ≤ cntT n)
set_option maxRecDepth 1000000 in
theorem okN_all : (List.range 5).all (fun i => okN (i + 1)) = true := by decide +kernel
structure WdOk (n : Nat) : Prop where
 word : ∀ x, x < cntT n → spec_trWord.f 12 ((n : Int) - 1) ((n : Int) + 1) (x : Int) = some (wdN n x)
 len : ∀ x, x < cntT n → (wdN n x).length = n - 1
 range : ∀ x, x < cntT n → ∀ y ∈ wdN n x, 0 ≤ y ∧ y ≤ (n : Int)
 next : ∀ x, x < cntT n → impl_allTrees.nxt (List.replicate (n - 1) 0) (List.replicate (n - 1) (n : Int)) (n - 1) (wdN n x) = if x + 1 < cntT n then some (wdN n (x + 1)) else none
 first : wdN n 0 = List.replicate (n - 1) 0
 count : spec_trCount.f 12 (n : Int) = some (cntT n : Int)
 most : cntT n ≤ 1296
 least : 1 ≤ cntT n
theorem wdOk (n : Nat) (h1 : 1 ≤ n) (h5 : n ≤ 5) : WdOk n := by
 have h := List.all_eq_true.1 okN_all (n - 1) (List.mem_range.2 (by omega))
 rw [show n - 1 + 1 = n by omega] at h
 unfold okN at h
 simp only [Bool.and_eq_true, decide_eq_true_eq] at h
 obtain ⟨⟨⟨⟨hw, h2⟩, h3⟩, h4⟩, h5⟩ := h
 have g : ∀ x, x < cntT n → ((spec_trWord.f 12 ((n : Int) - 1) ((n : Int) + 1) (x : Int) = some (wdN n x) ∧ (wdN n x).length = n - 1) ∧ (∀ y ∈ wdN n x, 0 ≤ y ∧ y ≤ (n : Int))) ∧ impl_allTrees.nxt (List.replicate (n - 1) 0) (List.replicate (n - 1) (n : Int)) (n - 1) (wdN n x) = if x + 1 < cntT n then some (wdN n (x + 1)) else none := fun x hx => by
  have := List.all_eq_true.1 hw x (List.mem_range.2 hx)
  simp only [Bool.and_eq_true, decide_eq_true_eq, List.all_eq_true] at this
  exact this
 exact ⟨fun x hx => (g x hx).1.1.1, fun x hx => (g x hx).1.1.2, fun x hx => (g x hx).1.2, fun x hx => (g x hx).2, h2, h3, h4, h5⟩
def treeN (n x : Nat) : List Int := treeS (wdN n x)
def treesN (n : Nat) : List (List Int) := (List.range' 0 (cntT n)).map (treeN n)
theorem zq47 (n x : Nat) (h1 : 1 ≤ n) (ok : WdOk n) (hx : x < cntT n) : (treeN n x).length = n := by
 rw [treeN, zq37, ok.len x hx]
 omega
theorem zq48 (n x : Nat) (h1 : 1 ≤ n) (h5 : n ≤ 5) (ok : WdOk n) (hx : x < cntT n) : isTr (treeN n x) = true := by
 have hl := ok.len x hx
 exact zq38 _ (fun y hy => by have := ok.range x hx y hy; omega) (by omega)
theorem ev_word (n x : Nat) (h1 : 1 ≤ n) (h5 : n ≤ 5) (ok : WdOk n) (hx : x < cntT n) : Ev (fun k => spec_trWord.f k ((n : Int) - 1) ((n : Int) + 1) (x : Int)) (wdN n x) :=
 Ev.of (fun k => spec_trWord.mono _ _ _ k) (ok.word x hx)
theorem zq49 (n : Nat) (ok : WdOk n) : Ev (fun k => spec_trCount.f k (n : Int)) (cntT n : Int) :=
 Ev.of (fun k => spec_trCount.mono _ k) ok.count
theorem zq50 (n : Nat) (h1 : 1 ≤ n) (h5 : n ≤ 5) (ok : WdOk n) : ∀ (d x : Nat) (out : List (List Int)), x + d = cntT n → out.length ≤ x →
  Ev (fun k => spec_trAll.l0 k (n : Int) out (x : Int)) (out ++ (List.range' x d).map (treeN n))
 | 0, x, out, hd, ho => by
  have := ok.most
  refine Ev.step (fun k => by rw [spec_trAll.l0]) (Ev.bind (zq49 n ok) ?_)
  exact Ev.congr (fun k => by rw [if_neg (by omega)]) (by simpa using Ev.now _)
 | d + 1, x, out, hd, ho => by
  have hm := ok.most
  have ih := zq50 n h1 h5 ok d (x + 1) (out ++ [treeN n x]) (by omega) (by simp; omega)
  have hl := ok.len x (by omega)
  have e : out ++ (List.range' x (d + 1)).map (treeN n) = (out ++ [treeN n x]) ++ (List.range' (x + 1) d).map (treeN n) := by simp [List.range'_succ]
  rw [e]
  refine Ev.step (fun k => by rw [spec_trAll.l0]) (Ev.bind (zq49 n ok) ?_)
  refine Ev.congr (fun k => by rw [if_pos (by omega), w64 (x := (n : Int) - 1) (by omega) (by omega), w64 (x := (n : Int) + 1) (by omega) (by omega)]) (Ev.bind (ev_word n x h1 h5 ok (by omega)) ?_)
  refine Ev.bind (zq31 (wdN n x) (by omega) (fun y hy => by have := ok.range x (by omega) y hy; omega)) ?_
  refine Ev.congr (fun k => by rw [if_pos (by omega), w64 (by omega) (by omega), show (x : Int) + 1 = ((x + 1 : Nat) : Int) by omega]; rfl) ih
theorem zq51 (n : Nat) (h1 : 1 ≤ n) (h5 : n ≤ 5) : Ev (fun k => spec_trAll.f k (n : Int)) (treesN n) := by
 have h := zq50 n h1 h5 (wdOk n h1 h5) (cntT n) 0 [] (by omega) (by simp)
 exact h
theorem zq52 (n : Nat) (h1 : 1 ≤ n) (h5 : n ≤ 5) (ok : WdOk n) : ∀ (d x t : Nat), x + d = cntT n → 0 < d → d ≤ t →
  Ev (fun k => impl_allTrees.run k (List.replicate (n - 1) 0) (List.replicate (n - 1) (n : Int)) t (wdN n x)) ((List.range' x d).map (treeN n))
 | 0, _, _, _, h, _ => by omega
 | d + 1, x, 0, _, _, h => by omega
 | d + 1, x, t + 1, hd, _, ht => by
  have hl := ok.len x (by omega)
  have hn := ok.next x (by omega)
  refine Ev.congr (fun k => by rw [impl_allTrees.run]) ?_
  refine Ev.bind (zq46 (wdN n x) (by omega) (fun y hy => (ok.range x (by omega) y hy).1)) ?_
  by_cases c : x + 1 < cntT n
  ·rw [if_pos c] at hn
   have ih := zq52 n h1 h5 ok d (x + 1) t (by omega) (by omega) (by omega)
   refine Ev.congr (fun k => by rw [hl, hn]) (Ev.bind ih ?_)
   rw [List.range'_succ, List.map_cons]
   exact Ev.now _
  ·rw [if_neg c] at hn
   obtain rfl : d = 0 := by omega
   refine Ev.congr (fun k => by rw [hl, hn]) ?_
   exact Ev.now _
theorem zq53 (n : Nat) (h1 : 1 ≤ n) (h5 : n ≤ 5) : Ev (fun k => impl_allTrees.f k (n : Int)) (treesN n) := by
 have ok := wdOk n h1 h5
 have hm := ok.most
 have h := zq52 n h1 h5 ok (cntT n) 0 10000 (by omega) (by have := ok.least; omega) (by omega)
 refine Ev.congr (fun k => ?_) h
 rw [impl_allTrees.f, if_pos (by omega), show ((n : Int) - 1).toNat = n - 1 by omega, ok.first]
theorem zq54 (n : Nat) (h1 : 1 ≤ n) (h5 : n ≤ 5) : (treesN n).length ≤ 1296 ∧ ∀ t ∈ treesN n, t.length = n ∧ isTr t = true := by
 have ok := wdOk n h1 h5
 refine ⟨by rw [treesN, List.length_map, List.length_range']; exact ok.most, fun t ht => ?_⟩
 obtain ⟨x, hx, rfl⟩ := List.mem_map.1 ht
 have hx2 : x < cntT n := by
  have := (List.mem_range'_1.1 hx).2
  omega
 exact ⟨zq47 n x h1 ok hx2, zq48 n x h1 h5 ok hx2⟩

def Up (l : List Int) : Prop := l.Pairwise (· ≤ ·)
def put (x : Int) : List Int → List Int
 | [] => [x]
 | h :: t => if x ≤ h then x :: h :: t else h :: put x t
def srt : List Int → List Int
 | [] => []
 | h :: t => put h (srt t)
theorem zq55 (x : Int) : ∀ l : List Int, (put x l).Perm (x :: l)
 | [] => .refl _
 | h :: t => by
  rw [put]
  split
  ·exact .refl _
  ·exact ((zq55 x t).cons h).trans (.swap x h t)
theorem put_up (x : Int) : ∀ l : List Int, Up l → Up (put x l)
 | [], _ => by simp [put, Up]
 | h :: t, hl => by
  have h1 := List.pairwise_cons.1 hl
  rw [put]
  split
  ·refine List.pairwise_cons.2 ⟨fun y hy => ?_, hl⟩
   rcases List.mem_cons.1 hy with e | e
   ·omega
   ·have := h1.1 y e; omega
  ·refine List.pairwise_cons.2 ⟨fun y hy => ?_, put_up x t h1.2⟩
   rcases List.mem_cons.1 ((zq55 x t).mem_iff.1 hy) with e | e
   ·omega
   ·exact h1.1 y e
theorem zq56 : ∀ l : List Int, (srt l).Perm l
 | [] => .refl _
 | h :: t => (zq55 h (srt t)).trans ((zq56 t).cons h)
theorem srt_up : ∀ l : List Int, Up (srt l)
 | [] => by simp [srt, Up]
 | h :: t => put_up h _ (srt_up t)
theorem zq57 : ∀ (a b : List Int), Up a → Up b → a.Perm b → a = b
 | [], b, _, _, h => by simpa using h.length_eq.symm
 | x :: a, [], _, _, h => by simpa using h.length_eq
 | x :: a, y :: b, ha, hb, h => by
  have h1 := List.pairwise_cons.1 ha
  have h2 := List.pairwise_cons.1 hb
  have e : x = y := by
   have hx : x ∈ y :: b := h.mem_iff.1 (by simp)
   have hy : y ∈ x :: a := h.mem_iff.2 (by simp)
   rcases List.mem_cons.1 hx with e | e
   ·exact e
   ·rcases List.mem_cons.1 hy with e' | e'
    ·exact e'.symm
    ·have := h1.1 y e'
     have := h2.1 x e
     omega
  subst e
  rw [zq57 a b h1.2 h2.2 (List.perm_cons x |>.1 h)]

def abv (par : List Int) : Nat → Int → List Int
 | 0, _ => []
 | m + 1, a => if a > 0 then rd par (a - 1) :: abv par m (rd par (a - 1)) else []
theorem zq58 (par : List Int) : ∀ (m : Nat) (a : Int), (abv par m a).length ≤ m
 | 0, a => by simp [abv]
 | m + 1, a => by
  rw [abv]
  have := zq58 par m (rd par (a - 1))
  split <;> simp <;> omega
theorem zq59 (par : List Int) (hp : ∀ x ∈ par, 0 ≤ x ∧ x ≤ par.length) : ∀ (m : Nat) (a : Int), 0 ≤ a → a ≤ par.length → ∀ x ∈ abv par m a, 0 ≤ x ∧ x ≤ par.length
 | 0, a, _, _, x, hx => by simp [abv] at hx
 | m + 1, a, h0, h1, x, hx => by
  rw [abv] at hx
  split at hx
  ·have hr := hp _ (rd_mem par (a - 1) (by omega) (by omega))
   rcases List.mem_cons.1 hx with e | e
   ·rw [e]; exact hr
   ·exact zq59 par hp m _ hr.1 hr.2 x e
  ·simp at hx
def above (par : List Int) (a : Int) : List Int := abv par par.length a

theorem zq60 : ∀ (a b : List Int), a.Pairwise (· < ·) → b.Pairwise (· < ·) → (∀ x, x ∈ a ↔ x ∈ b) → a = b
 | [], [], _, _, _ => rfl
 | [], y :: b, _, _, h => by have := (h y).2 (by simp); simp at this
 | x :: a, [], _, _, h => by have := (h x).1 (by simp); simp at this
 | x :: a, y :: b, ha, hb, h => by
  have h1 := List.pairwise_cons.1 ha
  have h2 := List.pairwise_cons.1 hb
  have e : x = y := by
   rcases List.mem_cons.1 ((h x).1 (by simp)) with e | e
   ·exact e
   ·rcases List.mem_cons.1 ((h y).2 (by simp)) with e' | e'
    ·exact e'.symm
    ·have := h1.1 y e'
     have := h2.1 x e
     omega
  subst e
  rw [zq60 a b h1.2 h2.2 fun z => ?_]
  constructor
  ·intro hz
   rcases List.mem_cons.1 ((h z).1 (by simp [hz])) with e | e
   ·have := h1.1 z hz; omega
   ·exact e
  ·intro hz
   rcases List.mem_cons.1 ((h z).2 (by simp [hz])) with e | e
   ·have := h2.1 z hz; omega
   ·exact e
theorem zq61 (l : List Int) (h : l.Nodup) : (srt l).Pairwise (· < ·) := by
 have h1 := srt_up l
 have h2 : (srt l).Nodup := (zq56 l).nodup_iff.2 h
 refine List.pairwise_iff_getElem.2 fun i j hi hj hij => ?_
 have h3 := List.pairwise_iff_getElem.1 h1 i j hi hj hij
 have h4 := List.pairwise_iff_getElem.1 h2 i j hi hj hij
 omega

theorem zq62 (par : List Int) (hp : ∀ x ∈ par, 0 ≤ x ∧ x ≤ par.length) (hl : par.length ≤ 1000) : ∀ (m : Nat) (a : Int) (out : List Int), 0 ≤ a → a ≤ par.length → climb par m a = true → out.length + m ≤ 5000 →
  Ev (fun k => spec_trAbove.l0 k par a out) (out ++ abv par m a)
 | 0, a, out, h0, h1, hc, ho => by
  simp only [climb, decide_eq_true_eq] at hc
  refine Ev.ret fun k => ?_
  rw [spec_trAbove.l0, if_neg (by omega), abv, List.append_nil]
 | m + 1, a, out, h0, h1, hc, ho => by
  rw [abv]
  by_cases c : a > 0
  ·rw [climb, if_pos c] at hc
   have hr := hp _ (rd_mem par (a - 1) (by omega) (by omega))
   have ih := zq62 par hp hl m (rd par (a - 1)) (out ++ [rd par (a - 1)]) hr.1 hr.2 hc (by simp; omega)
   have e : out ++ (rd par (a - 1) :: abv par m (rd par (a - 1))) = out ++ [rd par (a - 1)] ++ abv par m (rd par (a - 1)) := by simp
   rw [if_pos c, e]
   refine Ev.step (fun k => ?_) ih
   show spec_trAbove.l0 (k + 1) par a out = _
   rw [spec_trAbove.l0, if_pos c, w64 (by omega) (by omega), if_pos (by omega), if_pos (by omega), if_pos (by omega)]
  ·rw [if_neg c, List.append_nil]
   refine Ev.ret fun k => ?_
   rw [spec_trAbove.l0, if_neg c]
theorem zq63 (par : List Int) (ht : isTr par = true) (a : Int) (h0 : 1 ≤ a) (h1 : a ≤ par.length) : Ev (fun k => spec_trAbove.f k par a) (above par a) := by
 obtain ⟨h8, h2, h3⟩ := (zq19 par).1 ht
 exact zq62 par h2 (by omega) par.length a [] (by omega) h1 (h3 a h0 h1) (by simp; omega)

theorem zq64 (par : List Int) (hp : ∀ x ∈ par, 0 ≤ x ∧ x ≤ par.length) (hl : par.length ≤ 1000) : ∀ (m : Nat) (a : Int) (out : List Int), 0 ≤ a → a ≤ par.length → climb par m a = true → out.length + m ≤ 5000 →
  Ev (fun k => impl_above.l0 k par a out) (out ++ abv par m a)
 | 0, a, out, h0, h1, hc, ho => by
  simp only [climb, decide_eq_true_eq] at hc
  refine Ev.ret fun k => ?_
  rw [impl_above.l0, if_neg (by omega), abv, List.append_nil]
 | m + 1, a, out, h0, h1, hc, ho => by
  rw [abv]
  by_cases c : a > 0
  ·rw [climb, if_pos c] at hc
   have hr := hp _ (rd_mem par (a - 1) (by omega) (by omega))
   have ih := zq64 par hp hl m (rd par (a - 1)) (out ++ [rd par (a - 1)]) hr.1 hr.2 hc (by simp; omega)
   have e : out ++ (rd par (a - 1) :: abv par m (rd par (a - 1))) = out ++ [rd par (a - 1)] ++ abv par m (rd par (a - 1)) := by simp
   rw [if_pos c, e]
   refine Ev.step (fun k => ?_) ih
   show impl_above.l0 (k + 1) par a out = _
   rw [impl_above.l0, if_pos c, w64 (by omega) (by omega), if_pos (by omega), if_pos (by omega), if_pos (by omega)]
  ·rw [if_neg c, List.append_nil]
   refine Ev.ret fun k => ?_
   rw [impl_above.l0, if_neg c]
theorem zq65 (par : List Int) (ht : isTr par = true) (a : Int) (h0 : 1 ≤ a) (h1 : a ≤ par.length) : Ev (fun k => impl_above.f k par a) (above par a) := by
 obtain ⟨h8, h2, h3⟩ := (zq19 par).1 ht
 exact zq64 par h2 (by omega) par.length a [] (by omega) h1 (h3 a h0 h1) (by simp; omega)

theorem zq66 (l : List Int) : (l.mergeSort fun x y => decide (x ≤ y)) = srt l := by
 refine zq57 _ _ ?_ (srt_up l) ((List.mergeSort_perm l _).trans (zq56 l).symm)
 have h := List.pairwise_mergeSort (le := fun x y : Int => decide (x ≤ y)) (fun a b c h1 h2 => by simp at h1 h2 ⊢; omega) (fun a b => by simp; omega) l
 exact h.imp fun hab => by simpa using hab
theorem zq67 (l : List Int) (hl : l.length ≤ 10000000) : Ev (fun k => impl_sorted.f k l) (srt l) := by
 refine Ev.congr (fun k => ?_) (Ev.now (srt l))
 show impl_sorted.f k l = _
 rw [impl_sorted.f, if_pos hl, slices_Sort_int_int.f, if_pos (by omega), zq66]

theorem zq68 (l : List Int) (hl : l.length ≤ 12) : Ev (fun k => impl_sorted.f k l) (srt l) := zq67 l (by omega)

theorem abv_dep (par : List Int) (ht : isTr par = true) : ∀ (m : Nat) (a : Int), 0 ≤ a → a ≤ par.length → (∀ x ∈ abv par m a, dep par x < dep par a) ∧ (abv par m a).Nodup
 | 0, a, _, _ => by simp [abv]
 | m + 1, a, h0, h1 => by
  obtain ⟨_, h2, _⟩ := (zq19 par).1 ht
  rw [abv]
  by_cases c : a > 0
  ·rw [if_pos c]
   have hr := h2 _ (rd_mem par (a - 1) (by omega) (by omega))
   have hd := zq20 par ht a (by omega) h1
   have ih := abv_dep par ht m (rd par (a - 1)) hr.1 hr.2
   refine ⟨fun x hx => ?_, List.nodup_cons.2 ⟨fun hm => ?_, ih.2⟩⟩
   ·rcases List.mem_cons.1 hx with e | e
    ·rw [e]; omega
    ·have := ih.1 x e; omega
   ·have := ih.1 _ hm; omega
  ·rw [if_neg c]; simp
def rowsJ (ab : List Int) : Nat → Int → List Int
 | 0, _ => []
 | d + 1, j => if j ∈ ab then j :: rowsJ ab d (j + 1) else rowsJ ab d (j + 1)
theorem zq69 (ab : List Int) (x : Int) : ∀ (d : Nat) (j : Int), x ∈ rowsJ ab d j ↔ x ∈ ab ∧ j ≤ x ∧ x < j + d
 | 0, j => by
  simp only [rowsJ, List.not_mem_nil, false_iff]
  omega
 | d + 1, j => by
  have ih := zq69 ab x d (j + 1)
  rw [rowsJ]
  split
  ·rename_i c
   rw [List.mem_cons, ih]
   constructor
   ·rintro (e | ⟨h1, h2, h3⟩)
    ·exact ⟨e ▸ c, by omega, by omega⟩
    ·exact ⟨h1, by omega, by omega⟩
   ·rintro ⟨h1, h2, h3⟩
    by_cases e : x = j
    ·exact .inl e
    ·exact .inr ⟨h1, by omega, by omega⟩
  ·rename_i c
   rw [ih]
   constructor
   ·rintro ⟨h1, h2, h3⟩
    exact ⟨h1, by omega, by omega⟩
   ·rintro ⟨h1, h2, h3⟩
    have : x ≠ j := fun e => c (e ▸ h1)
    exact ⟨h1, by omega, by omega⟩
theorem zq70 (ab : List Int) : ∀ (d : Nat) (j : Int), (rowsJ ab d j).Pairwise (· < ·)
 | 0, j => by simp [rowsJ]
 | d + 1, j => by
  rw [rowsJ]
  split
  ·refine List.pairwise_cons.2 ⟨fun x hx => ?_, zq70 ab d (j + 1)⟩
   have := ((zq69 ab x d (j + 1)).1 hx).2.1
   omega
  ·exact zq70 ab d (j + 1)
theorem zq71 (ab : List Int) : ∀ (d : Nat) (j : Int), (rowsJ ab d j).length ≤ d
 | 0, j => by simp [rowsJ]
 | d + 1, j => by
  have := zq71 ab d (j + 1)
  rw [rowsJ]
  split <;> simp <;> omega
def rowOf (par : List Int) (a : Nat) : List (List Int) := (rowsJ (above par a) (par.length - a) ((a : Int) + 1)).map fun j => [(a : Int), j]
theorem zq72 (par : List Int) (a : Nat) : (rowOf par a).length ≤ par.length := by
 have := zq71 (above par a) (par.length - a) ((a : Int) + 1)
 rw [rowOf, List.length_map]
 omega
def rowsS (par : List Int) : Nat → Nat → List (List Int) → List (List Int)
 | 0, _, out => out
 | d + 1, a, out => rowsS par d (a + 1) (out ++ rowOf par a)
theorem zq73 (par : List Int) (ht : isTr par = true) (a : Nat) (h0 : 1 ≤ a) (h1 : a ≤ par.length) : (srt (above par a)).filter (fun x => decide (x > (a : Int))) = rowsJ (above par a) (par.length - a) ((a : Int) + 1) := by
 obtain ⟨h8, h2, _⟩ := (zq19 par).1 ht
 have hn := (abv_dep par ht par.length a (by omega) (by omega)).2
 refine zq60 _ _ ((zq61 _ hn).filter _) (zq70 _ _ _) fun x => ?_
 rw [List.mem_filter, zq69, (zq56 _).mem_iff, decide_eq_true_eq]
 constructor
 ·rintro ⟨h3, h4⟩
  have := zq59 par h2 par.length a (by omega) (by omega) x h3
  exact ⟨h3, by omega, by omega⟩
 ·rintro ⟨h3, h4, h5⟩
  exact ⟨h3, by omega⟩
theorem zq74 (par ab : List Int) (hp : par.length ≤ 8) (hab : ab.length ≤ 1000) (a : Nat) (ha : a ≤ 100) (r : List (List Int)) : ∀ (d : Nat) (j : Int) (out : List (List Int)), 0 ≤ j → j + d = (par.length : Int) + 1 → out.length + d ≤ 10000 →
  Ev (fun k => spec_trPairs.l0 k par (out ++ (rowsJ ab d j).map fun j => [(a : Int), j]) ((a : Int) + 1)) r →
  Ev (fun k => spec_trPairs.l1 k par out (a : Int) ab j) r
 | 0, j, out, h0, hj, ho, H => by
  refine Ev.step (fun k => ?_) H
  show spec_trPairs.l1 (k + 1) par out (a : Int) ab j = _
  rw [spec_trPairs.l1, if_neg (by omega), w64 (by omega) (by omega), rowsJ, List.map_nil, List.append_nil]
 | d + 1, j, out, h0, hj, ho, H => by
  refine Ev.step (f := fun k => (spec_l1Has.f k ab j).bind fun t => if t = true then (if out.length < 5864062014805 then spec_trPairs.l1 k par (out ++ [([(a : Int), j] : List Int)]) (a : Int) ab (wrap64 (j + 1)) else none) else spec_trPairs.l1 k par out (a : Int) ab (wrap64 (j + 1))) (fun k => ?_) ?_
  ·rw [spec_trPairs.l1, if_pos (by omega)]
  refine Ev.bind (zq22 ab j (by omega)) ?_
  by_cases c : j ∈ ab
  ·rw [rowsJ, if_pos c] at H
   have e : out ++ (j :: rowsJ ab d (j + 1)).map (fun j => [(a : Int), j]) = (out ++ [[(a : Int), j]]) ++ (rowsJ ab d (j + 1)).map (fun j => [(a : Int), j]) := by simp
   rw [e] at H
   have ih := zq74 par ab hp hab a ha r d (j + 1) (out ++ [[(a : Int), j]]) (by omega) (by omega) (by simp; omega) H
   exact Ev.congr (fun k => by rw [if_pos (by simpa using c), if_pos (by omega), w64 (by omega) (by omega)]) ih
  ·rw [rowsJ, if_neg c] at H
   have ih := zq74 par ab hp hab a ha r d (j + 1) out (by omega) (by omega) (by omega) H
   exact Ev.congr (fun k => by rw [if_neg (by simpa using c), w64 (by omega) (by omega)]) ih
theorem zq75 (par : List Int) (ht : isTr par = true) : ∀ (d a : Nat) (out : List (List Int)), 1 ≤ a → a + d = par.length + 1 → out.length ≤ 10 * a →
  Ev (fun k => spec_trPairs.l0 k par out (a : Int)) (rowsS par d a out)
 | 0, a, out, h0, h1, ho => by
  refine Ev.ret fun k => ?_
  rw [spec_trPairs.l0, if_neg (by omega), rowsS]
 | d + 1, a, out, h0, h1, ho => by
  obtain ⟨h8, h2, _⟩ := (zq19 par).1 ht
  have hr := zq72 par a
  have ih := zq75 par ht d (a + 1) (out ++ rowOf par a) (by omega) (by omega) (by rw [List.length_append]; omega)
  rw [show ((a + 1 : Nat) : Int) = (a : Int) + 1 by omega] at ih
  have hab := zq58 par par.length a
  refine Ev.step (f := fun k => (spec_trAbove.f k par a).bind fun t => spec_trPairs.l1 k par out (a : Int) t (wrap64 ((a : Int) + 1))) (fun k => ?_) ?_
  ·rw [spec_trPairs.l0, if_pos (by omega)]
  refine Ev.bind (zq63 par ht a (by omega) (by omega)) ?_
  rw [w64 (by omega) (by omega), rowsS]
  exact zq74 par (above par a) h8 (by unfold above; omega) a (by omega) _ (par.length - a) ((a : Int) + 1) out (by omega) (by omega) (by omega) ih
theorem zq76 (par : List Int) (ht : isTr par = true) : Ev (fun k => spec_trPairs.f k par) (rowsS par par.length 1 []) :=
 zq75 par ht par.length 1 [] (by omega) (by omega) (by simp)
theorem zq77 (par : List Int) (hp : par.length ≤ 8) (v : Nat) (hv : v ≤ 100) (r : List (List Int)) : ∀ (t p : List Int) (out : List (List Int)), p.length + t.length ≤ 1000 → out.length ≤ 1000 + p.length →
  Ev (fun k => impl_inversions.l0 k par (out ++ (t.filter fun x => decide (x > (v : Int) + 1)).map fun j => [(v : Int) + 1, j]) (par.length : Int) ((v : Int) + 1)) r →
  Ev (fun k => impl_inversions.l1 k par out (v : Int) (par.length : Int) (v : Int) (p ++ t) ((p ++ t).length : Int) (p.length : Int)) r
 | [], p, out, hn, ho, H => by
  refine Ev.step (fun k => ?_) H
  show impl_inversions.l1 (k + 1) par out (v : Int) (par.length : Int) (v : Int) (p ++ []) ((p ++ []).length : Int) (p.length : Int) = _
  rw [impl_inversions.l1, if_neg (by simp), w64 (by omega) (by omega)]
  simp
 | x :: t, p, out, hn, ho, H => by
  have hn' : p.length + t.length + 1 ≤ 1000 := by simpa [Nat.add_assoc] using hn
  have hm := len_mid p x t
  by_cases c : x > (v : Int) + 1
  ·rw [List.filter_cons_of_pos (by simpa using c)] at H
   have e : out ++ (x :: t.filter fun x => decide (x > (v : Int) + 1)).map (fun j => [(v : Int) + 1, j]) = (out ++ [[(v : Int) + 1, x]]) ++ (t.filter fun x => decide (x > (v : Int) + 1)).map (fun j => [(v : Int) + 1, j]) := by simp
   rw [e] at H
   have ih := zq77 par hp v hv r t (p ++ [x]) (out ++ [[(v : Int) + 1, x]]) (by simp; omega) (by simp; omega) H
   rw [zq1 p x t, zq0 p x] at ih
   refine Ev.step (fun k => ?_) ih
   show impl_inversions.l1 (k + 1) par out (v : Int) (par.length : Int) (v : Int) (p ++ x :: t) ((p ++ x :: t).length : Int) (p.length : Int) = _
   rw [impl_inversions.l1, if_pos (by omega), if_pos (by omega), if_pos (by omega), rd_mid, w64 (by omega) (by omega), if_pos c, if_pos (by omega), w64 (by omega) (by omega)]
  ·rw [List.filter_cons_of_neg (by simpa using c)] at H
   have ih := zq77 par hp v hv r t (p ++ [x]) out (by simp; omega) (by simp; omega) H
   rw [zq1 p x t, zq0 p x] at ih
   refine Ev.step (fun k => ?_) ih
   show impl_inversions.l1 (k + 1) par out (v : Int) (par.length : Int) (v : Int) (p ++ x :: t) ((p ++ x :: t).length : Int) (p.length : Int) = _
   rw [impl_inversions.l1, if_pos (by omega), if_pos (by omega), if_pos (by omega), rd_mid, w64 (by omega) (by omega), if_neg c, w64 (by omega) (by omega)]
theorem zq78 (par : List Int) (ht : isTr par = true) : ∀ (d v : Nat) (out : List (List Int)), v + d = par.length → out.length ≤ 10 * (v + 1) →
  Ev (fun k => impl_inversions.l0 k par out (par.length : Int) (v : Int)) (rowsS par d (v + 1) out)
 | 0, v, out, h1, ho => by
  refine Ev.ret fun k => ?_
  rw [impl_inversions.l0, if_neg (by omega), rowsS]
 | d + 1, v, out, h1, ho => by
  obtain ⟨h8, h2, _⟩ := (zq19 par).1 ht
  have hr := zq72 par (v + 1)
  have ih := zq78 par ht d (v + 1) (out ++ rowOf par (v + 1)) (by omega) (by rw [List.length_append]; omega)
  have ev : ((v + 1 : Nat) : Int) = (v : Int) + 1 := by omega
  rw [ev] at ih
  have hab : (above par ((v : Int) + 1)).length ≤ par.length := zq58 par par.length ((v : Int) + 1)
  have hsl := (zq56 (above par ((v : Int) + 1))).length_eq
  have hra := zq73 par ht (v + 1) (by omega) (by omega)
  refine Ev.step (f := fun k => (impl_above.f k par ((v : Int) + 1)).bind fun t => (impl_sorted.f k t).bind fun t => impl_inversions.l1 k par out (v : Int) (par.length : Int) (v : Int) t (t.length : Int) 0) (fun k => ?_) ?_
  ·rw [impl_inversions.l0, if_pos (by omega), w64 (by omega) (by omega)]
  refine Ev.bind (zq65 par ht ((v : Int) + 1) (by omega) (by omega)) ?_
  refine Ev.bind (zq68 _ (by omega)) ?_
  refine zq77 par h8 v (by omega) _ (srt (above par ((v : Int) + 1))) [] out (by simp; omega) (by simp; omega) ?_
  rw [rowOf, ev] at ih
  rw [ev] at hra
  rw [hra, rowsS, rowOf, ev]
  exact ih
theorem zq79 (par : List Int) (ht : isTr par = true) : Ev (fun k => impl_inversions.f k par) (rowsS par par.length 1 []) :=
 zq78 par ht par.length 0 [] (by omega) (by simp)

theorem zq80 (p : List (List Int)) (h : List Int) (t : List (List Int)) : rd_L2 (p ++ h :: t) (p.length : Int) = h := by
 unfold rd_L2
 simp

def cbi : List (List Int) → List Int → List Int
 | [], out => out
 | t :: ts, out => cbi ts (out.set (rowsS t t.length 1 []).length (wrap64 (rd out ((rowsS t t.length 1 []).length : Int) + 1)))
theorem zq81 (par : List Int) : ∀ (d a : Nat) (out : List (List Int)), a + d = par.length + 1 → 2 * (rowsS par d a out).length ≤ 2 * out.length + d * (d - 1)
 | 0, a, out, _ => by simp [rowsS]
 | d + 1, a, out, h => by
  have ih := zq81 par d (a + 1) (out ++ rowOf par a) (by omega)
  have h2 : (rowOf par a).length ≤ d := by
   have := zq71 (above par a) (par.length - a) ((a : Int) + 1)
   rw [rowOf, List.length_map]
   omega
  rw [List.length_append] at ih
  rw [rowsS]
  have e : (d + 1) * (d + 1 - 1) = d * (d - 1) + 2 * d := by
   rw [Nat.add_sub_cancel]
   cases d with
   | zero => rfl
   | succ c =>
    rw [Nat.add_sub_cancel, Nat.add_mul, Nat.mul_add, Nat.add_mul]
    omega
  omega
def szT (n : Nat) : Nat := n * (n - 1) / 2 + 1
theorem szT_eq (n : Nat) (h1 : 1 ≤ n) (h5 : n ≤ 5) : wrap64 (wrap64 (Int.tdiv (wrap64 ((n : Int) * wrap64 ((n : Int) - 1))) 2) + 1) = (szT n : Int) := by
 have : ∀ m : Nat, m < 5 → wrap64 (wrap64 (Int.tdiv (wrap64 (((m + 1 : Nat) : Int) * wrap64 (((m + 1 : Nat) : Int) - 1))) 2) + 1) = (szT (m + 1) : Int) := by decide +kernel
 have h := this (n - 1) (by omega)
 rwa [show n - 1 + 1 = n by omega] at h
theorem zq82 (n : Nat) (t : List Int) (hl : t.length = n) : (rowsS t t.length 1 []).length < szT n := by
 have h := zq81 t t.length 1 [] (by omega)
 unfold szT
 rw [hl] at h
 simp only [List.length_nil, Nat.mul_zero, Nat.zero_add] at h
 rw [hl]
 omega
theorem zq83 (n : Nat) (hn : szT n ≤ 1000) : ∀ (ts p : List (List Int)) (out : List Int), p.length + ts.length ≤ 100000 → (∀ t ∈ ts, t.length = n ∧ isTr t = true) → out.length = szT n →
  Ev (fun k => spec_CountByInversions.l0 k out (p ++ ts) ((p ++ ts).length : Int) (p.length : Int)) (cbi ts out, true)
 | [], p, out, _, _, _ => Ev.ret fun k => by rw [spec_CountByInversions.l0, if_neg (by simp), cbi]
 | t :: ts, p, out, hp, ht, ho => by
  have hp' : p.length + ts.length + 1 ≤ 100000 := by simpa [Nat.add_assoc] using hp
  obtain ⟨t1, t2⟩ := ht t (List.mem_cons_self ..)
  have hx := zq82 n t t1
  have ih := zq83 n hn ts (p ++ [t]) (out.set (rowsS t t.length 1 []).length (wrap64 (rd out ((rowsS t t.length 1 []).length : Int) + 1))) (by simp; omega) (fun y hy => ht y (List.mem_cons_of_mem _ hy)) (by rw [List.length_set]; exact ho)
  have e1 : (p ++ [t]) ++ ts = p ++ t :: ts := by simp
  have e2 : (((p ++ [t]).length : Nat) : Int) = (p.length : Int) + 1 := by simp
  have hm : ((p ++ t :: ts).length : Int) = (p.length : Int) + ts.length + 1 := by simp; omega
  rw [e1, e2] at ih
  refine Ev.step (fun k => by rw [spec_CountByInversions.l0, if_pos (by omega), if_pos (by omega), if_pos (by omega), zq80]) (Ev.bind (zq76 t t2) ?_)
  exact Ev.congr (fun k => by rw [if_pos (by omega), if_pos (by omega), Int.toNat_natCast, w64 (x := (p.length : Int) + 1) (by omega) (by omega)]) ih
theorem zq84 (n : Nat) (hn : szT n ≤ 1000) : ∀ (ts p : List (List Int)) (out : List Int), p.length + ts.length ≤ 100000 → (∀ t ∈ ts, t.length = n ∧ isTr t = true) → out.length = szT n →
  Ev (fun k => impl_CountByInversions.l0 k out (p ++ ts) ((p ++ ts).length : Int) (p.length : Int)) (cbi ts out, true)
 | [], p, out, _, _, _ => Ev.ret fun k => by rw [impl_CountByInversions.l0, if_neg (by simp), cbi]
 | t :: ts, p, out, hp, ht, ho => by
  have hp' : p.length + ts.length + 1 ≤ 100000 := by simpa [Nat.add_assoc] using hp
  obtain ⟨t1, t2⟩ := ht t (List.mem_cons_self ..)
  have hx := zq82 n t t1
  have ih := zq84 n hn ts (p ++ [t]) (out.set (rowsS t t.length 1 []).length (wrap64 (rd out ((rowsS t t.length 1 []).length : Int) + 1))) (by simp; omega) (fun y hy => ht y (List.mem_cons_of_mem _ hy)) (by rw [List.length_set]; exact ho)
  have e1 : (p ++ [t]) ++ ts = p ++ t :: ts := by simp
  have e2 : (((p ++ [t]).length : Nat) : Int) = (p.length : Int) + 1 := by simp
  have hm : ((p ++ t :: ts).length : Int) = (p.length : Int) + ts.length + 1 := by simp; omega
  rw [e1, e2] at ih
  refine Ev.step (fun k => by rw [impl_CountByInversions.l0, if_pos (by omega), if_pos (by omega), if_pos (by omega), zq80]) (Ev.bind (zq79 t t2) ?_)
  exact Ev.congr (fun k => by rw [if_pos (by omega), if_pos (by omega), Int.toNat_natCast, w64 (x := (p.length : Int) + 1) (by omega) (by omega)]) ih
def cbiR (n : Int) : List Int × Bool := if 0 ≤ n ∧ n ≤ 5 then (if n = 0 then ([1], true) else (cbi (treesN n.toNat) (List.replicate (szT n.toNat) 0), true)) else ([], false)
theorem zq85 (n : Int) : Ev (fun k => spec_CountByInversions.f k n) (cbiR n) ∧ Ev (fun k => impl_CountByInversions.f k n) (cbiR n) := by
 unfold cbiR
 by_cases c : 0 ≤ n ∧ n ≤ 5
 ·rw [if_pos c]
  have e1 : spec_l1In.f n 0 5 = some true := by rw [spec_l1In.f, if_pos (by omega), decide_eq_true (by omega)]
  have e2 : impl_between.f n 0 5 = some true := by rw [impl_between.f, if_pos (by omega), decide_eq_true (by omega)]
  by_cases c0 : n = 0
  ·rw [if_pos c0]
   refine ⟨?_, ?_⟩
   ·exact Ev.congr (fun k => by rw [spec_CountByInversions.f, e1, Option.bind_some, if_pos rfl, if_pos c0]) (Ev.now _)
   ·exact Ev.congr (fun k => by rw [impl_CountByInversions.f, e2, Option.bind_some, if_pos rfl, if_pos c0]) (Ev.now _)
  ·rw [if_neg c0]
   obtain ⟨m, rfl⟩ := Int.eq_ofNat_of_zero_le (show 0 ≤ n by omega)
   have hz := szT_eq m (by omega) (by omega)
   have hz2 : szT m ≤ 1000 := by
    have : ∀ i : Nat, i < 6 → szT i ≤ 1000 := by decide
    exact this m (by omega)
   obtain ⟨h1, h2⟩ := zq54 m (by omega) (by omega)
   rw [Int.toNat_natCast]
   refine ⟨?_, ?_⟩
   ·refine Ev.congr (fun k => by rw [spec_CountByInversions.f, e1, Option.bind_some, if_pos rfl, if_neg c0, hz, if_pos (by omega), if_pos (by omega), Int.toNat_natCast]) (Ev.bind (zq51 m (by omega) (by omega)) ?_)
    have := zq83 m hz2 (treesN m) [] (List.replicate (szT m) 0) (by simp; omega) h2 (by simp)
    exact this
   ·refine Ev.congr (fun k => by rw [impl_CountByInversions.f, e2, Option.bind_some, if_pos rfl, if_neg c0, hz, if_pos (by omega), if_pos (by omega), Int.toNat_natCast]) (Ev.bind (zq53 m (by omega) (by omega)) ?_)
    have := zq84 m hz2 (treesN m) [] (List.replicate (szT m) 0) (by simp; omega) h2 (by simp)
    exact this
 ·rw [if_neg c]
  have e1 : ∃ b, spec_l1In.f n 0 5 = some b ∧ b = false := by
   unfold spec_l1In.f
   by_cases d : n ≥ 0
   ·rw [if_pos d]; exact ⟨_, rfl, decide_eq_false (by omega)⟩
   ·rw [if_neg d]; exact ⟨_, rfl, rfl⟩
  have e2 : ∃ b, impl_between.f n 0 5 = some b ∧ b = false := by
   unfold impl_between.f
   by_cases d : n ≥ 0
   ·rw [if_pos d]; exact ⟨_, rfl, decide_eq_false (by omega)⟩
   ·rw [if_neg d]; exact ⟨_, rfl, rfl⟩
  obtain ⟨b1, e1, rfl⟩ := e1
  obtain ⟨b2, e2, rfl⟩ := e2
  refine ⟨?_, ?_⟩
  ·exact Ev.congr (fun k => by rw [spec_CountByInversions.f, e1, Option.bind_some, if_neg (by simp)]) (Ev.now _)
  ·exact Ev.congr (fun k => by rw [impl_CountByInversions.f, e2, Option.bind_some, if_neg (by simp)]) (Ev.now _)
def pkN (x : Nat) : List Int := (impl_parkingAt.f 400 5 (x : Int)).getD []
def pkRow (x : Nat) : Bool := decide (impl_parkingAt.f 400 5 (x : Int) = some (pkN x)) && decide ((pkN x).length = 5) && ((pkN x).all fun y => decide (0 ≤ y) && decide (y ≤ 4)) && decide ((pkN x).foldl (· + ·) 0 ≤ 10) && decide (0 ≤ (pkN x).foldl (· + ·) 0) && decide (impl_total.f 10 (pkN x) = some ((pkN x).foldl (· + ·) 0))
def pkOk (a d : Nat) : Bool := (List.range' a d).all pkRow
def bumpN (t : List Int) (x : Nat) : List Int := let i := (10 - (pkN x).foldl (· + ·) 0).toNat; t.set i (t.getD i 0 + 1)
theorem pk5a : pkOk 0 400 = true := by decide +kernel
theorem pk5b : pkOk 400 400 = true := by decide +kernel
theorem pk5c : pkOk 800 496 = true := by decide +kernel
theorem pkHist : (List.range' 0 1296).foldl bumpN (List.replicate 11 0) = [120, 240, 270, 240, 180, 120, 70, 35, 15, 5, 1] := by decide +kernel

theorem pk_all (x : Nat) (hx : x < 1296) : impl_parkingAt.f 400 5 (x : Int) = some (pkN x) ∧ (pkN x).length = 5 ∧ (pkN x).foldl (· + ·) 0 ≤ 10 ∧ 0 ≤ (pkN x).foldl (· + ·) 0 ∧ impl_total.f 10 (pkN x) = some ((pkN x).foldl (· + ·) 0) := by
 have h : pkRow x = true := by
  rcases Nat.lt_or_ge x 400 with h | h
  ·exact List.all_eq_true.1 pk5a x (by rw [List.mem_range'_1]; omega)
  ·rcases Nat.lt_or_ge x 800 with h' | h'
   ·exact List.all_eq_true.1 pk5b x (by rw [List.mem_range'_1]; omega)
   ·exact List.all_eq_true.1 pk5c x (by rw [List.mem_range'_1]; omega)
 unfold pkRow at h
 simp only [Bool.and_eq_true, decide_eq_true_eq] at h
 exact ⟨h.1.1.1.1.1, h.1.1.1.1.2, h.1.1.2, h.1.2, h.2⟩
theorem zq86 : ∀ (d x : Nat) (out : List (List Int)), x + d = 1296 → out.length ≤ x →
  Ev (fun k => impl_allParking.l0 k 5 out 1296 (x : Int)) (out ++ (List.range' x d).map pkN)
 | 0, x, out, hd, ho =>
  Ev.step (fun k => by rw [impl_allParking.l0, if_neg (by omega)]) (by simpa using Ev.now _)
 | d + 1, x, out, hd, ho => by
  have ih := zq86 d (x + 1) (out ++ [pkN x]) (by omega) (by simp; omega)
  have e : out ++ (List.range' x (d + 1)).map pkN = (out ++ [pkN x]) ++ (List.range' (x + 1) d).map pkN := by simp [List.range'_succ]
  rw [e]
  refine Ev.step (fun k => by rw [impl_allParking.l0, if_pos (by omega)]) (Ev.bind (Ev.of (fun k => impl_parkingAt.mono _ _ k) (pk_all x (by omega)).1) ?_)
  exact Ev.congr (fun k => by rw [if_pos (by omega), w64 (by omega) (by omega), show (x : Int) + 1 = ((x + 1 : Nat) : Int) by omega]) ih

def parks5 : List (List Int) := (List.range' 0 1296).map pkN
theorem zq87 (x : Nat) (hx : x < 1296) : rd_L2 parks5 (x : Int) = pkN x := by
 simp [rd_L2, parks5, List.getD_eq_getElem?_getD, List.getElem?_range', hx]
theorem cbd5_l0 : ∀ (d x : Nat) (out : List Int), x + d = 1296 → out.length = 11 → (∀ y ∈ out, 0 ≤ y ∧ y ≤ (x : Int)) →
  Ev (fun k => impl_CountByDistance.l0 k 10 out parks5 1296 (x : Int)) ((List.range' x d).foldl bumpN out, true)
 | 0, x, out, hd, hl, hb => Ev.step (fun k => by rw [impl_CountByDistance.l0, if_neg (by omega)]) (by simpa using Ev.now _)
 | d + 1, x, out, hd, hl, hb => by
  obtain ⟨-, -, h10, h0, ht⟩ := pk_all x (by omega)
  obtain ⟨s, hs⟩ : ∃ s, (pkN x).foldl (· + ·) 0 = s := ⟨_, rfl⟩
  rw [hs] at h10 h0 ht
  have hpl : parks5.length = 1296 := by simp [parks5]
  have hi : (10 - s).toNat < out.length := by omega
  have hr : rd out (10 - s) = out.getD (10 - s).toNat 0 := rfl
  have hv := hb _ (List.getElem_mem hi)
  have hg : out.getD (10 - s).toNat 0 = out[(10 - s).toNat] := by simp [List.getD_eq_getElem?_getD, List.getElem?_eq_getElem hi]
  have hB : bumpN out x = out.set (10 - s).toNat (out.getD (10 - s).toNat 0 + 1) := by rw [bumpN, hs]
  have ih := cbd5_l0 d (x + 1) (bumpN out x) (by omega) (by rw [hB]; simpa using hl) (fun y hy => by
   rw [hB] at hy
   rcases List.mem_or_eq_of_mem_set hy with h | h
   ·have := hb y h; omega
   ·rw [h, hg]; omega)
  rw [List.range'_succ, List.foldl_cons]
  refine Ev.step (fun k => by rw [impl_CountByDistance.l0, if_pos (by omega), if_pos (by omega), if_pos (by omega), zq87 x (by omega)]) (Ev.bind (Ev.of (fun k => impl_total.mono _ k) ht) ?_)
  refine Ev.congr (fun k => by rw [w64 (x := 10 - s) (by omega) (by omega), if_pos (by omega), if_pos (by omega), hr, w64 (x := out.getD (10 - s).toNat 0 + 1) (by rw [hg]; omega) (by rw [hg]; omega), w64 (x := (x : Int) + 1) (by omega) (by omega), ← hB, show (x : Int) + 1 = ((x + 1 : Nat) : Int) by omega]) ih
theorem zq88 : (List.range 5).all (fun n => decide (impl_CountByDistance.f 2500 (n : Int) = some (cbiR (n : Int)))) = true := by decide +kernel
theorem cbiR5 : cbiR 5 = ([120, 240, 270, 240, 180, 120, 70, 35, 15, 5, 1], true) := by decide +kernel
theorem zq89 (n : Int) : Ev (fun k => impl_CountByDistance.f k n) (cbiR n) := by
 by_cases h : 0 ≤ n ∧ n ≤ 5
 ·rcases (show n < 5 ∨ 5 ≤ n by omega) with h5 | h5
  ·have g := List.all_eq_true.1 zq88 n.toNat (List.mem_range.2 (by omega))
   rw [decide_eq_true_eq, show ((n.toNat : Nat) : Int) = n by omega] at g
   exact Ev.of (fun k => impl_CountByDistance.mono _ k) g
  ·obtain rfl : n = 5 := by omega
   have e := cbd5_l0 1296 0 (List.replicate 11 0) (by omega) (by simp) (by intro y hy; rw [List.eq_of_mem_replicate hy]; simp)
   rw [pkHist, ← cbiR5] at e
   have a : Ev (fun k => impl_allParking.f k 5) parks5 := by
    refine Ev.congr (fun k => by rw [impl_allParking.f]) (Ev.bind (Ev.of (fun k => impl_countParking.mono _ k) (show impl_countParking.f 50 5 = some 1296 by decide +kernel)) ?_)
    simpa [parks5] using zq86 1296 0 [] (by omega) (by simp)
   refine Ev.congr (fun k => by rw [impl_CountByDistance.f, impl_between.f, if_pos (by omega)]) ?_
   have z : wrap64 (Int.tdiv (wrap64 ((5 : Int) * wrap64 (5 - 1))) 2) = 10 := by decide +kernel
   have z2 : wrap64 ((10 : Int) + 1) = 11 := by decide +kernel
   refine Ev.congr (fun k => by rw [Option.bind_some, if_pos (by decide), z, z2, if_pos (by decide), if_pos (by decide)]) (Ev.bind a ?_)
   exact Ev.congr (fun k => by rw [show (parks5.length : Int) = 1296 by simp [parks5]]; rfl) e
 ·rw [cbiR, if_neg h]
  refine Ev.congr (fun k => ?_) (Ev.now (([] : List Int), false))
  rw [impl_CountByDistance.f, impl_between.f]
  by_cases h0 : n ≥ 0
  ·rw [if_pos h0, Option.bind_some, if_neg (by simp; omega)]
  ·rw [if_neg h0, Option.bind_some, if_neg (by simp)]

theorem zq90 (L : List Int) (hl : L.length ≤ 1000000) : ∀ (d i : Nat), i + d = L.length → Ev (fun k => laws_wSame.l0 k L L (L.length : Int) (i : Int)) true
 | 0, i, hd => Ev.ret fun k => by rw [laws_wSame.l0, if_neg (by omega)]
 | d + 1, i, hd => by
  have ih := zq90 L hl d (i + 1) (by omega)
  rw [show ((i + 1 : Nat) : Int) = (i : Int) + 1 by omega] at ih
  refine Ev.step (fun k => ?_) ih
  show laws_wSame.l0 (k + 1) L L (L.length : Int) (i : Int) = _
  rw [laws_wSame.l0, if_pos (by omega), if_pos (by omega), if_pos (by omega), if_pos (by omega), if_pos rfl, w64 (by omega) (by omega)]
theorem zq91 (L : List Int) (hl : L.length ≤ 1000000) : Ev (fun k => laws_wSame.f k L L) true :=
 Ev.congr (fun k => by rw [laws_wSame.f, if_pos rfl]; rfl) (zq90 L hl L.length 0 (by omega))

theorem zq92 (L : List (List Int)) (hl : L.length ≤ 1000000) (hx : ∀ x ∈ L, x.length ≤ 1000000) : ∀ (d i : Nat), i + d = L.length → Ev (fun k => laws_wSameLists.l0 k L L (L.length : Int) (i : Int)) true
 | 0, i, hd => Ev.ret fun k => by rw [laws_wSameLists.l0, if_neg (by omega)]
 | d + 1, i, hd => by
  have ih := zq92 L hl hx d (i + 1) (by omega)
  rw [show ((i + 1 : Nat) : Int) = (i : Int) + 1 by omega] at ih
  have hm : (rd_L2 L i).length ≤ 1000000 := by
   refine hx _ ?_
   unfold rd_L2
   rw [Int.toNat_natCast, List.getD_eq_getElem?_getD, List.getElem?_eq_getElem (by omega)]
   exact List.getElem_mem _
  refine Ev.step (fun k => by rw [laws_wSameLists.l0, if_pos (by omega), if_pos (by omega), if_pos (by omega), if_pos (by omega)]) (Ev.bind (zq91 (rd_L2 L i) hm) ?_)
  exact Ev.congr (fun k => by rw [if_pos rfl, w64 (by omega) (by omega)]) ih
theorem zq93 (L : List (List Int)) (hl : L.length ≤ 1000000) (hx : ∀ x ∈ L, x.length ≤ 1000000) : Ev (fun k => laws_wSameLists.f k L L) true :=
 Ev.congr (fun k => by rw [laws_wSameLists.f, if_pos rfl]; rfl) (zq92 L hl hx L.length 0 (by omega))

theorem zq94 : ∀ (t p : List Int) (a : Int), p.length + t.length ≤ 35184372088832 → 0 ≤ a → (∀ x ∈ t, 0 ≤ x ∧ x ≤ 1000) → a + 1000 * (t.length : Int) ≤ 9223372036854775807 →
  Ev (fun k => laws_wSum.l0 k a (p ++ t) ((p ++ t).length : Int) (p.length : Int)) (a + t.sum)
 | [], p, a, _, _, _, _ => by
  refine Ev.ret fun k => ?_
  rw [laws_wSum.l0, if_neg (by simp)]
  simp
 | h :: t, p, a, hn, ha, hb, hs => by
  have hn' : p.length + t.length + 1 ≤ 35184372088832 := by simpa [Nat.add_assoc] using hn
  have hm := len_mid p h t
  have hh := hb h (by simp)
  have hs' : a + 1000 * ((t.length : Int) + 1) ≤ 9223372036854775807 := by simpa using hs
  have ih := zq94 t (p ++ [h]) (a + h) (by simp; omega) (by omega) (fun x hx => hb x (by simp [hx])) (by omega)
  rw [zq1, zq0] at ih
  rw [List.sum_cons, ← Int.add_assoc]
  refine Ev.step (fun k => ?_) ih
  show laws_wSum.l0 (k + 1) a (p ++ h :: t) ((p ++ h :: t).length : Int) (p.length : Int) = _
  rw [laws_wSum.l0, if_pos (by omega), if_pos (by omega), if_pos (by omega), rd_mid, w64 (by omega) (by omega), w64 (by omega) (by omega)]
theorem zq95 (l : List Int) (hl : l.length ≤ 35184372088832) (hb : ∀ x ∈ l, 0 ≤ x ∧ x ≤ 1000) : Ev (fun k => laws_wSum.f k l) l.sum := by
 have h := zq94 l [] 0 (by simpa using hl) (by omega) hb (by omega)
 rw [Int.zero_add] at h
 exact h

def ctR (n : Int) : Int × Bool := (impl_CountTrees.f 60 n).getD (0, false)
theorem ctR_all : (List.range 8).all (fun i => decide (impl_CountTrees.f 60 ((i : Int) - 1) = some (ctR ((i : Int) - 1))) && decide (spec_CountTrees.f 60 ((i : Int) - 1) = some (ctR ((i : Int) - 1))) && decide (impl_CountParking.f 60 ((i : Int) - 1) = some (ctR ((i : Int) - 1)))) = true := by decide +kernel
theorem ev_ctR (n : Int) (h0 : -1 ≤ n) (h1 : n ≤ 6) : Ev (fun k => impl_CountTrees.f k n) (ctR n) ∧ Ev (fun k => spec_CountTrees.f k n) (ctR n) ∧ Ev (fun k => impl_CountParking.f k n) (ctR n) := by
 have h := List.all_eq_true.1 ctR_all (n + 1).toNat (List.mem_range.2 (by omega))
 rw [show (((n + 1).toNat : Nat) : Int) - 1 = n by omega] at h
 simp only [Bool.and_eq_true, decide_eq_true_eq] at h
 exact ⟨Ev.of (fun k => impl_CountTrees.mono _ k) h.1.1, Ev.of (fun k => spec_CountTrees.mono _ k) h.1.2, Ev.of (fun k => impl_CountParking.mono _ k) h.2⟩
def atR (n : Int) : List (List Int) × Bool := if 1 ≤ n ∧ n ≤ 5 then (treesN n.toNat, true) else ([], false)
theorem ev_atR (n : Int) : Ev (fun k => spec_AllTrees.f k n) (atR n) ∧ Ev (fun k => impl_AllTrees.f k n) (atR n) := by
 unfold atR
 by_cases c : 1 ≤ n ∧ n ≤ 5
 ·rw [if_pos c]
  obtain ⟨m, rfl⟩ := Int.eq_ofNat_of_zero_le (show 0 ≤ n by omega)
  rw [Int.toNat_natCast]
  have e1 : spec_l1In.f (m : Int) 1 5 = some true := by rw [spec_l1In.f, if_pos (by omega), decide_eq_true (by omega)]
  have e2 : impl_between.f (m : Int) 1 5 = some true := by rw [impl_between.f, if_pos (by omega), decide_eq_true (by omega)]
  refine ⟨?_, ?_⟩
  ·exact Ev.congr (fun k => by rw [spec_AllTrees.f, e1, Option.bind_some, if_pos rfl]) (Ev.bind (zq51 m (by omega) (by omega)) (Ev.now _))
  ·exact Ev.congr (fun k => by rw [impl_AllTrees.f, e2, Option.bind_some, if_pos rfl]) (Ev.bind (zq53 m (by omega) (by omega)) (Ev.now _))
 ·rw [if_neg c]
  have e1 : ∃ b, spec_l1In.f n 1 5 = some b ∧ b = false := by
   unfold spec_l1In.f
   by_cases d : n ≥ 1
   ·rw [if_pos d]; exact ⟨_, rfl, decide_eq_false (by omega)⟩
   ·rw [if_neg d]; exact ⟨_, rfl, rfl⟩
  have e2 : ∃ b, impl_between.f n 1 5 = some b ∧ b = false := by
   unfold impl_between.f
   by_cases d : n ≥ 1
   ·rw [if_pos d]; exact ⟨_, rfl, decide_eq_false (by omega)⟩
   ·rw [if_neg d]; exact ⟨_, rfl, rfl⟩
  obtain ⟨b1, e1, rfl⟩ := e1
  obtain ⟨b2, e2, rfl⟩ := e2
  refine ⟨?_, ?_⟩
  ·exact Ev.congr (fun k => by rw [spec_AllTrees.f, e1, Option.bind_some, if_neg (by simp)]) (Ev.now _)
  ·exact Ev.congr (fun k => by rw [impl_AllTrees.f, e2, Option.bind_some, if_neg (by simp)]) (Ev.now _)
theorem zq96 (n : Int) : (atR n).1.length ≤ 1000000 ∧ ∀ x ∈ (atR n).1, x.length ≤ 1000000 := by
 unfold atR
 by_cases c : 1 ≤ n ∧ n ≤ 5
 ·rw [if_pos c]
  obtain ⟨h1, h2⟩ := zq54 n.toNat (by omega) (by omega)
  exact ⟨by show (treesN n.toNat).length ≤ _; omega, fun x hx => by have := (h2 x hx).1; omega⟩
 ·rw [if_neg c]; simp
theorem cnt_ct : (List.range 5).all (fun i => decide (ctR ((i : Int) + 1) = ((cntT (i + 1) : Int), true))) = true := by decide +kernel
theorem zq97 (n : Int) (h : (atR n).2 = true) : (((atR n).1.length : Int) != (ctR n).1) = false := by
 unfold atR at *
 by_cases c : 1 ≤ n ∧ n ≤ 5
 ·rw [if_pos c]
  have g := List.all_eq_true.1 cnt_ct (n - 1).toNat (List.mem_range.2 (by omega))
  rw [decide_eq_true_eq, show (((n - 1).toNat : Nat) : Int) + 1 = n by omega, show (n - 1).toNat + 1 = n.toNat by omega] at g
  rw [g]
  show (((treesN n.toNat).length : Int) != (cntT n.toNat : Int)) = false
  rw [treesN, List.length_map, List.length_range']
  exact bne_self_eq_false _
 ·rw [if_neg c] at h; simp at h
theorem cbi_sum : (List.range 6).all (fun i => decide ((cbiR (i : Int)).1.sum = (ctR (i : Int)).1) && (ctR (i : Int)).2 && (cbiR (i : Int)).2 && ((cbiR (i : Int)).1.all fun x => decide (0 ≤ x) && decide (x ≤ 1000)) && decide ((cbiR (i : Int)).1.length ≤ 1000)) = true := by decide +kernel
theorem zq98 (m : Int) : (cbiR m).1.length ≤ 1000000 := by
 by_cases c : 0 ≤ m ∧ m ≤ 5
 ·have h := List.all_eq_true.1 cbi_sum m.toNat (List.mem_range.2 (by omega))
  rw [show ((m.toNat : Nat) : Int) = m by omega] at h
  simp only [Bool.and_eq_true, decide_eq_true_eq] at h
  omega
 ·rw [cbiR, if_neg c]; simp
theorem cbiR_ok (m : Int) (h : (cbiR m).2 = true) : 0 ≤ m ∧ m ≤ 5 := by
 by_cases c : 0 ≤ m ∧ m ≤ 5
 ·exact c
 ·rw [cbiR, if_neg c] at h; simp at h
def prN (n x : Nat) : List Int := ((impl_PruferOf.f 300 (treeN n x)).getD ([], false)).1
def okP (n : Nat) : Bool := (List.range (cntT n)).all fun x => decide (impl_PruferOf.f 300 (treeN n x) = some (prN n x, true)) && decide (impl_IsTree.f 300 (treeN n x) = some true) && decide (x = 0 ∨ laws_wLess.f 300 (prN n (x - 1)) (prN n x) = some true)
theorem okP_all : (List.range 4).all (fun i => okP (i + 1)) = true := by decide +kernel
theorem zq99 (n x : Nat) (hx : x < cntT n) : rd_L2 (treesN n) (x : Int) = treeN n x := by
 simp [rd_L2, treesN, List.getD_eq_getElem?_getD, List.getElem?_range', hx]
theorem zq100 (n : Nat) (h1 : 1 ≤ n) (h4 : n ≤ 4) (hm : cntT n ≤ 1296) : ∀ (d x : Nat), x + d = cntT n → Ev (fun k => laws_FnTreesListed.l0 k (treesN n) (treesN n) ((treesN n).length : Int) (x : Int)) true
 | 0, x, hd => by
  have hl : (treesN n).length = cntT n := by rw [treesN, List.length_map, List.length_range']
  exact Ev.ret fun k => by rw [laws_FnTreesListed.l0, if_neg (by omega)]
 | d + 1, x, hd => by
  have hl : (treesN n).length = cntT n := by rw [treesN, List.length_map, List.length_range']
  have ih := zq100 n h1 h4 hm d (x + 1) (by omega)
  have g := List.all_eq_true.1 okP_all (n - 1) (List.mem_range.2 (by omega))
  rw [show n - 1 + 1 = n by omega] at g
  have g0 := List.all_eq_true.1 g x (List.mem_range.2 (by omega))
  simp only [Bool.and_eq_true, decide_eq_true_eq] at g0
  obtain ⟨⟨gp, gt⟩, gl⟩ := g0
  refine Ev.step (fun k => by rw [laws_FnTreesListed.l0, if_pos (by omega), if_pos (by omega), if_pos (by omega), zq99 n x (by omega)]) (Ev.bind (Ev.of (fun k => impl_PruferOf.mono _ k) gp) ?_)
  refine Ev.congr (fun k => by rw [if_pos rfl]) (Ev.bind (Ev.of (fun k => impl_IsTree.mono _ k) gt) ?_)
  rcases Nat.eq_zero_or_pos x with h0 | h0
  ·exact Ev.step (fun k => by rw [laws_FnTreesListed.j5, if_neg (by simp), if_neg (by omega), w64 (by omega) (by omega), show (x : Int) + 1 = ((x + 1 : Nat) : Int) by omega]) ih
  ·have g1 := List.all_eq_true.1 g (x - 1) (List.mem_range.2 (by omega))
   simp only [Bool.and_eq_true, decide_eq_true_eq] at g1
   refine Ev.step (fun k => by rw [laws_FnTreesListed.j5, if_neg (by simp), if_pos (by omega), w64 (x := (x : Int) - 1) (by omega) (by omega), w64 (x := (x : Int) + 1) (by omega) (by omega), if_pos (by omega), if_pos (by omega), show (x : Int) - 1 = ((x - 1 : Nat) : Int) by omega, zq99 n (x - 1) (by omega)]) (Ev.bind (Ev.of (fun k => impl_PruferOf.mono _ k) g1.1.1) ?_)
   refine Ev.congr (fun k => by rw [if_pos rfl]) (Ev.bind (Ev.of (fun k => laws_wLess.mono _ _ k) (gl.resolve_left (by omega))) ?_)
   exact Ev.congr (fun k => by rw [if_pos rfl, show (x : Int) + 1 = ((x + 1 : Nat) : Int) by omega]) ih
theorem zq101 (n : Int) : Ev (fun k => laws_FnTreesListed.j2 k n (atR n).1 (atR n).2) true := by
 by_cases c : 1 ≤ n ∧ n ≤ 5
 ·have e : atR n = (treesN n.toNat, true) := by rw [atR, if_pos c]
  rw [e]
  refine Ev.step (fun k => by rw [laws_FnTreesListed.j2, if_pos rfl]) ?_
  by_cases d : n > 4
  ·exact Ev.ret fun k => by rw [laws_FnTreesListed.j3, if_pos (by simpa using d)]
  ·have ok := wdOk n.toNat (by omega) (by omega)
   exact Ev.step (fun k => by rw [laws_FnTreesListed.j3, if_neg (by simpa using d)]; rfl) (zq100 n.toNat (by omega) (by omega) ok.most (cntT n.toNat) 0 (by omega))
 ·have e : atR n = ([], false) := by rw [atR, if_neg c]
  rw [e]
  exact Ev.step (fun k => by rw [laws_FnTreesListed.j2, if_neg (by simp)]) (Ev.ret fun k => by rw [laws_FnTreesListed.j3, if_pos rfl])
theorem FnTreesListed : laws_FnTreesListed.Pure := by
 intro l0 l1 hm0 _ hw0 hm1 _ hw1
 have hbig : ∃ b, laws_big.f l0 l1 = some b := by
  unfold laws_big.f
  by_cases c : (l0.length : Int) > 1048576
  ·rw [if_pos c]; exact ⟨true, rfl⟩
  ·rw [if_neg c]; exact ⟨_, rfl⟩
 obtain ⟨b, hb⟩ := hbig
 cases b with
 | true => exact ⟨0, by rw [laws_FnTreesListed.f, hb]; rfl⟩
 | false =>
  have hc0 : ∀ x ∈ l0, 0 ≤ x ∧ x ≤ 255 := fun x hx => by
   have := hw0 x hx
   simpa [Lit.wf, IntKind.min, IntKind.max, IntKind.signed, IntKind.bits] using this
  have hc1 : ∀ x ∈ l1, 0 ≤ x ∧ x ≤ 255 := fun x hx => by
   have := hw1 x hx
   simpa [Lit.wf, IntKind.min, IntKind.max, IntKind.signed, IntKind.bits] using this
  obtain ⟨n, hD, hn0, hn1⟩ : ∃ n, spec_DrawAllTrees.f l0 = some n ∧ -1 ≤ n ∧ n ≤ 6 := by
   obtain ⟨o, a, s, e, h2⟩ := zq5 l0 hc0 0 0 8 0 ⟨by omega, by omega⟩ (by omega)
   unfold spec_DrawAllTrees.f
   rw [e, Option.bind_some]
   cases o with
   | true =>
    obtain ⟨v, a2, s2, e2, hv, hv2, -⟩ := zq6 l0 hc0 a s 5 (by omega) (by omega) 2 h2 (by omega)
    simp only [e2]
    exact ⟨_, rfl, by omega, by omega⟩
   | false =>
    obtain ⟨v, a2, s2, e2, hv, hv2, -⟩ := zq3 l0 hc0 a s 4 2 h2 (by omega)
    simp only [e2]
    exact ⟨_, rfl, by rw [w64 (by omega) (by omega)]; omega, by rw [w64 (by omega) (by omega)]; omega⟩
  obtain ⟨m, hM, hm0', hm1'⟩ : ∃ m, spec_DrawCountByInversions.f l1 = some m ∧ -1 ≤ m ∧ m ≤ 6 := by
   obtain ⟨v, a2, s2, e2, hv, hv2, -⟩ := zq6 l1 hc1 0 0 5 (by omega) (by omega) 0 ⟨by omega, by omega⟩ (by omega)
   unfold spec_DrawCountByInversions.f
   simp only [e2]
   exact ⟨_, rfl, by omega, by omega⟩
  obtain ⟨eA, eA2⟩ := ev_atR n
  obtain ⟨eC, eC2, -⟩ := ev_ctR n hn0 hn1
  obtain ⟨eT, -, eP⟩ := ev_ctR m hm0' hm1'
  obtain ⟨eI, eI2⟩ := zq85 m
  obtain ⟨hr1, hr2⟩ := zq96 n
  refine Ev.rounds ?_
  refine Ev.congr (fun k => by rw [laws_FnTreesListed.f, hb, Option.bind_some, if_neg (by simp), hD, Option.bind_some]) ?_
  refine Ev.bind eA2 (Ev.bind eA (Ev.bind eC (Ev.bind eC2 ?_)))
  refine Ev.congr (fun k => by rw [bne_self_eq_false, if_neg (by simp)]) (Ev.bind (zq93 _ hr1 hr2) ?_)
  refine Ev.congr (fun k => by rw [if_pos rfl, bne_self_eq_false, if_neg (by simp), if_pos rfl]) ?_
  have ej0 : Ev (fun k => laws_FnTreesListed.j0 k l1 n (atR n).1 (atR n).2 false) true := by
   refine Ev.step (fun k => by rw [laws_FnTreesListed.j0, if_neg (by simp), hM, Option.bind_some]) ?_
   refine Ev.bind eI2 (Ev.bind eI (Ev.bind (zq89 m) ?_))
   refine Ev.congr (fun k => by rw [bne_self_eq_false, if_neg (by simp)]) (Ev.bind (zq91 _ (zq98 m)) ?_)
   refine Ev.congr (fun k => by rw [if_pos rfl, if_neg (by simp)]) (Ev.bind (zq91 _ (zq98 m)) ?_)
   by_cases c : (cbiR m).2 = true
   ·have hm := cbiR_ok m c
    have h := List.all_eq_true.1 cbi_sum m.toNat (List.mem_range.2 (by omega))
    rw [show ((m.toNat : Nat) : Int) = m by omega] at h
    simp only [Bool.and_eq_true, decide_eq_true_eq, List.all_eq_true] at h
    obtain ⟨⟨⟨⟨s1, s2⟩, s3⟩, s4⟩, s5⟩ := h
    refine Ev.step (fun k => by rw [laws_FnTreesListed.j1, if_neg (by simp), if_pos c]) (Ev.bind eP (Ev.bind eT ?_))
    refine Ev.congr (fun k => by rw [if_pos s2, if_pos s2]) (Ev.bind (zq95 _ (by omega) s4) ?_)
    exact Ev.congr (fun k => by rw [if_pos s1, if_pos rfl]) (zq101 n)
   ·exact Ev.step (fun k => by rw [laws_FnTreesListed.j1, if_neg (by simp), if_neg c]) (zq101 n)
  by_cases c : (atR n).2 = true
  ·exact Ev.congr (fun k => by rw [if_pos c, zq97 n c]) ej0
  ·exact Ev.congr (fun k => by rw [if_neg c]) ej0

end Go.Proofs.Ytkbdjbmalpkkfaa.Pure
