/- Depths, numbers below and inversions of every drawn tree are told by what is above each node, and the reference agrees. -/
import Derived.Test.YtfgkcgedkhpigaaVFnTreesMeasuredSized
import Derived.Test.YtfgkcgedkhpigaaPFnTreesMeasuredx
import Derived.Laws.BitsLemmas
import Derived.Lib.EndianBits
namespace Go.Proofs.Ytfgkcgedkhpigaa.PrintWords
set_option linter.defProp false in
def sized_ints := @Go.Proofs.YtfgkcgedkhpigaaW.PrintWords.sized_ints
end Go.Proofs.Ytfgkcgedkhpigaa.PrintWords
namespace Go.Proofs.Ytfgkcgedkhpigaa.Pure
open Go.RowKit Go.Proofs.Ytfgkcgedkhpigaa.PFnTreesMeasured Go.Proofs.YtfgkcgedkhpigaaW.PrintWords Go.Proofs.YtfgkcgedkhpigaaW.PrintLast
set_option linter.unusedVariables false
set_option linter.unusedSimpArgs false

theorem w64 {x : Int} (h0 : -9223372036854775808 ≤ x) (h1 : x ≤ 9223372036854775807) : wrap64 x = x := by
 unfold wrap64
 omega
theorem rd_mid (p : List Int) (h : Int) (t : List Int) : rd (p ++ h :: t) (p.length : Int) = h := by
 unfold rd
 simp
theorem rd_nat (l : List Int) (i : Nat) : rd l (i : Int) = l.getD i 0 := by
 unfold rd
 simp
theorem Ev.ret {α : Type} {g : Nat → Option α} {r : α} (h : ∀ k, g (k + 1) = some r) : Ev g r :=
 Ev.step (f := fun _ => some r) h (Ev.now r)

theorem zq0 (p : List Int) (h : Int) : (((p ++ [h]).length : Nat) : Int) = (p.length : Int) + 1 := by simp
theorem zq1 (p : List Int) (h : Int) (t : List Int) : (p ++ [h]) ++ t = p ++ h :: t := by simp
theorem len_mid (p : List Int) (h : Int) (t : List Int) : ((p ++ h :: t).length : Int) = (p.length : Int) + t.length + 1 := by simp; omega

theorem and255 (x : Int) (h0 : 0 ≤ x) (h1 : x < 18446744073709551616) : 0 ≤ Go.bits .and .u64 x 255 ∧ Go.bits .and .u64 x 255 ≤ 255 := by
 have h : Go.bits .and .u64 x 255 = x % 256 := bits_mask .u64 64 (by decide) wraps_u64 8 (by decide) x h0 h1
 rw [h]
 omega
theorem wrapu (x : Int) : 0 ≤ IntKind.u64.wrap x ∧ IntKind.u64.wrap x < 18446744073709551616 := by
 rw [IntKind.wrap_u64]
 omega
theorem zq2 (code : List Int) (hc : ∀ x ∈ code, 0 ≤ x ∧ x ≤ 255) (at_ seed : Int) (h0 : 0 ≤ at_) (h1 : at_ ≤ 1000000000000) :
  ∃ b s, spec_l1Cur_next.f code at_ seed = some (b, at_ + 1, s) ∧ 0 ≤ b ∧ b ≤ 255 := by
 have fin : ∀ q : Int, 0 ≤ wrap64 (Go.bits .and .u64 (IntKind.u64.wrap q / 1099511627776) 255) ∧ wrap64 (Go.bits .and .u64 (IntKind.u64.wrap q / 1099511627776) 255) ≤ 255 := fun q => by
  have hq := wrapu q
  have := and255 (IntKind.u64.wrap q / 1099511627776) (by omega) (by omega)
  rw [w64 (by omega) (by omega)]
  exact this
 unfold spec_l1Cur_next.f
 rw [w64 (x := at_ + 1) (by omega) (by omega)]
 by_cases c : at_ < (code.length : Int)
 ·have hb : 0 ≤ rd code at_ ∧ rd code at_ ≤ 255 := by
   refine hc _ ?_
   unfold rd
   rw [List.getD_eq_getElem?_getD, List.getElem?_eq_getElem (by omega)]
   exact List.getElem_mem _
  rw [if_pos c, if_pos h0]
  by_cases d : at_ + 1 ≤ (code.length : Int)
  ·rw [if_pos d]
   exact ⟨_, _, rfl, by rw [w64 (by omega) (by omega)]; exact hb⟩
  ·rw [if_neg d]
   exact ⟨_, _, rfl, fin _⟩
 ·rw [if_neg c]
  by_cases d : at_ + 1 ≤ (code.length : Int)
  ·rw [if_pos d]
   exact ⟨_, _, rfl, by omega, by omega⟩
  ·rw [if_neg d]
   exact ⟨_, _, rfl, fin _⟩
def Rdy (at_ : Int) (n : Int) : Prop := 0 ≤ at_ ∧ at_ ≤ n
theorem Rdy.mono {a n m : Int} (h : Rdy a n) (hm : n ≤ m) : Rdy a m := ⟨h.1, Int.le_trans h.2 hm⟩
theorem zq3 (code : List Int) (hc : ∀ x ∈ code, 0 ≤ x ∧ x ≤ 255) (at_ seed n : Int) (b : Int) (h : Rdy at_ b) (hb : b ≤ 100000000000) :
  ∃ v a s, spec_l1Cur_pick.f code at_ seed n = some (v, a, s) ∧ 0 ≤ v ∧ (v = 0 ∨ v < n) ∧ Rdy a (b + 2) := by
 obtain ⟨h0, h1⟩ := h
 unfold spec_l1Cur_pick.f
 by_cases c : n ≤ 1
 ·rw [if_pos c]
  exact ⟨0, at_, seed, rfl, by omega, .inl rfl, h0, by omega⟩
 ·rw [if_neg c]
  obtain ⟨x, s, e, hx0, hx1⟩ := zq2 code hc at_ seed h0 (by omega)
  rw [e, Option.bind_some]
  by_cases d : n > 200
  ·rw [if_pos d]
   obtain ⟨y, s2, e2, hy0, hy1⟩ := zq2 code hc (at_ + 1) s (by omega) (by omega)
   simp only [e2, Option.bind_some]
   rw [if_neg (by omega), w64 (x := x * 256) (by omega) (by omega), w64 (by omega) (by omega)]
   exact ⟨_, _, _, rfl, Int.tmod_nonneg _ (by omega), .inr (Int.tmod_lt_of_pos _ (by omega)), by omega, by omega⟩
  ·rw [if_neg d, if_neg (by omega)]
   exact ⟨_, _, _, rfl, Int.tmod_nonneg _ (by omega), .inr (Int.tmod_lt_of_pos _ (by omega)), by show 0 ≤ at_ + 1; omega, by show at_ + 1 ≤ b + 2; omega⟩

theorem zq4 (code : List Int) (hc : ∀ x ∈ code, 0 ≤ x ∧ x ≤ 255) (at_ seed : Int) (l : List Int) (hl : 1 ≤ l.length) (b : Int) (h : Rdy at_ b) (hb : b ≤ 100000000000) :
  ∃ v a s, spec_l1Cur_among.f code at_ seed l = some (v, a, s) ∧ v ∈ l ∧ Rdy a (b + 2) := by
 obtain ⟨v, a, s, e, h0, h1, h2⟩ := zq3 code hc at_ seed (l.length : Int) b h hb
 unfold spec_l1Cur_among.f
 rw [e, Option.bind_some]
 have hlt : v < (l.length : Int) := by omega
 show ∃ v' a' s', (if 0 ≤ v then (if v < (l.length : Int) then some (rd l v, a, s) else none) else none) = some (v', a', s') ∧ _
 rw [if_pos h0, if_pos hlt]
 refine ⟨_, _, _, rfl, ?_, h2⟩
 unfold rd
 rw [List.getD_eq_getElem?_getD, List.getElem?_eq_getElem (by omega)]
 exact List.getElem_mem _

theorem all_in : ∀ (n : Nat) (g : List Int), (∀ v : Int, 1 ≤ v → v ≤ n → v ∈ g) → n ≤ g.length
 | 0, g, _ => Nat.zero_le _
 | n + 1, g, h => by
  have hm : ((n + 1 : Nat) : Int) ∈ g := h _ (by omega) (by omega)
  have ih := all_in n (g.erase ((n + 1 : Nat) : Int)) fun v h1 h2 => (List.mem_erase_of_ne (by omega)).2 (h v h1 (by omega))
  rw [List.length_erase_of_mem hm] at ih
  have := List.length_pos_of_mem hm
  omega

def inAll (lo hi : Int) (l : List Int) : Bool := l.all fun n => decide (lo ≤ n) && decide (n ≤ hi)
theorem zq5 (lo hi : Int) (l : List Int) : inAll lo hi l = true ↔ ∀ x ∈ l, lo ≤ x ∧ x ≤ hi := by
 simp [inAll, List.all_eq_true]
theorem zq6 (lo hi x : Int) (l : List Int) : inAll lo hi (x :: l) = ((decide (lo ≤ x) && decide (x ≤ hi)) && inAll lo hi l) := by
 simp [inAll]

def climb (par : List Int) : Nat → Int → Bool
 | 0, a => decide (a ≤ 0)
 | m + 1, a => if a > 0 then climb par m (rd par (a - 1)) else true
theorem zq7 (par : List Int) : ∀ (m : Nat) (a : Int), climb par m a = true → climb par (m + 1) a = true
 | 0, a, h => by
  simp only [climb, decide_eq_true_eq] at h
  simp only [climb]
  rw [if_neg (by omega)]
 | m + 1, a, h => by
  rw [climb]
  by_cases c : a > 0
  ·rw [if_pos c]
   rw [climb, if_pos c] at h
   exact zq7 par m _ h
  ·rw [if_neg c]
def up (par : List Int) : Nat → Int → Int
 | 0, a => a
 | m + 1, a => up par m (rd par (a - 1))
theorem zq8 (par : List Int) : ∀ (m : Nat) (a : Int), climb par m a = true ↔ ∃ j, j ≤ m ∧ up par j a ≤ 0
 | 0, a => by
  simp only [climb, decide_eq_true_eq]
  constructor
  ·exact fun h => ⟨0, Nat.le_refl _, h⟩
  ·rintro ⟨j, hj, h⟩
   obtain rfl : j = 0 := by omega
   exact h
 | m + 1, a => by
  rw [climb]
  by_cases c : a > 0
  ·rw [if_pos c, zq8 par m]
   constructor
   ·rintro ⟨j, hj, h⟩
    exact ⟨j + 1, by omega, h⟩
   ·rintro ⟨j, hj, h⟩
    cases j with
    | zero => exact absurd h (by simp only [up]; omega)
    | succ j => exact ⟨j, by omega, h⟩
  ·rw [if_neg c]
   exact ⟨fun _ => ⟨0, by omega, by simp only [up]; omega⟩, fun _ => rfl⟩
theorem up_add (par : List Int) : ∀ (i j : Nat) (a : Int), up par (i + j) a = up par j (up par i a)
 | 0, j, a => by rw [Nat.zero_add]; rfl
 | i + 1, j, a => by
  rw [Nat.add_right_comm]
  exact up_add par i j (rd par (a - 1))
theorem zq9 : ∀ (n : Nat) (f : Nat → Int), (∀ i, i ≤ n → 1 ≤ f i ∧ f i ≤ n) → ∃ i j, i < j ∧ j ≤ n ∧ f i = f j
 | 0, f, h => by have := h 0 (by omega); omega
 | n + 1, f, h => by
  by_cases c : ∃ i, i ≤ n ∧ f i = f (n + 1)
  ·obtain ⟨i, hi, e⟩ := c
   exact ⟨i, n + 1, by omega, by omega, e⟩
  ·
   let g : Nat → Int := fun i => if f i > f (n + 1) then f i - 1 else f i
   have hg : ∀ i, i ≤ n → 1 ≤ g i ∧ g i ≤ n := by
    intro i hi
    have h1 := h i (by omega)
    have h2 := h (n + 1) (by omega)
    have h3 : f i ≠ f (n + 1) := fun e => c ⟨i, hi, e⟩
    show 1 ≤ (if f i > f (n + 1) then f i - 1 else f i) ∧ (if f i > f (n + 1) then f i - 1 else f i) ≤ n
    split <;> omega
   obtain ⟨i, j, hij, hj, e⟩ := zq9 n g hg
   have h3 : f i ≠ f (n + 1) := fun e => c ⟨i, by omega, e⟩
   have h4 : f j ≠ f (n + 1) := fun e => c ⟨j, by omega, e⟩
   refine ⟨i, j, hij, by omega, ?_⟩
   have e' : (if f i > f (n + 1) then f i - 1 else f i) = (if f j > f (n + 1) then f j - 1 else f j) := e
   split at e' <;> split at e' <;> omega
theorem zq10 (par : List Int) (hp : ∀ x ∈ par, 0 ≤ x ∧ x ≤ par.length) (a : Int) (ha0 : 0 ≤ a) (ha : a ≤ par.length) (h : climb par (par.length + 1) a = true) : climb par par.length a = true := by
 rw [zq8] at h ⊢
 obtain ⟨j, hj, hu⟩ := h
 by_cases c : ∃ i, i ≤ par.length ∧ up par i a ≤ 0
 ·exact c
 ·exfalso
  have hpos : ∀ i, i ≤ par.length → 1 ≤ up par i a := fun i hi => by
   have : ¬ up par i a ≤ 0 := fun e => c ⟨i, hi, e⟩
   omega
  have hle : ∀ i, i ≤ par.length → up par i a ≤ par.length := by
   intro i
   induction i with
   | zero => intro _; exact ha
   | succ i ih =>
    intro hi
    have h1 := hpos i (by omega)
    have h2 := ih (by omega)
    rw [up_add par i 1]
    have hr : rd par (up par i a - 1) ∈ par := by
     unfold rd
     rw [List.getD_eq_getElem?_getD, List.getElem?_eq_getElem (by omega)]
     exact List.getElem_mem _
    exact (hp _ hr).2
  obtain ⟨i, k, hik, hk, e⟩ := zq9 par.length (fun i => up par i a) (fun i hi => ⟨hpos i hi, hle i hi⟩)
  have e : up par i a = up par k a := e
  -- j = n + 1: the same place stood earlier
  have hj' : j = par.length + 1 := by
   rcases Nat.lt_or_ge par.length j with h1 | h1
   ·omega
   ·exact absurd ⟨j, h1, hu⟩ c
  have e2 : up par j a = up par (i + (j - k)) a := by
   rw [show j = k + (j - k) by omega, up_add par k, up_add par i, ← e]
   congr 1
   omega
  have := hpos (i + (j - k)) (by omega)
  omega
def isTr (par : List Int) : Bool := decide (par.length ≤ 8) && inAll 0 par.length par && (List.range par.length).all fun i => climb par par.length ((i : Int) + 1)

theorem zq11 {l : List Int} (h : l.Nodup) {i j : Nat} (hi : i < j) (hj : j < l.length) : l[i]'(by omega) ≠ l[j] :=
 List.pairwise_iff_getElem.1 h i j (by omega) hj hi
theorem zq12 (n : Nat) (l : List Int) (h : l.Nodup) (hr : ∀ v ∈ l, 0 ≤ v ∧ v ≤ n) : l.length ≤ n + 1 := by
 refine Classical.byContradiction fun c => ?_
 obtain ⟨i, j, hij, hj, e⟩ := zq9 (n + 1) (fun i => l.getD i 0 + 1) (fun i hi => by
  have hm : l.getD i 0 ∈ l := by
   rw [List.getD_eq_getElem?_getD, List.getElem?_eq_getElem (by omega)]
   exact List.getElem_mem _
  have := hr _ hm
  show 1 ≤ l.getD i 0 + 1 ∧ l.getD i 0 + 1 ≤ ((n + 1 : Nat) : Int)
  omega)
 have e2 : l.getD i 0 + 1 = l.getD j 0 + 1 := e
 rw [List.getD_eq_getElem?_getD, List.getD_eq_getElem?_getD, List.getElem?_eq_getElem (by omega), List.getElem?_eq_getElem (by omega)] at e2
 simp only [Option.getD_some] at e2
 exact zq11 h hij (by omega) (by omega)

structure Rch (n : Nat) (reached : List Int) : Prop where
 nd : reached.Nodup
 zero : 0 ∈ reached
 range : ∀ v ∈ reached, 0 ≤ v ∧ v ≤ n
theorem Rch.add {n : Nat} {reached : List Int} (h : Rch n reached) {v : Int} (hv : v ∉ reached) (h0 : 0 ≤ v) (h1 : v ≤ n) : Rch n (reached ++ [v]) := by
 refine ⟨List.nodup_append.2 ⟨h.nd, by simp, ?_⟩, List.mem_append_left _ h.zero, ?_⟩
 ·intro a ha b hb e
  rw [List.mem_singleton] at hb
  exact hv (by rw [← hb, ← e]; exact ha)
 ·intro u hu
  rcases List.mem_append.1 hu with h2 | h2
  ·exact h.range u h2
  ·rw [List.mem_singleton] at h2; omega

def hgt (par : List Int) : Nat → Int → Nat
 | 0, _ => 0
 | m + 1, a => if a > 0 then hgt par m (rd par (a - 1)) + 1 else 0
theorem zq13 (par : List Int) : ∀ (m : Nat) (a : Int), climb par m a = true → hgt par (m + 1) a = hgt par m a
 | 0, a, h => by
  simp only [climb, decide_eq_true_eq] at h
  simp only [hgt]
  rw [if_neg (by omega)]
 | m + 1, a, h => by
  rw [climb] at h
  show (if a > 0 then hgt par (m + 1) (rd par (a - 1)) + 1 else 0) = (if a > 0 then hgt par m (rd par (a - 1)) + 1 else 0)
  by_cases c : a > 0
  ·rw [if_pos c] at h
   rw [if_pos c, if_pos c, zq13 par m _ h]
  ·rw [if_neg c, if_neg c]
def dep (par : List Int) (a : Int) : Nat := hgt par par.length a
theorem zq14 (par : List Int) : isTr par = true ↔ par.length ≤ 8 ∧ (∀ x ∈ par, 0 ≤ x ∧ x ≤ par.length) ∧ ∀ a : Int, 1 ≤ a → a ≤ par.length → climb par par.length a = true := by
 simp only [isTr, Bool.and_eq_true, decide_eq_true_eq, zq5, List.all_eq_true, List.mem_range]
 constructor
 ·rintro ⟨⟨h1, h2⟩, h3⟩
  refine ⟨h1, h2, fun a ha hb => ?_⟩
  have := h3 (a - 1).toNat (by omega)
  rwa [show (((a - 1).toNat : Nat) : Int) + 1 = a by omega] at this
 ·rintro ⟨h1, h2, h3⟩
  exact ⟨⟨h1, h2⟩, fun i hi => h3 _ (by omega) (by omega)⟩
theorem rd_mem (l : List Int) (i : Int) (h0 : 0 ≤ i) (h1 : i < l.length) : rd l i ∈ l := by
 unfold rd
 rw [List.getD_eq_getElem?_getD, List.getElem?_eq_getElem (by omega)]
 exact List.getElem_mem _
theorem zq15 (par : List Int) (ht : isTr par = true) (a : Int) (h0 : 1 ≤ a) (h1 : a ≤ par.length) : dep par a = dep par (rd par (a - 1)) + 1 := by
 obtain ⟨_, h2, h3⟩ := (zq14 par).1 ht
 have hc := h3 a h0 h1
 unfold dep
 obtain ⟨m, hm⟩ : ∃ m, par.length = m + 1 := ⟨par.length - 1, by omega⟩
 rw [hm] at hc ⊢
 rw [climb, if_pos (by omega)] at hc
 rw [hgt, if_pos (by omega), zq13 par m _ hc]

theorem zq16 (x : Int) : ∀ (t p : List Int), p.length + t.length ≤ 35184372088832 →
  Ev (fun k => spec_l1Has.l0 k x (p ++ t) ((p ++ t).length : Int) (p.length : Int)) (decide (x ∈ t))
 | [], p, _ => by
  refine Ev.ret fun k => ?_
  rw [spec_l1Has.l0, if_neg (by simp)]
  simp
 | h :: t, p, hn => by
  have hn' : p.length + t.length + 1 ≤ 35184372088832 := by simpa [Nat.add_assoc] using hn
  have hm := len_mid p h t
  by_cases c : h = x
  ·rw [decide_eq_true (by simp [c] : x ∈ h :: t)]
   refine Ev.ret fun k => ?_
   rw [spec_l1Has.l0, if_pos (by omega), if_pos (by omega), if_pos (by omega), rd_mid, if_pos c]
  ·have ih := zq16 x t (p ++ [h]) (by simp; omega)
   rw [zq1, zq0] at ih
   have e : decide (x ∈ h :: t) = decide (x ∈ t) := decide_eq_decide.2 (by simp [Ne.symm c])
   rw [e]
   refine Ev.step (fun k => ?_) ih
   show spec_l1Has.l0 (k + 1) x (p ++ h :: t) ((p ++ h :: t).length : Int) (p.length : Int) = _
   rw [spec_l1Has.l0, if_pos (by omega), if_pos (by omega), if_pos (by omega), rd_mid, if_neg c, w64 (by omega) (by omega)]
theorem zq17 (l : List Int) (x : Int) (hl : l.length ≤ 35184372088832) : Ev (fun k => spec_l1Has.f k l x) (decide (x ∈ l)) :=
 zq16 x l [] (by simpa using hl)

theorem wrapi (x : Int) : -9223372036854775808 ≤ wrap64 x ∧ wrap64 x ≤ 9223372036854775807 := by
 unfold wrap64
 omega
theorem zq18 (n : Int) (hn : n ≤ 1000) : ∀ (d : Nat) (a i : Int), 1 ≤ i → i + d = n ∨ (d = 0 ∧ n ≤ i) → a ≤ 9223372036854775807 →
  ∃ r, r ≤ 9223372036854775807 ∧ Ev (fun k => spec_trCount.l0 k n a i) r
 | 0, a, i, hi, hd, ha => ⟨a, ha, Ev.ret fun k => by rw [spec_trCount.l0, if_neg (by omega)]⟩
 | d + 1, a, i, hi, hd, ha => by
  obtain ⟨r, hr, ih⟩ := zq18 n hn d (wrap64 (a * (wrap64 (n + 1)))) (i + 1) (by omega) (by omega) (wrapi _).2
  refine ⟨r, hr, Ev.step (fun k => ?_) ih⟩
  show spec_trCount.l0 (k + 1) n a i = _
  rw [spec_trCount.l0, if_pos (by omega), w64 (x := i + 1) (by omega) (by omega)]
theorem zq19 (base : Int) (hb : 1 ≤ base) (hb2 : base ≤ 1000) (n : Nat) (hn : n ≤ 1000) : ∀ (d : Nat) (num : Int) (w : List Int), 0 ≤ num → num ≤ 9223372036854775807 → w.length = n → d ≤ n → (∀ x ∈ w, 0 ≤ x ∧ x < base) →
  ∃ r : List Int, r.length = n ∧ (∀ x ∈ r, 0 ≤ x ∧ x < base) ∧ Ev (fun k => spec_trWord.l0 k base num w ((d : Int) - 1)) r
 | 0, num, w, h0, h1, hw, hd, hx => ⟨w, hw, hx, Ev.ret fun k => by rw [spec_trWord.l0, if_neg (by omega)]⟩
 | d + 1, num, w, h0, h1, hw, hd, hx => by
  have hq0 : 0 ≤ Int.tdiv num base := Int.tdiv_nonneg h0 (by omega)
  have hq1 : Int.tdiv num base ≤ num := by
   rw [Int.tdiv_eq_ediv_of_nonneg h0]
   exact Int.ediv_le_self _ h0
  have hm0 : 0 ≤ Int.tmod num base := Int.tmod_nonneg _ h0
  have hm1 : Int.tmod num base < base := Int.tmod_lt_of_pos _ (by omega)
  obtain ⟨r, hr, hx2, ih⟩ := zq19 base hb hb2 n hn d (Int.tdiv num base) (w.set d (Int.tmod num base)) hq0 (by omega) (by simp [hw]) (by omega) (fun x hxm => by
   rcases List.mem_or_eq_of_mem_set hxm with h | h
   ·exact hx x h
   ·rw [h]; exact ⟨hm0, hm1⟩)
  refine ⟨r, hr, hx2, Ev.step (fun k => ?_) ih⟩
  show spec_trWord.l0 (k + 1) base num w (((d + 1 : Nat) : Int) - 1) = _
  rw [spec_trWord.l0, show ((d + 1 : Nat) : Int) - 1 = (d : Int) by omega, if_pos (by omega), if_neg (by omega), if_pos (by omega), if_pos (by omega), w64 (by omega) (by omega), w64 (by omega) (by omega), Int.toNat_natCast]
theorem zq20 (n : Nat) (hn : n ≤ 1000) (E O : List Int) (hE : E.length = n) (hO : O.length = n) (rE : ∀ x ∈ E, 1 ≤ x ∧ x ≤ n) (rO : ∀ x ∈ O, 0 ≤ x ∧ x ≤ n) (k9 : Nat) (hk9 : k9 ≤ 2000) : ∀ (d i : Nat) (par reached : List Int), i + d = n → par.length = n → Rch n reached → k9 < reached.length →
  (∀ (p2 r2 : List Int), p2.length = n → Rch n r2 → k9 < r2.length → ∃ r : List Int, r.length = n ∧ Ev (fun k => spec_trEdges.l0 k E O p2 r2 ((k9 : Int) + 1)) r) →
  ∃ r : List Int, r.length = n ∧ Ev (fun k => spec_trEdges.l1 k E O par reached (k9 : Int) (n : Int) (i : Int)) r
 | 0, i, par, reached, hd, hp, hr, hk, H => by
  obtain ⟨r, h1, h2⟩ := H par reached hp hr hk
  refine ⟨r, h1, Ev.step (fun k => ?_) h2⟩
  show spec_trEdges.l1 (k + 1) E O par reached (k9 : Int) (n : Int) (i : Int) = _
  rw [spec_trEdges.l1, if_neg (by omega), w64 (by omega) (by omega)]
 | d + 1, i, par, reached, hd, hp, hr, hk, H => by
  have he := rE (rd E i) (rd_mem E i (by omega) (by omega))
  have ho := rO (rd O i) (rd_mem O i (by omega) (by omega))
  have hlen := zq12 n reached hr.nd hr.range
  have e1 : ((i + 1 : Nat) : Int) = (i : Int) + 1 := by omega
  have stay := zq20 n hn E O hE hO rE rO k9 hk9 d (i + 1) par reached (by omega) hp hr hk H
  have grow := fun (v a : Int) (hv : v ∉ reached) (h0 : 0 ≤ v) (h1 : v ≤ n) => zq20 n hn E O hE hO rE rO k9 hk9 d (i + 1) (par.set (v - 1).toNat a) (reached ++ [v]) (by omega) (by simp [hp]) (hr.add hv h0 h1) (by simp; omega) H
  rw [e1] at stay grow
  by_cases c : rd O i = rd reached k9
  ·by_cases g : rd E i ∈ reached
   ·obtain ⟨r, h1, h2⟩ := stay
    refine ⟨r, h1, Ev.step (f := fun k => (spec_l1Has.f k reached (rd E i)).bind fun t => if t = true then spec_trEdges.l1 k E O par reached (k9 : Int) (n : Int) ((i : Int) + 1) else (if 0 ≤ (wrap64 ((rd E i) - 1)) then (if (wrap64 ((rd E i) - 1)) < (par.length : Int) then (if reached.length < 17592186044416 then (spec_trEdges.l1 k E O (par.set ((wrap64 ((rd E i) - 1)) : Int).toNat (rd O i)) (reached ++ [rd E i]) (k9 : Int) (n : Int) (wrap64 ((i : Int) + 1))) else (none)) else (none)) else (none))) (fun k => ?_) (Ev.bind (zq17 reached _ (by omega)) ?_)⟩
    ·rw [spec_trEdges.l1, if_pos (by omega), if_pos (by omega), if_pos (by omega), if_pos (by omega), if_pos (by omega), if_pos (by omega), if_pos c, w64 (x := (i : Int) + 1) (by omega) (by omega)]
    ·exact Ev.congr (fun k => by rw [if_pos (by simpa using g)]) h2
   ·obtain ⟨r, h1, h2⟩ := grow (rd E i) (rd O i) g (by omega) he.2
    refine ⟨r, h1, Ev.step (f := fun k => (spec_l1Has.f k reached (rd E i)).bind fun t => if t = true then spec_trEdges.l1 k E O par reached (k9 : Int) (n : Int) ((i : Int) + 1) else (if 0 ≤ (rd E i) - 1 then (if (rd E i) - 1 < (par.length : Int) then (if reached.length < 17592186044416 then (spec_trEdges.l1 k E O (par.set ((rd E i) - 1).toNat (rd O i)) (reached ++ [rd E i]) (k9 : Int) (n : Int) ((i : Int) + 1)) else (none)) else (none)) else (none))) (fun k => ?_) (Ev.bind (zq17 reached _ (by omega)) ?_)⟩
    ·rw [spec_trEdges.l1, if_pos (by omega), if_pos (by omega), if_pos (by omega), if_pos (by omega), if_pos (by omega), if_pos (by omega), if_pos c, w64 (x := (i : Int) + 1) (by omega) (by omega), w64 (by omega) (by omega)]
    ·exact Ev.congr (fun k => by rw [if_neg (by simpa using g), if_pos (by omega), if_pos (by omega), if_pos (by omega)]) h2
  ·by_cases c2 : rd E i = rd reached k9
   ·by_cases g : rd O i ∈ reached
    ·obtain ⟨r, h1, h2⟩ := stay
     refine ⟨r, h1, Ev.step (f := fun k => (spec_l1Has.f k reached (rd O i)).bind fun t => if t = true then spec_trEdges.l1 k E O par reached (k9 : Int) (n : Int) ((i : Int) + 1) else (if 0 ≤ (wrap64 ((rd O i) - 1)) then (if (wrap64 ((rd O i) - 1)) < (par.length : Int) then (if reached.length < 17592186044416 then (spec_trEdges.l1 k E O (par.set ((wrap64 ((rd O i) - 1)) : Int).toNat (rd E i)) (reached ++ [rd O i]) (k9 : Int) (n : Int) (wrap64 ((i : Int) + 1))) else (none)) else (none)) else (none))) (fun k => ?_) (Ev.bind (zq17 reached _ (by omega)) ?_)⟩
     ·rw [spec_trEdges.l1, if_pos (by omega), if_pos (by omega), if_pos (by omega), if_pos (by omega), if_pos (by omega), if_pos (by omega), if_neg c, if_pos c2, w64 (x := (i : Int) + 1) (by omega) (by omega)]
     ·exact Ev.congr (fun k => by rw [if_pos (by simpa using g)]) h2
    ·have hne : rd O i ≠ 0 := fun e => g (by rw [e]; exact hr.zero)
     obtain ⟨r, h1, h2⟩ := grow (rd O i) (rd E i) g (by omega) ho.2
     refine ⟨r, h1, Ev.step (f := fun k => (spec_l1Has.f k reached (rd O i)).bind fun t => if t = true then spec_trEdges.l1 k E O par reached (k9 : Int) (n : Int) ((i : Int) + 1) else (if 0 ≤ (rd O i) - 1 then (if (rd O i) - 1 < (par.length : Int) then (if reached.length < 17592186044416 then (spec_trEdges.l1 k E O (par.set ((rd O i) - 1).toNat (rd E i)) (reached ++ [rd O i]) (k9 : Int) (n : Int) ((i : Int) + 1)) else (none)) else (none)) else (none))) (fun k => ?_) (Ev.bind (zq17 reached _ (by omega)) ?_)⟩
     ·rw [spec_trEdges.l1, if_pos (by omega), if_pos (by omega), if_pos (by omega), if_pos (by omega), if_pos (by omega), if_pos (by omega), if_neg c, if_pos c2, w64 (x := (i : Int) + 1) (by omega) (by omega), w64 (by omega) (by omega)]
     ·exact Ev.congr (fun k => by rw [if_neg (by simpa using g), if_pos (by omega), if_pos (by omega), if_pos (by omega)]) h2
   ·obtain ⟨r, h1, h2⟩ := stay
    refine ⟨r, h1, Ev.step (fun k => ?_) h2⟩
    show spec_trEdges.l1 (k + 1) E O par reached (k9 : Int) (n : Int) (i : Int) = _
    rw [spec_trEdges.l1, if_pos (by omega), if_pos (by omega), if_pos (by omega), if_pos (by omega), if_pos (by omega), if_pos (by omega), if_neg c, if_neg c2, w64 (x := (i : Int) + 1) (by omega) (by omega)]
theorem zq21 (n : Nat) (hn : n ≤ 1000) (E O : List Int) (hE : E.length = n) (hO : O.length = n) (rE : ∀ x ∈ E, 1 ≤ x ∧ x ≤ n) (rO : ∀ x ∈ O, 0 ≤ x ∧ x ≤ n) : ∀ (d k9 : Nat) (par reached : List Int), k9 + d = n + 1 → par.length = n → Rch n reached →
  ∃ r : List Int, r.length = n ∧ Ev (fun k => spec_trEdges.l0 k E O par reached (k9 : Int)) r
 | 0, k9, par, reached, hd, hp, hr => by
  have hlen := zq12 n reached hr.nd hr.range
  exact ⟨par, hp, Ev.ret fun k => by rw [spec_trEdges.l0, if_neg (by omega)]⟩
 | d + 1, k9, par, reached, hd, hp, hr => by
  have hlen := zq12 n reached hr.nd hr.range
  by_cases c : k9 < reached.length
  ·obtain ⟨r, h1, h2⟩ := zq20 n hn E O hE hO rE rO k9 (by omega) n 0 par reached (by omega) hp hr c (fun p2 r2 h3 h4 _ => by
    have := zq21 n hn E O hE hO rE rO d (k9 + 1) p2 r2 (by omega) h3 h4
    rw [show ((k9 + 1 : Nat) : Int) = (k9 : Int) + 1 by omega] at this
    exact this)
   refine ⟨r, h1, Ev.step (fun k => ?_) h2⟩
   show spec_trEdges.l0 (k + 1) E O par reached (k9 : Int) = _
   rw [spec_trEdges.l0, if_pos (by omega), hE]
   rfl
  ·exact ⟨par, hp, Ev.ret fun k => by rw [spec_trEdges.l0, if_neg (by omega)]⟩
theorem zq22 (n : Nat) (hn : n ≤ 1000) (E O : List Int) (hE : E.length = n) (hO : O.length = n) (rE : ∀ x ∈ E, 1 ≤ x ∧ x ≤ n) (rO : ∀ x ∈ O, 0 ≤ x ∧ x ≤ n) : ∃ r : List Int, r.length = n ∧ Ev (fun k => spec_trEdges.f k (n : Int) E O) r := by
 obtain ⟨r, h1, h2⟩ := zq21 n hn E O hE hO rE rO (n + 1) 0 (List.replicate n 0) [0] (by omega) (by simp) ⟨by simp, by simp, by simp⟩
 exact ⟨r, h1, Ev.congr (fun k => by rw [spec_trEdges.f, if_pos (by omega), if_pos (by omega)]; rfl) h2⟩

theorem trOf_l1 (n : Nat) (hn : n ≤ 1000) (word gone others : List Int) (k : Nat) (x : Int) (L : List Int) (m : Int) (hk : k ≤ word.length) (hw : word.length ≤ 1000) (hg : gone.length ≤ 1000) (ho : others.length ≤ 1000)
  (P : List Int → Prop) (H : ∀ v : Int, 1 ≤ v → v ≤ n → v ∉ gone → ∃ r, P r ∧ Ev (fun kk => spec_trOf.l0 kk word (n : Int) (gone ++ [v]) (others ++ [x]) L m ((k : Int) + 1)) r) (u : Int) (h1 : 1 ≤ u) (hu : u ∉ gone ∧ u ∉ word.drop k) : ∀ d : Nat, u ≤ d → d ≤ n →
  ∃ r, P r ∧ Ev (fun kk => spec_trOf.l1 kk word (n : Int) gone others (k : Int) x (d : Int) L m (k : Int)) r
 | 0, h, _ => by omega
 | d + 1, h, hd => by
  have ed : ((d + 1 : Nat) : Int) = (d : Int) + 1 := by omega
  rw [ed]
  have less : ((d : Int) + 1 ∈ gone ∨ (d : Int) + 1 ∈ word.drop k) → u ≤ d := fun hm => by
   refine Classical.byContradiction fun h2 => ?_
   have e : u = (d : Int) + 1 := by omega
   rw [e] at hu
   rcases hm with h3 | h3
   ·exact hu.1 h3
   ·exact hu.2 h3
  have ih := fun c => trOf_l1 n hn word gone others k x L m hk hw hg ho P H u h1 hu d c (by omega)
  by_cases g : (d : Int) + 1 ∈ gone
  ·obtain ⟨r, hp, h2⟩ := ih (less (.inl g))
   refine ⟨r, hp, Ev.step (fun kk => by rw [spec_trOf.l1, w64 (x := (d : Int) + 1 - 1) (by omega) (by omega), show (d : Int) + 1 - 1 = (d : Int) by omega]) (Ev.bind (zq17 gone _ (by omega)) ?_)⟩
   exact Ev.congr (fun kk => by rw [if_pos (by simpa using g)]) h2
  ·by_cases g2 : (d : Int) + 1 ∈ word.drop k
   ·obtain ⟨r, hp, h2⟩ := ih (less (.inr g2))
    refine ⟨r, hp, Ev.step (fun kk => by rw [spec_trOf.l1, w64 (x := (d : Int) + 1 - 1) (by omega) (by omega), show (d : Int) + 1 - 1 = (d : Int) by omega]) (Ev.bind (zq17 gone _ (by omega)) ?_)⟩
    refine Ev.congr (fun kk => by rw [if_neg (by simpa using g), if_pos (by omega), if_pos (by omega), Int.toNat_natCast]) (Ev.bind (zq17 (word.drop k) _ (by simp; omega)) ?_)
    exact Ev.congr (fun kk => by rw [if_pos (by simpa using g2)]) h2
   ·obtain ⟨r, hp, h2⟩ := H ((d : Int) + 1) (by omega) (by omega) g
    refine ⟨r, hp, Ev.step (fun kk => by rw [spec_trOf.l1]) (Ev.bind (zq17 gone _ (by omega)) ?_)⟩
    refine Ev.congr (fun kk => by rw [if_neg (by simpa using g), if_pos (by omega), if_pos (by omega), Int.toNat_natCast]) (Ev.bind (zq17 (word.drop k) _ (by simp; omega)) ?_)
    exact Ev.congr (fun kk => by rw [if_neg (by simpa using g2), if_pos (by omega), if_pos (by omega), w64 (by omega) (by omega)]) h2
structure Tkn (n : Nat) (gone others : List Int) : Prop where
 nd : gone.Nodup
 range : ∀ v ∈ gone, 1 ≤ v ∧ v ≤ n
 len : others.length = gone.length
 other : ∀ v ∈ others, 0 ≤ v ∧ v ≤ n
theorem Tkn.add {n : Nat} {gone others : List Int} (h : Tkn n gone others) {v x : Int} (hv : v ∉ gone) (h0 : 1 ≤ v) (h1 : v ≤ n) (hx : 0 ≤ x ∧ x ≤ n) : Tkn n (gone ++ [v]) (others ++ [x]) := by
 refine ⟨List.nodup_append.2 ⟨h.nd, by simp, ?_⟩, ?_, by simp [h.len], ?_⟩
 ·intro a ha b hb e
  rw [List.mem_singleton] at hb
  exact hv (by rw [← hb, ← e]; exact ha)
 ·intro u hu
  rcases List.mem_append.1 hu with h2 | h2
  ·exact h.range u h2
  ·rw [List.mem_singleton] at h2; omega
 ·intro u hu
  rcases List.mem_append.1 hu with h2 | h2
  ·exact h.other u h2
  ·rw [List.mem_singleton] at h2; rw [h2]; exact hx
theorem trOf_l2 (n : Nat) (hn : n ≤ 1000) (gone others : List Int) (h : Tkn n gone others) (hlen : gone.length + 1 = n) (u : Int) (h1 : 1 ≤ u) (hu : u ≤ n) (hug : u ∉ gone) : ∀ (d : Nat) (v : Int), 1 ≤ v → v + d = u →
  ∃ r : List Int, r.length = n ∧ Ev (fun kk => spec_trOf.l2 kk (n : Int) gone others v) r
 | d, v, hv, hd => by
  have hol := h.len
  by_cases g : v ∈ gone
  ·match d, hd with
   | 0, hd => exact absurd (by rw [show u = v by omega]; exact g) hug
   | d + 1, hd =>
    obtain ⟨r, h2, h3⟩ := trOf_l2 n hn gone others h hlen u h1 hu hug d (v + 1) (by omega) (by omega)
    refine ⟨r, h2, Ev.step (fun kk => by rw [spec_trOf.l2, if_pos (by omega), w64 (x := v + 1) (by omega) (by omega)]) (Ev.bind (zq17 gone _ (by omega)) ?_)⟩
    exact Ev.congr (fun kk => by rw [if_pos (by simpa using g)]) h3
  ·have ha := h.add g hv (by omega) (x := 0) ⟨by omega, by omega⟩
   obtain ⟨r, h2, h3⟩ := zq22 n hn (gone ++ [v]) (others ++ [0]) (by simp [hlen]) (by simp; omega) ha.range ha.other
   refine ⟨r, h2, Ev.step (fun kk => by rw [spec_trOf.l2, if_pos (by omega)]) (Ev.bind (zq17 gone _ (by omega)) ?_)⟩
   exact Ev.congr (fun kk => by rw [if_neg (by simpa using g), if_pos (by omega), if_pos (by omega)]) (Ev.bind h3 (Ev.now r))
theorem zq23 (n : Nat) (l : List Int) (h : l.length < n) : ∃ u : Int, 1 ≤ u ∧ u ≤ n ∧ u ∉ l := by
 refine Classical.byContradiction fun hn => ?_
 have := all_in n l fun v h0 h1 => Classical.byContradiction fun h2 => hn ⟨v, h0, h1, h2⟩
 omega
theorem trOf_l0 (n : Nat) (hn : n ≤ 1000) (word : List Int) (hw : word.length + 1 = n) (hx : ∀ x ∈ word, 0 ≤ x ∧ x ≤ n) : ∀ (d k : Nat) (gone others : List Int), k + d = word.length → gone.length = k → Tkn n gone others →
  ∃ r : List Int, r.length = n ∧ Ev (fun kk => spec_trOf.l0 kk word (n : Int) gone others word (word.length : Int) (k : Int)) r
 | 0, k, gone, others, hd, hg, h => by
  obtain ⟨u, h1, h2, h3⟩ := zq23 n gone (by omega)
  obtain ⟨r, h4, h5⟩ := trOf_l2 n hn gone others h (by omega) u h1 h2 h3 (u - 1).toNat 1 (by omega) (by omega)
  exact ⟨r, h4, Ev.step (fun kk => by rw [spec_trOf.l0, if_neg (by omega)]) h5⟩
 | d + 1, k, gone, others, hd, hg, h => by
  have hol := h.len
  have hxk := hx (rd word k) (rd_mem word k (by omega) (by omega))
  obtain ⟨u, h1, h2, h3⟩ := zq23 n (gone ++ word.drop k) (by simp; omega)
  rw [List.mem_append, not_or] at h3
  obtain ⟨r, h4, h5⟩ := trOf_l1 n hn word gone others k (rd word k) word (word.length : Int) (by omega) (by omega) (by omega) (by omega) (fun r => r.length = n) (fun v g0 g1 g2 => by
   have := trOf_l0 n hn word hw hx d (k + 1) (gone ++ [v]) (others ++ [rd word k]) (by omega) (by simp [hg]) (h.add g2 g0 g1 hxk)
   rw [show ((k + 1 : Nat) : Int) = (k : Int) + 1 by omega] at this
   exact this) u h1 h3 n h2 (Nat.le_refl _)
  exact ⟨r, h4, Ev.step (fun kk => by rw [spec_trOf.l0, if_pos (by omega), if_pos (by omega), if_pos (by omega)]) h5⟩
theorem zq24 (n : Nat) (hn : n ≤ 1000) (word : List Int) (hw : word.length + 1 = n) (hx : ∀ x ∈ word, 0 ≤ x ∧ x ≤ n) : ∃ r : List Int, r.length = n ∧ Ev (fun kk => spec_trOf.f kk word) r := by
 obtain ⟨r, h1, h2⟩ := trOf_l0 n hn word hw hx word.length 0 [] [] (by omega) rfl ⟨by simp, by simp, rfl, by simp⟩
 exact ⟨r, h1, Ev.congr (fun kk => by rw [spec_trOf.f, w64 (by omega) (by omega), show (word.length : Int) + 1 = (n : Int) by omega]; rfl) h2⟩
theorem zq25 (code : List Int) (hc : ∀ x ∈ code, 0 ≤ x ∧ x ≤ 255) (at_ seed : Int) (most : Nat) (hm : most ≤ 100) (b : Int) (h : Rdy at_ b) (hb : b ≤ 1000000) :
  ∃ (r : List Int) (a s : Int), r.length ≤ 200 ∧ Rdy a (b + 10) ∧ Ev (fun kk => spec_l1Cur_tree.f kk code at_ seed (most : Int)) (r, a, s) := by
 obtain ⟨n, a1, s1, e1, n0, n1, r1⟩ := zq3 code hc at_ seed ((most : Int) + 1) b h (by omega)
 by_cases c : n = 0
 ·refine ⟨[], a1, s1, by simp, r1.mono (by omega), Ev.congr (fun kk => ?_) (Ev.now _)⟩
  show spec_l1Cur_tree.f kk code at_ seed (most : Int) = _
  rw [spec_l1Cur_tree.f, w64 (by omega) (by omega), e1, Option.bind_some, if_pos c]
 ·have hn1 : 1 ≤ n := by omega
  have hn2 : n ≤ most := by omega
  obtain ⟨cnt, hcnt, hC⟩ := zq18 n (by omega) (n - 1).toNat 1 1 (by omega) (by omega) (by omega)
  obtain ⟨num, a2, s2, e2, m0, m1, r2⟩ := zq3 code hc a1 s1 cnt (b + 2) r1 (by omega)
  obtain ⟨word, hwl, hwx, hW⟩ := zq19 (n + 1) (by omega) (by omega) (n - 1).toNat (by omega) (n - 1).toNat num (List.replicate (n - 1).toNat 0) m0 (by omega) (by simp) (Nat.le_refl _) (fun x hx => by have := (List.mem_replicate.1 hx).2; omega)
  obtain ⟨tr, htl, hT⟩ := zq24 n.toNat (by omega) word (by omega) (fun x hx => by have := hwx x hx; omega)
  obtain ⟨w3, a3, s3, e3, q0, q1, r3⟩ := zq3 code hc a2 s2 14 (b + 2 + 2) r2 (by omega)
  refine Exists.elim (show ∃ q : List Int × Int × Int, q.1.length ≤ 200 ∧ Rdy q.2.1 (b + 10) ∧ (if w3 = 0 then (spec_l1Cur_pick.f code a3 s3 n).bind fun bt276 => (spec_l1Cur_pick.f code bt276.2.1 bt276.2.2 (wrap64 (n + 3))).bind fun bt279 => if 0 ≤ bt276.1 then (if bt276.1 < (tr.length : Int) then some (tr.set bt276.1.toNat (wrap64 (bt279.1 - 1)), bt279.2.1, bt279.2.2) else none) else none
    else if w3 = 1 then (spec_l1Cur_among.f code a3 s3 [-1, 0, wrap64 (n + 1)]).bind fun bt286 => if tr.length < 17592186044416 then some (tr ++ [bt286.1], bt286.2.1, bt286.2.2) else none
    else if w3 = 2 then (spec_l1Cur_pick.f code a3 s3 2).bind fun bt292 => if 0 ≤ wrap64 (8 + bt292.1) then (if (wrap64 (8 + bt292.1)).toNat ≤ 35184372088832 then some (List.replicate (wrap64 (8 + bt292.1)).toNat 0, bt292.2.1, bt292.2.2) else none) else none
    else some (tr, a3, s3)) = some q from ?_) ?_
  ·by_cases w0 : w3 = 0
   ·obtain ⟨x, a4, s4, e4, x0, x1, r4⟩ := zq3 code hc a3 s3 n (b + 2 + 2 + 2) r3 (by omega)
    obtain ⟨y, a5, s5, e5, y0, y1, r5⟩ := zq3 code hc a4 s4 (wrap64 (n + 3)) (b + 2 + 2 + 2 + 2) r4 (by omega)
    refine ⟨(tr.set x.toNat (wrap64 (y - 1)), a5, s5), by simp; omega, r5.mono (by omega), ?_⟩
    rw [if_pos w0, e4, Option.bind_some]
    simp only [e5, Option.bind_some]
    rw [if_pos x0, if_pos (by omega)]
   ·rw [if_neg w0]
    by_cases w1 : w3 = 1
    ·obtain ⟨x, a4, s4, e4, x0, r4⟩ := zq4 code hc a3 s3 [-1, 0, wrap64 (n + 1)] (by simp) (b + 2 + 2 + 2) r3 (by omega)
     refine ⟨(tr ++ [x], a4, s4), by simp; omega, r4.mono (by omega), ?_⟩
     rw [if_pos w1, e4, Option.bind_some, if_pos (by omega)]
    ·rw [if_neg w1]
     by_cases w2 : w3 = 2
     ·obtain ⟨x, a4, s4, e4, x0, x1, r4⟩ := zq3 code hc a3 s3 2 (b + 2 + 2 + 2) r3 (by omega)
      have e8 : wrap64 (8 + x) = 8 + x := w64 (by omega) (by omega)
      refine ⟨(List.replicate (8 + x).toNat 0, a4, s4), by simp; omega, r4.mono (by omega), ?_⟩
      rw [if_pos w2, e4, Option.bind_some]
      simp only [e8]
      rw [if_pos (by omega), if_pos (by omega)]
     ·rw [if_neg w2]
      exact ⟨(tr, a3, s3), by show tr.length ≤ 200; omega, r3.mono (by omega), rfl⟩
  ·rintro ⟨r, a, s⟩ ⟨q1, q2, q3⟩
   refine ⟨r, a, s, q1, q2, ?_⟩
   refine Ev.congr (fun kk => by rw [spec_l1Cur_tree.f, w64 (x := (most : Int) + 1) (by omega) (by omega), e1, Option.bind_some, if_neg c]) ?_
   refine Ev.bind (show Ev (fun kk => spec_trCount.f kk n) cnt from hC) ?_
   refine Ev.congr (fun kk => by rw [e2, Option.bind_some]) ?_
   have hW' : Ev (fun kk => spec_trWord.f kk (wrap64 (n - 1)) (wrap64 (n + 1)) num) word := by
    have en : (((n - 1).toNat : Nat) : Int) = n - 1 := by omega
    rw [en] at hW
    refine Ev.congr (fun kk => by rw [w64 (x := n - 1) (by omega) (by omega), w64 (x := n + 1) (by omega) (by omega), spec_trWord.f, if_pos (by omega), if_pos (by omega), w64 (x := n - 1 - 1) (by omega) (by omega)]) hW
   refine Ev.bind hW' (Ev.bind hT ?_)
   refine Ev.congr (fun kk => by rw [e3, Option.bind_some]) ?_
   exact Ev.congr (fun kk => q3) (Ev.now _)

theorem hgt_le (par : List Int) : ∀ (m : Nat) (a : Int), hgt par m a ≤ m
 | 0, a => Nat.le_refl _
 | m + 1, a => by
  have := hgt_le par m (rd par (a - 1))
  rw [hgt]
  split <;> omega

def Up (l : List Int) : Prop := l.Pairwise (· ≤ ·)
def put (x : Int) : List Int → List Int
 | [] => [x]
 | h :: t => if x ≤ h then x :: h :: t else h :: put x t
def srt : List Int → List Int
 | [] => []
 | h :: t => put h (srt t)
theorem zq26 (x : Int) : ∀ l : List Int, (put x l).Perm (x :: l)
 | [] => .refl _
 | h :: t => by
  rw [put]
  split
  ·exact .refl _
  ·exact ((zq26 x t).cons h).trans (.swap x h t)
theorem put_up (x : Int) : ∀ l : List Int, Up l → Up (put x l)
 | [], _ => by simp [put, Up]
 | h :: t, hl => by
  have h1 := List.pairwise_cons.1 hl
  rw [put]
  split
  ·refine List.pairwise_cons.2 ⟨fun y hy => ?_, hl⟩
   rcases List.mem_cons.1 hy with e | e
   ·omega
   ·have := h1.1 y e; omega
  ·refine List.pairwise_cons.2 ⟨fun y hy => ?_, put_up x t h1.2⟩
   rcases List.mem_cons.1 ((zq26 x t).mem_iff.1 hy) with e | e
   ·omega
   ·exact h1.1 y e
theorem zq27 : ∀ l : List Int, (srt l).Perm l
 | [] => .refl _
 | h :: t => (zq26 h (srt t)).trans ((zq27 t).cons h)
theorem srt_up : ∀ l : List Int, Up (srt l)
 | [] => by simp [srt, Up]
 | h :: t => put_up h _ (srt_up t)
theorem zq28 : ∀ (a b : List Int), Up a → Up b → a.Perm b → a = b
 | [], b, _, _, h => by simpa using h.length_eq.symm
 | x :: a, [], _, _, h => by simpa using h.length_eq
 | x :: a, y :: b, ha, hb, h => by
  have h1 := List.pairwise_cons.1 ha
  have h2 := List.pairwise_cons.1 hb
  have e : x = y := by
   have hx : x ∈ y :: b := h.mem_iff.1 (by simp)
   have hy : y ∈ x :: a := h.mem_iff.2 (by simp)
   rcases List.mem_cons.1 hx with e | e
   ·exact e
   ·rcases List.mem_cons.1 hy with e' | e'
    ·exact e'.symm
    ·have := h1.1 y e'
     have := h2.1 x e
     omega
  subst e
  rw [zq28 a b h1.2 h2.2 (List.perm_cons x |>.1 h)]

def abv (par : List Int) : Nat → Int → List Int
 | 0, _ => []
 | m + 1, a => if a > 0 then rd par (a - 1) :: abv par m (rd par (a - 1)) else []
theorem zq29 (par : List Int) : ∀ (m : Nat) (a : Int), (abv par m a).length ≤ m
 | 0, a => by simp [abv]
 | m + 1, a => by
  rw [abv]
  have := zq29 par m (rd par (a - 1))
  split <;> simp <;> omega
theorem zq30 (par : List Int) (hp : ∀ x ∈ par, 0 ≤ x ∧ x ≤ par.length) : ∀ (m : Nat) (a : Int), 0 ≤ a → a ≤ par.length → ∀ x ∈ abv par m a, 0 ≤ x ∧ x ≤ par.length
 | 0, a, _, _, x, hx => by simp [abv] at hx
 | m + 1, a, h0, h1, x, hx => by
  rw [abv] at hx
  split at hx
  ·have hr := hp _ (rd_mem par (a - 1) (by omega) (by omega))
   rcases List.mem_cons.1 hx with e | e
   ·rw [e]; exact hr
   ·exact zq30 par hp m _ hr.1 hr.2 x e
  ·simp at hx
def above (par : List Int) (a : Int) : List Int := abv par par.length a

theorem zq31 : ∀ (a b : List Int), a.Pairwise (· < ·) → b.Pairwise (· < ·) → (∀ x, x ∈ a ↔ x ∈ b) → a = b
 | [], [], _, _, _ => rfl
 | [], y :: b, _, _, h => by have := (h y).2 (by simp); simp at this
 | x :: a, [], _, _, h => by have := (h x).1 (by simp); simp at this
 | x :: a, y :: b, ha, hb, h => by
  have h1 := List.pairwise_cons.1 ha
  have h2 := List.pairwise_cons.1 hb
  have e : x = y := by
   rcases List.mem_cons.1 ((h x).1 (by simp)) with e | e
   ·exact e
   ·rcases List.mem_cons.1 ((h y).2 (by simp)) with e' | e'
    ·exact e'.symm
    ·have := h1.1 y e'
     have := h2.1 x e
     omega
  subst e
  rw [zq31 a b h1.2 h2.2 fun z => ?_]
  constructor
  ·intro hz
   rcases List.mem_cons.1 ((h z).1 (by simp [hz])) with e | e
   ·have := h1.1 z hz; omega
   ·exact e
  ·intro hz
   rcases List.mem_cons.1 ((h z).2 (by simp [hz])) with e | e
   ·have := h2.1 z hz; omega
   ·exact e
theorem zq32 (l : List Int) (h : l.Nodup) : (srt l).Pairwise (· < ·) := by
 have h1 := srt_up l
 have h2 : (srt l).Nodup := (zq27 l).nodup_iff.2 h
 refine List.pairwise_iff_getElem.2 fun i j hi hj hij => ?_
 have h3 := List.pairwise_iff_getElem.1 h1 i j hi hj hij
 have h4 := List.pairwise_iff_getElem.1 h2 i j hi hj hij
 omega

theorem zq33 (par : List Int) (hp : ∀ x ∈ par, 0 ≤ x ∧ x ≤ par.length) (hl : par.length ≤ 1000) : ∀ (m : Nat) (a : Int) (out : List Int), 0 ≤ a → a ≤ par.length → climb par m a = true → out.length + m ≤ 5000 →
  Ev (fun k => spec_trAbove.l0 k par a out) (out ++ abv par m a)
 | 0, a, out, h0, h1, hc, ho => by
  simp only [climb, decide_eq_true_eq] at hc
  refine Ev.ret fun k => ?_
  rw [spec_trAbove.l0, if_neg (by omega), abv, List.append_nil]
 | m + 1, a, out, h0, h1, hc, ho => by
  rw [abv]
  by_cases c : a > 0
  ·rw [climb, if_pos c] at hc
   have hr := hp _ (rd_mem par (a - 1) (by omega) (by omega))
   have ih := zq33 par hp hl m (rd par (a - 1)) (out ++ [rd par (a - 1)]) hr.1 hr.2 hc (by simp; omega)
   have e : out ++ (rd par (a - 1) :: abv par m (rd par (a - 1))) = out ++ [rd par (a - 1)] ++ abv par m (rd par (a - 1)) := by simp
   rw [if_pos c, e]
   refine Ev.step (fun k => ?_) ih
   show spec_trAbove.l0 (k + 1) par a out = _
   rw [spec_trAbove.l0, if_pos c, w64 (by omega) (by omega), if_pos (by omega), if_pos (by omega), if_pos (by omega)]
  ·rw [if_neg c, List.append_nil]
   refine Ev.ret fun k => ?_
   rw [spec_trAbove.l0, if_neg c]
theorem zq34 (par : List Int) (ht : isTr par = true) (a : Int) (h0 : 1 ≤ a) (h1 : a ≤ par.length) : Ev (fun k => spec_trAbove.f k par a) (above par a) := by
 obtain ⟨h8, h2, h3⟩ := (zq14 par).1 ht
 exact zq33 par h2 (by omega) par.length a [] (by omega) h1 (h3 a h0 h1) (by simp; omega)

theorem zq35 (par : List Int) (hp : ∀ x ∈ par, 0 ≤ x ∧ x ≤ par.length) (hl : par.length ≤ 1000) : ∀ (m : Nat) (a : Int) (out : List Int), 0 ≤ a → a ≤ par.length → climb par m a = true → out.length + m ≤ 5000 →
  Ev (fun k => impl_above.l0 k par a out) (out ++ abv par m a)
 | 0, a, out, h0, h1, hc, ho => by
  simp only [climb, decide_eq_true_eq] at hc
  refine Ev.ret fun k => ?_
  rw [impl_above.l0, if_neg (by omega), abv, List.append_nil]
 | m + 1, a, out, h0, h1, hc, ho => by
  rw [abv]
  by_cases c : a > 0
  ·rw [climb, if_pos c] at hc
   have hr := hp _ (rd_mem par (a - 1) (by omega) (by omega))
   have ih := zq35 par hp hl m (rd par (a - 1)) (out ++ [rd par (a - 1)]) hr.1 hr.2 hc (by simp; omega)
   have e : out ++ (rd par (a - 1) :: abv par m (rd par (a - 1))) = out ++ [rd par (a - 1)] ++ abv par m (rd par (a - 1)) := by simp
   rw [if_pos c, e]
   refine Ev.step (fun k => ?_) ih
   show impl_above.l0 (k + 1) par a out = _
   rw [impl_above.l0, if_pos c, w64 (by omega) (by omega), if_pos (by omega), if_pos (by omega), if_pos (by omega)]
  ·rw [if_neg c, List.append_nil]
   refine Ev.ret fun k => ?_
   rw [impl_above.l0, if_neg c]
theorem zq36 (par : List Int) (ht : isTr par = true) (a : Int) (h0 : 1 ≤ a) (h1 : a ≤ par.length) : Ev (fun k => impl_above.f k par a) (above par a) := by
 obtain ⟨h8, h2, h3⟩ := (zq14 par).1 ht
 exact zq35 par h2 (by omega) par.length a [] (by omega) h1 (h3 a h0 h1) (by simp; omega)

theorem zq37 (l : List Int) : (l.mergeSort fun x y => decide (x ≤ y)) = srt l := by
 refine zq28 _ _ ?_ (srt_up l) ((List.mergeSort_perm l _).trans (zq27 l).symm)
 have h := List.pairwise_mergeSort (le := fun x y : Int => decide (x ≤ y)) (fun a b c h1 h2 => by simp at h1 h2 ⊢; omega) (fun a b => by simp; omega) l
 exact h.imp fun hab => by simpa using hab
theorem zq38 (l : List Int) (hl : l.length ≤ 10000000) : Ev (fun k => impl_sorted.f k l) (srt l) := by
 refine Ev.congr (fun k => ?_) (Ev.now (srt l))
 show impl_sorted.f k l = _
 rw [impl_sorted.f, if_pos hl, slices_Sort_int_int.f, if_pos (by omega), zq37]

theorem zq39 (l : List Int) (hl : l.length ≤ 12) : Ev (fun k => impl_sorted.f k l) (srt l) := zq38 l (by omega)

theorem zq40 (par : List Int) : dep par 0 = 0 := by
 unfold dep
 cases par.length <;> simp [hgt]
theorem abv_dep (par : List Int) (ht : isTr par = true) : ∀ (m : Nat) (a : Int), 0 ≤ a → a ≤ par.length → (∀ x ∈ abv par m a, dep par x < dep par a) ∧ (abv par m a).Nodup
 | 0, a, _, _ => by simp [abv]
 | m + 1, a, h0, h1 => by
  obtain ⟨_, h2, _⟩ := (zq14 par).1 ht
  rw [abv]
  by_cases c : a > 0
  ·rw [if_pos c]
   have hr := h2 _ (rd_mem par (a - 1) (by omega) (by omega))
   have hd := zq15 par ht a (by omega) h1
   have ih := abv_dep par ht m (rd par (a - 1)) hr.1 hr.2
   refine ⟨fun x hx => ?_, List.nodup_cons.2 ⟨fun hm => ?_, ih.2⟩⟩
   ·rcases List.mem_cons.1 hx with e | e
    ·rw [e]; omega
    ·have := ih.1 x e; omega
   ·have := ih.1 _ hm; omega
  ·rw [if_neg c]; simp
def rowsJ (ab : List Int) : Nat → Int → List Int
 | 0, _ => []
 | d + 1, j => if j ∈ ab then j :: rowsJ ab d (j + 1) else rowsJ ab d (j + 1)
theorem zq41 (ab : List Int) (x : Int) : ∀ (d : Nat) (j : Int), x ∈ rowsJ ab d j ↔ x ∈ ab ∧ j ≤ x ∧ x < j + d
 | 0, j => by
  simp only [rowsJ, List.not_mem_nil, false_iff]
  omega
 | d + 1, j => by
  have ih := zq41 ab x d (j + 1)
  rw [rowsJ]
  split
  ·rename_i c
   rw [List.mem_cons, ih]
   constructor
   ·rintro (e | ⟨h1, h2, h3⟩)
    ·exact ⟨e ▸ c, by omega, by omega⟩
    ·exact ⟨h1, by omega, by omega⟩
   ·rintro ⟨h1, h2, h3⟩
    by_cases e : x = j
    ·exact .inl e
    ·exact .inr ⟨h1, by omega, by omega⟩
  ·rename_i c
   rw [ih]
   constructor
   ·rintro ⟨h1, h2, h3⟩
    exact ⟨h1, by omega, by omega⟩
   ·rintro ⟨h1, h2, h3⟩
    have : x ≠ j := fun e => c (e ▸ h1)
    exact ⟨h1, by omega, by omega⟩
theorem zq42 (ab : List Int) : ∀ (d : Nat) (j : Int), (rowsJ ab d j).Pairwise (· < ·)
 | 0, j => by simp [rowsJ]
 | d + 1, j => by
  rw [rowsJ]
  split
  ·refine List.pairwise_cons.2 ⟨fun x hx => ?_, zq42 ab d (j + 1)⟩
   have := ((zq41 ab x d (j + 1)).1 hx).2.1
   omega
  ·exact zq42 ab d (j + 1)
theorem zq43 (ab : List Int) : ∀ (d : Nat) (j : Int), (rowsJ ab d j).length ≤ d
 | 0, j => by simp [rowsJ]
 | d + 1, j => by
  have := zq43 ab d (j + 1)
  rw [rowsJ]
  split <;> simp <;> omega
def rowOf (par : List Int) (a : Nat) : List (List Int) := (rowsJ (above par a) (par.length - a) ((a : Int) + 1)).map fun j => [(a : Int), j]
theorem zq44 (par : List Int) (a : Nat) : (rowOf par a).length ≤ par.length := by
 have := zq43 (above par a) (par.length - a) ((a : Int) + 1)
 rw [rowOf, List.length_map]
 omega
def rowsS (par : List Int) : Nat → Nat → List (List Int) → List (List Int)
 | 0, _, out => out
 | d + 1, a, out => rowsS par d (a + 1) (out ++ rowOf par a)
theorem zq45 (par : List Int) (ht : isTr par = true) (a : Nat) (h0 : 1 ≤ a) (h1 : a ≤ par.length) : (srt (above par a)).filter (fun x => decide (x > (a : Int))) = rowsJ (above par a) (par.length - a) ((a : Int) + 1) := by
 obtain ⟨h8, h2, _⟩ := (zq14 par).1 ht
 have hn := (abv_dep par ht par.length a (by omega) (by omega)).2
 refine zq31 _ _ ((zq32 _ hn).filter _) (zq42 _ _ _) fun x => ?_
 rw [List.mem_filter, zq41, (zq27 _).mem_iff, decide_eq_true_eq]
 constructor
 ·rintro ⟨h3, h4⟩
  have := zq30 par h2 par.length a (by omega) (by omega) x h3
  exact ⟨h3, by omega, by omega⟩
 ·rintro ⟨h3, h4, h5⟩
  exact ⟨h3, by omega⟩
theorem zq46 (par ab : List Int) (hp : par.length ≤ 8) (hab : ab.length ≤ 1000) (a : Nat) (ha : a ≤ 100) (r : List (List Int)) : ∀ (d : Nat) (j : Int) (out : List (List Int)), 0 ≤ j → j + d = (par.length : Int) + 1 → out.length + d ≤ 10000 →
  Ev (fun k => spec_trPairs.l0 k par (out ++ (rowsJ ab d j).map fun j => [(a : Int), j]) ((a : Int) + 1)) r →
  Ev (fun k => spec_trPairs.l1 k par out (a : Int) ab j) r
 | 0, j, out, h0, hj, ho, H => by
  refine Ev.step (fun k => ?_) H
  show spec_trPairs.l1 (k + 1) par out (a : Int) ab j = _
  rw [spec_trPairs.l1, if_neg (by omega), w64 (by omega) (by omega), rowsJ, List.map_nil, List.append_nil]
 | d + 1, j, out, h0, hj, ho, H => by
  refine Ev.step (f := fun k => (spec_l1Has.f k ab j).bind fun t => if t = true then (if out.length < 5864062014805 then spec_trPairs.l1 k par (out ++ [([(a : Int), j] : List Int)]) (a : Int) ab (wrap64 (j + 1)) else none) else spec_trPairs.l1 k par out (a : Int) ab (wrap64 (j + 1))) (fun k => ?_) ?_
  ·rw [spec_trPairs.l1, if_pos (by omega)]
  refine Ev.bind (zq17 ab j (by omega)) ?_
  by_cases c : j ∈ ab
  ·rw [rowsJ, if_pos c] at H
   have e : out ++ (j :: rowsJ ab d (j + 1)).map (fun j => [(a : Int), j]) = (out ++ [[(a : Int), j]]) ++ (rowsJ ab d (j + 1)).map (fun j => [(a : Int), j]) := by simp
   rw [e] at H
   have ih := zq46 par ab hp hab a ha r d (j + 1) (out ++ [[(a : Int), j]]) (by omega) (by omega) (by simp; omega) H
   exact Ev.congr (fun k => by rw [if_pos (by simpa using c), if_pos (by omega), w64 (by omega) (by omega)]) ih
  ·rw [rowsJ, if_neg c] at H
   have ih := zq46 par ab hp hab a ha r d (j + 1) out (by omega) (by omega) (by omega) H
   exact Ev.congr (fun k => by rw [if_neg (by simpa using c), w64 (by omega) (by omega)]) ih
theorem zq47 (par : List Int) (ht : isTr par = true) : ∀ (d a : Nat) (out : List (List Int)), 1 ≤ a → a + d = par.length + 1 → out.length ≤ 10 * a →
  Ev (fun k => spec_trPairs.l0 k par out (a : Int)) (rowsS par d a out)
 | 0, a, out, h0, h1, ho => by
  refine Ev.ret fun k => ?_
  rw [spec_trPairs.l0, if_neg (by omega), rowsS]
 | d + 1, a, out, h0, h1, ho => by
  obtain ⟨h8, h2, _⟩ := (zq14 par).1 ht
  have hr := zq44 par a
  have ih := zq47 par ht d (a + 1) (out ++ rowOf par a) (by omega) (by omega) (by rw [List.length_append]; omega)
  rw [show ((a + 1 : Nat) : Int) = (a : Int) + 1 by omega] at ih
  have hab := zq29 par par.length a
  refine Ev.step (f := fun k => (spec_trAbove.f k par a).bind fun t => spec_trPairs.l1 k par out (a : Int) t (wrap64 ((a : Int) + 1))) (fun k => ?_) ?_
  ·rw [spec_trPairs.l0, if_pos (by omega)]
  refine Ev.bind (zq34 par ht a (by omega) (by omega)) ?_
  rw [w64 (by omega) (by omega), rowsS]
  exact zq46 par (above par a) h8 (by unfold above; omega) a (by omega) _ (par.length - a) ((a : Int) + 1) out (by omega) (by omega) (by omega) ih
theorem zq48 (par : List Int) (ht : isTr par = true) : Ev (fun k => spec_trPairs.f k par) (rowsS par par.length 1 []) :=
 zq47 par ht par.length 1 [] (by omega) (by omega) (by simp)
theorem zq49 (par : List Int) (hp : par.length ≤ 8) (v : Nat) (hv : v ≤ 100) (r : List (List Int)) : ∀ (t p : List Int) (out : List (List Int)), p.length + t.length ≤ 1000 → out.length ≤ 1000 + p.length →
  Ev (fun k => impl_inversions.l0 k par (out ++ (t.filter fun x => decide (x > (v : Int) + 1)).map fun j => [(v : Int) + 1, j]) (par.length : Int) ((v : Int) + 1)) r →
  Ev (fun k => impl_inversions.l1 k par out (v : Int) (par.length : Int) (v : Int) (p ++ t) ((p ++ t).length : Int) (p.length : Int)) r
 | [], p, out, hn, ho, H => by
  refine Ev.step (fun k => ?_) H
  show impl_inversions.l1 (k + 1) par out (v : Int) (par.length : Int) (v : Int) (p ++ []) ((p ++ []).length : Int) (p.length : Int) = _
  rw [impl_inversions.l1, if_neg (by simp), w64 (by omega) (by omega)]
  simp
 | x :: t, p, out, hn, ho, H => by
  have hn' : p.length + t.length + 1 ≤ 1000 := by simpa [Nat.add_assoc] using hn
  have hm := len_mid p x t
  by_cases c : x > (v : Int) + 1
  ·rw [List.filter_cons_of_pos (by simpa using c)] at H
   have e : out ++ (x :: t.filter fun x => decide (x > (v : Int) + 1)).map (fun j => [(v : Int) + 1, j]) = (out ++ [[(v : Int) + 1, x]]) ++ (t.filter fun x => decide (x > (v : Int) + 1)).map (fun j => [(v : Int) + 1, j]) := by simp
   rw [e] at H
   have ih := zq49 par hp v hv r t (p ++ [x]) (out ++ [[(v : Int) + 1, x]]) (by simp; omega) (by simp; omega) H
   rw [zq1 p x t, zq0 p x] at ih
   refine Ev.step (fun k => ?_) ih
   show impl_inversions.l1 (k + 1) par out (v : Int) (par.length : Int) (v : Int) (p ++ x :: t) ((p ++ x :: t).length : Int) (p.length : Int) = _
   rw [impl_inversions.l1, if_pos (by omega), if_pos (by omega), if_pos (by omega), rd_mid, w64 (by omega) (by omega), if_pos c, if_pos (by omega), w64 (by omega) (by omega)]
  ·rw [List.filter_cons_of_neg (by simpa using c)] at H
   have ih := zq49 par hp v hv r t (p ++ [x]) out (by simp; omega) (by simp; omega) H
   rw [zq1 p x t, zq0 p x] at ih
   refine Ev.step (fun k => ?_) ih
   show impl_inversions.l1 (k + 1) par out (v : Int) (par.length : Int) (v : Int) (p ++ x :: t) ((p ++ x :: t).length : Int) (p.length : Int) = _
   rw [impl_inversions.l1, if_pos (by omega), if_pos (by omega), if_pos (by omega), rd_mid, w64 (by omega) (by omega), if_neg c, w64 (by omega) (by omega)]
theorem zq50 (par : List Int) (ht : isTr par = true) : ∀ (d v : Nat) (out : List (List Int)), v + d = par.length → out.length ≤ 10 * (v + 1) →
  Ev (fun k => impl_inversions.l0 k par out (par.length : Int) (v : Int)) (rowsS par d (v + 1) out)
 | 0, v, out, h1, ho => by
  refine Ev.ret fun k => ?_
  rw [impl_inversions.l0, if_neg (by omega), rowsS]
 | d + 1, v, out, h1, ho => by
  obtain ⟨h8, h2, _⟩ := (zq14 par).1 ht
  have hr := zq44 par (v + 1)
  have ih := zq50 par ht d (v + 1) (out ++ rowOf par (v + 1)) (by omega) (by rw [List.length_append]; omega)
  have ev : ((v + 1 : Nat) : Int) = (v : Int) + 1 := by omega
  rw [ev] at ih
  have hab : (above par ((v : Int) + 1)).length ≤ par.length := zq29 par par.length ((v : Int) + 1)
  have hsl := (zq27 (above par ((v : Int) + 1))).length_eq
  have hra := zq45 par ht (v + 1) (by omega) (by omega)
  refine Ev.step (f := fun k => (impl_above.f k par ((v : Int) + 1)).bind fun t => (impl_sorted.f k t).bind fun t => impl_inversions.l1 k par out (v : Int) (par.length : Int) (v : Int) t (t.length : Int) 0) (fun k => ?_) ?_
  ·rw [impl_inversions.l0, if_pos (by omega), w64 (by omega) (by omega)]
  refine Ev.bind (zq36 par ht ((v : Int) + 1) (by omega) (by omega)) ?_
  refine Ev.bind (zq39 _ (by omega)) ?_
  refine zq49 par h8 v (by omega) _ (srt (above par ((v : Int) + 1))) [] out (by simp; omega) (by simp; omega) ?_
  rw [rowOf, ev] at ih
  rw [ev] at hra
  rw [hra, rowsS, rowOf, ev]
  exact ih
theorem zq51 (par : List Int) (ht : isTr par = true) : Ev (fun k => impl_inversions.f k par) (rowsS par par.length 1 []) :=
 zq50 par ht par.length 0 [] (by omega) (by simp)

def okPair (par : List Int) (p : List Int) : Prop := ∃ i j : Int, p = [i, j] ∧ 1 ≤ i ∧ i ≤ par.length ∧ i < j ∧ j ∈ above par i
theorem zq52 (par : List Int) : ∀ (d a : Nat) (out : List (List Int)), 1 ≤ a → a + d = par.length + 1 → (∀ p ∈ out, okPair par p) → ∀ p ∈ rowsS par d a out, okPair par p
 | 0, a, out, _, _, h => h
 | d + 1, a, out, h0, h1, h => zq52 par d (a + 1) _ (by omega) (by omega) fun p hp => by
  rcases List.mem_append.1 hp with h2 | h2
  ·exact h p h2
  ·obtain ⟨j, hj, rfl⟩ := List.mem_map.1 h2
   obtain ⟨h3, h4, h5⟩ := (zq41 _ _ _ _).1 hj
   exact ⟨a, j, rfl, by omega, by omega, by omega, h3⟩
theorem zq53 (par : List Int) : ∀ (d a : Nat) (out : List (List Int)), (rowsS par d a out).length ≤ out.length + d * par.length
 | 0, a, out => by simp [rowsS]
 | d + 1, a, out => by
  have h := zq53 par d (a + 1) (out ++ rowOf par a)
  have h2 := zq44 par a
  rw [List.length_append] at h
  rw [rowsS, Nat.add_mul]
  omega

theorem zq54 (a b c : Int) : spec_l1In.f a b c = some (decide (b ≤ a) && decide (a ≤ c)) := by
 unfold spec_l1In.f
 by_cases h : a ≥ b
 ·rw [if_pos h]; simp [show b ≤ a from h]
 ·rw [if_neg h]; simp [show ¬ b ≤ a from h]

theorem zq55 (lo hi : Int) : ∀ (t p : List Int), p.length + t.length ≤ 35184372088832 →
  Ev (fun k => spec_l1All.l0 k lo hi (p ++ t) ((p ++ t).length : Int) (p.length : Int)) (inAll lo hi t)
 | [], p, _ => by
  refine Ev.ret fun k => ?_
  rw [spec_l1All.l0, if_neg (by simp)]
  rfl
 | h :: t, p, hn => by
  have hn' : p.length + t.length + 1 ≤ 35184372088832 := by simpa [Nat.add_assoc] using hn
  have hm := len_mid p h t
  rw [zq6]
  cases c : decide (lo ≤ h) && decide (h ≤ hi) with
  | true =>
   have ih := zq55 lo hi t (p ++ [h]) (by simp; omega)
   rw [zq1, zq0] at ih
   rw [Bool.true_and]
   refine Ev.step (fun k => ?_) ih
   show spec_l1All.l0 (k + 1) lo hi (p ++ h :: t) ((p ++ h :: t).length : Int) (p.length : Int) = _
   rw [spec_l1All.l0, if_pos (by omega), if_pos (by omega), if_pos (by omega), rd_mid, zq54, c, Option.bind_some, if_pos rfl, w64 (by omega) (by omega)]
  | false =>
   rw [Bool.false_and]
   refine Ev.ret fun k => ?_
   rw [spec_l1All.l0, if_pos (by omega), if_pos (by omega), if_pos (by omega), rd_mid, zq54, c]
   rfl
theorem zq56 (l : List Int) (lo hi : Int) (hl : l.length ≤ 35184372088832) : Ev (fun k => spec_l1All.f k l lo hi) (inAll lo hi l) :=
 zq55 lo hi l [] (by simpa using hl)

theorem zq57 (par : List Int) (n : Int) (hn : n = par.length) (hn8 : par.length ≤ 8) (hp : ∀ x ∈ par, 0 ≤ x ∧ x ≤ par.length) (w i : Int) (r : Bool) (r' : Bool) : ∀ (m : Nat) (a s : Int), 0 ≤ a → a ≤ n → 0 ≤ s → s + m = n →
  Ev (fun k => spec_trGood.l0 k par n w (wrap64 (i + 1))) r → (r' = (climb par m a && r)) → Ev (fun k => spec_trGood.l1 k par n a s w i) r'
 | 0, a, s, h0, h1, hs, hm, h, e => by
  subst e
  simp only [climb]
  by_cases c : a > 0
  ·rw [decide_eq_false (by omega), Bool.false_and]
   refine Ev.ret fun k => ?_
   rw [spec_trGood.l1, if_pos c, if_pos (by omega)]
  ·rw [decide_eq_true (by omega), Bool.true_and]
   refine Ev.step (fun k => ?_) h
   show spec_trGood.l1 (k + 1) par n a s w i = _
   rw [spec_trGood.l1, if_neg c]
 | m + 1, a, s, h0, h1, hs, hm, h, e => by
  subst e
  by_cases c : a > 0
  ·rw [climb, if_pos c]
   have hr : rd par (a - 1) ∈ par := by
    unfold rd
    rw [List.getD_eq_getElem?_getD, List.getElem?_eq_getElem (by omega)]
    exact List.getElem_mem _
   have hb := hp _ hr
   refine Ev.step (fun k => ?_) (zq57 par n hn hn8 hp w i r _ m (rd par (a - 1)) (s + 1) hb.1 (by omega) (by omega) (by omega) h rfl)
   show spec_trGood.l1 (k + 1) par n a s w i = _
   rw [spec_trGood.l1, if_pos c, if_neg (by omega), w64 (x := a - 1) (by omega) (by omega), if_pos (by omega), if_pos (by omega), w64 (by omega) (by omega)]
  ·rw [climb, if_neg c, Bool.true_and]
   refine Ev.step (fun k => ?_) h
   show spec_trGood.l1 (k + 1) par n a s w i = _
   rw [spec_trGood.l1, if_neg c]
theorem zq58 (par : List Int) (hn8 : par.length ≤ 8) (hp : ∀ x ∈ par, 0 ≤ x ∧ x ≤ par.length) : ∀ (d i : Nat), i + d = par.length →
  Ev (fun k => spec_trGood.l0 k par (par.length : Int) (par.length : Int) (i : Int)) ((List.range' i d).all fun j => climb par par.length ((j : Int) + 1))
 | 0, i, hi => by
  refine Ev.ret fun k => ?_
  rw [spec_trGood.l0, if_neg (by omega)]
  rfl
 | d + 1, i, hi => by
  have ih := zq58 par hn8 hp d (i + 1) (by omega)
  refine Ev.step (fun k => ?_) (zq57 par (par.length : Int) rfl hn8 hp (par.length : Int) (i : Int) ((List.range' (i + 1) d).all fun j => climb par par.length ((j : Int) + 1)) _ par.length ((i : Int) + 1) 0 (by omega) (by omega) (by omega) (by omega) ?_ ?_)
  ·show spec_trGood.l0 (k + 1) par (par.length : Int) (par.length : Int) (i : Int) = _
   rw [spec_trGood.l0, if_pos (by omega), w64 (by omega) (by omega)]
  ·rw [w64 (by omega) (by omega)]
   exact ih
  ·rw [List.range'_succ, List.all_cons]
theorem zq59 (par : List Int) (hl : par.length ≤ 35184372088832) : Ev (fun k => spec_trGood.f k par) (isTr par) := by
 by_cases c8 : par.length ≤ 8
 ·cases c : inAll 0 par.length par with
  | false =>
   have e : isTr par = false := by simp [isTr, c]
   rw [e]
   refine Ev.congr (fun k => by rw [spec_trGood.f, if_neg (by omega)]) ?_
   refine Ev.bind (zq56 par 0 par.length hl) ?_
   rw [c]
   exact Ev.ret fun k => by rw [spec_trGood.j0]; rfl
  | true =>
   have hp := (zq5 _ _ _).1 c
   have e : isTr par = (List.range' 0 par.length).all fun j => climb par par.length ((j : Int) + 1) := by
    simp [isTr, c, c8, List.range_eq_range']
   rw [e]
   refine Ev.congr (fun k => by rw [spec_trGood.f, if_neg (by omega)]) ?_
   refine Ev.bind (zq56 par 0 par.length hl) ?_
   rw [c]
   refine Ev.step (fun k => by rw [spec_trGood.j0, if_neg (by simp)]) ?_
   exact zq58 par c8 hp par.length 0 (by omega)
 ·have e : isTr par = false := by simp [isTr, c8]
  rw [e]
  refine Ev.congr (fun k => by rw [spec_trGood.f, if_pos (by omega)]) ?_
  exact Ev.ret fun k => by rw [spec_trGood.j0, if_pos rfl]

theorem zq60 (q : Int → Bool) : ∀ (t p : List Int), p.length + t.length ≤ 35184372088832 →
  ∃ r : Int, decide (r ≥ 0) = t.any q ∧ Ev (fun k => slices_IndexFunc_int_int.l0 q k (p ++ t) ((p ++ t).length : Int) (p.length : Int)) r
 | [], p, _ => by
  refine ⟨-1, by simp, Ev.ret fun k => ?_⟩
  rw [slices_IndexFunc_int_int.l0, if_neg (by simp)]
 | h :: t, p, hn => by
  have hn' : p.length + t.length + 1 ≤ 35184372088832 := by simpa [Nat.add_assoc] using hn
  have hm := len_mid p h t
  cases c : q h with
  | true =>
   refine ⟨p.length, by simp [c], Ev.ret fun k => ?_⟩
   rw [slices_IndexFunc_int_int.l0, if_pos (by omega), if_pos (by omega), if_pos (by omega), rd_mid, c, Option.bind_some, if_pos rfl]
  | false =>
   obtain ⟨r, hr, ih⟩ := zq60 q t (p ++ [h]) (by simp; omega)
   rw [zq1, zq0] at ih
   refine ⟨r, by simpa [c] using hr, Ev.step (fun k => ?_) ih⟩
   show slices_IndexFunc_int_int.l0 q (k + 1) (p ++ h :: t) ((p ++ h :: t).length : Int) (p.length : Int) = _
   rw [slices_IndexFunc_int_int.l0, if_pos (by omega), if_pos (by omega), if_pos (by omega), rd_mid, c, Option.bind_some, if_neg (by simp), w64 (by omega) (by omega)]
theorem zq61 (q : Int → Bool) (l : List Int) (hl : l.length ≤ 35184372088832) : Ev (fun k => slices_ContainsFunc_int_int.f q k l) (l.any q) := by
 obtain ⟨r, hr, h⟩ := zq60 q l [] (by simpa using hl)
 rw [← hr]
 exact Ev.congr (fun k => rfl) (Ev.bind h (Ev.now _))

theorem zq62 (a b c : Int) : impl_between.f a b c = some (decide (b ≤ a) && decide (a ≤ c)) := by
 unfold impl_between.f
 by_cases h : a ≥ b
 ·rw [if_pos h]; simp [show b ≤ a from h]
 ·rw [if_neg h]; simp [show ¬ b ≤ a from h]

theorem zq63 (l : List Int) (lo hi : Int) (hl : l.length ≤ 35184372088832) : Ev (fun k => impl_areBetween.f k l lo hi) (inAll lo hi l) := by
 have e : (!(l.any (impl_areBetween_1.p lo hi))) = inAll lo hi l := by
  have hp : ∀ n, impl_areBetween_1.p lo hi n = !(decide (lo ≤ n) && decide (n ≤ hi)) := fun n => by
   simp [impl_areBetween_1.p, zq62]
  unfold inAll
  induction l with
  | nil => rfl
  | cons x t ih =>
   rw [List.any_cons, List.all_cons, Bool.not_or, ih (by simp at hl; omega), hp, Bool.not_not]
 rw [← e]
 exact Ev.congr (fun k => rfl) (Ev.bind (zq61 (impl_areBetween_1.p lo hi) l hl) (Ev.now _))

theorem zq64 (a : Int) : impl_isCars.f a = some (decide (0 ≤ a) && decide (a ≤ 8)) := by
 unfold impl_isCars.f
 rw [zq62]
 rfl

theorem zq65 (par : List Int) (n : Int) (hn : n = par.length) (hn8 : par.length ≤ 8) (hp : ∀ x ∈ par, 0 ≤ x ∧ x ≤ par.length) (w i : Int) (r : Bool) (r' : Bool) : ∀ (m : Nat) (a s : Int), 0 ≤ a → a ≤ n → 0 ≤ s → s + m = n + 1 →
  Ev (fun k => impl_isTree.l0 k par n w (wrap64 (i + 1))) r → (r' = (climb par m a && r)) → Ev (fun k => impl_isTree.l1 k par n a s w i) r'
 | 0, a, s, h0, h1, hs, hm, h, e => by
  subst e
  simp only [climb]
  by_cases c : a > 0
  ·rw [decide_eq_false (by omega), Bool.false_and]
   refine Ev.ret fun k => ?_
   rw [impl_isTree.l1, if_pos c, if_pos (by omega)]
  ·rw [decide_eq_true (by omega), Bool.true_and]
   refine Ev.step (fun k => ?_) h
   show impl_isTree.l1 (k + 1) par n a s w i = _
   rw [impl_isTree.l1, if_neg c]
 | m + 1, a, s, h0, h1, hs, hm, h, e => by
  subst e
  by_cases c : a > 0
  ·rw [climb, if_pos c]
   have hr : rd par (a - 1) ∈ par := by
    unfold rd
    rw [List.getD_eq_getElem?_getD, List.getElem?_eq_getElem (by omega)]
    exact List.getElem_mem _
   have hb := hp _ hr
   refine Ev.step (fun k => ?_) (zq65 par n hn hn8 hp w i r _ m (rd par (a - 1)) (s + 1) hb.1 (by omega) (by omega) (by omega) h rfl)
   show impl_isTree.l1 (k + 1) par n a s w i = _
   rw [impl_isTree.l1, if_pos c, if_neg (by omega), w64 (x := a - 1) (by omega) (by omega), if_pos (by omega), if_pos (by omega), w64 (by omega) (by omega)]
  ·rw [climb, if_neg c, Bool.true_and]
   refine Ev.step (fun k => ?_) h
   show impl_isTree.l1 (k + 1) par n a s w i = _
   rw [impl_isTree.l1, if_neg c]
theorem zq66 (par : List Int) (hn8 : par.length ≤ 8) (hp : ∀ x ∈ par, 0 ≤ x ∧ x ≤ par.length) : ∀ (d i : Nat), i + d = par.length →
  Ev (fun k => impl_isTree.l0 k par (par.length : Int) (par.length : Int) (i : Int)) ((List.range' i d).all fun j => climb par par.length ((j : Int) + 1))
 | 0, i, hi => by
  refine Ev.ret fun k => ?_
  rw [impl_isTree.l0, if_neg (by omega)]
  rfl
 | d + 1, i, hi => by
  have ih := zq66 par hn8 hp d (i + 1) (by omega)
  refine Ev.step (fun k => ?_) (zq65 par (par.length : Int) rfl hn8 hp (par.length : Int) (i : Int) ((List.range' (i + 1) d).all fun j => climb par par.length ((j : Int) + 1)) _ (par.length + 1) ((i : Int) + 1) 0 (by omega) (by omega) (by omega) (by omega) ?_ ?_)
  ·show impl_isTree.l0 (k + 1) par (par.length : Int) (par.length : Int) (i : Int) = _
   rw [impl_isTree.l0, if_pos (by omega), w64 (by omega) (by omega)]
  ·rw [w64 (by omega) (by omega)]
   exact ih
  ·rw [List.range'_succ, List.all_cons]
   congr 1
   rw [Bool.eq_iff_iff]
   exact ⟨zq7 par _ _, zq10 par hp _ (by omega) (by omega)⟩
theorem zq67 (par : List Int) (hl : par.length ≤ 35184372088832) : Ev (fun k => impl_isTree.f k par) (isTr par) := by
 by_cases c8 : par.length ≤ 8
 ·have d8 : (decide ((0 : Int) ≤ par.length) && decide ((par.length : Int) ≤ 8)) = true := by
   rw [Bool.and_eq_true, decide_eq_true_eq, decide_eq_true_eq]; omega
  cases c : inAll 0 par.length par with
  | false =>
   have e : isTr par = false := by simp [isTr, c]
   rw [e]
   refine Ev.congr (fun k => by rw [impl_isTree.f, zq64, d8, Option.bind_some, if_pos rfl]) ?_
   refine Ev.bind (zq63 par 0 par.length hl) ?_
   rw [c]
   exact Ev.ret fun k => by rw [impl_isTree.j0]; rfl
  | true =>
   have hp := (zq5 _ _ _).1 c
   have e : isTr par = (List.range' 0 par.length).all fun j => climb par par.length ((j : Int) + 1) := by
    simp [isTr, c, c8, List.range_eq_range']
   rw [e]
   refine Ev.congr (fun k => by rw [impl_isTree.f, zq64, d8, Option.bind_some, if_pos rfl]) ?_
   refine Ev.bind (zq63 par 0 par.length hl) ?_
   rw [c]
   refine Ev.step (fun k => by rw [impl_isTree.j0, if_neg (by simp)]) ?_
   exact zq66 par c8 hp par.length 0 (by omega)
 ·have e : isTr par = false := by simp [isTr, c8]
  have d8 : (decide ((0 : Int) ≤ par.length) && decide ((par.length : Int) ≤ 8)) = false := by
   rw [Bool.and_eq_false_iff]; right; exact decide_eq_false (by omega)
  rw [e]
  refine Ev.congr (fun k => by rw [impl_isTree.f, zq64, d8, Option.bind_some, if_neg (by simp)]) ?_
  exact Ev.ret fun k => by rw [impl_isTree.j0, if_pos rfl]

theorem abv_hgt (par : List Int) : ∀ (m : Nat) (a : Int), (abv par m a).length = hgt par m a
 | 0, a => rfl
 | m + 1, a => by
  rw [abv, hgt]
  split
  ·rw [List.length_cons, abv_hgt par m]
  ·rfl
def depS (par : List Int) : Nat → Nat → List Int
 | 0, _ => []
 | d + 1, i => ((above par ((i : Int) + 1)).length : Int) :: depS par d (i + 1)
theorem zq68 (par : List Int) : ∀ (d i : Nat), (depS par d i).length = d
 | 0, _ => rfl
 | d + 1, i => by rw [depS, List.length_cons, zq68 par d]
theorem zq69 (par : List Int) : ∀ (d i j : Nat), j < d → (depS par d i).getD j 0 = (dep par (((i + j : Nat) : Int) + 1) : Int)
 | 0, i, j, h => by omega
 | d + 1, i, j, h => by
  rw [depS]
  cases j with
  | zero =>
   rw [List.getD_cons_zero]
   show ((abv par par.length ((i : Int) + 1)).length : Int) = _
   rw [abv_hgt]
   rfl
  | succ j =>
   rw [List.getD_cons_succ, zq69 par d (i + 1) j (by omega), show i + 1 + j = i + (j + 1) by omega]
theorem rd_depS (par : List Int) (a : Int) (h0 : 1 ≤ a) (h1 : a ≤ par.length) : rd (depS par par.length 0) (a - 1) = (dep par a : Int) := by
 unfold rd
 rw [zq69 par par.length 0 (a - 1).toNat (by omega), show (((0 + (a - 1).toNat : Nat) : Int) + 1) = a by omega]

theorem zq70 (par : List Int) (ht : isTr par = true) : ∀ (d i : Nat) (out : List Int), i + d = par.length → out.length ≤ i →
  Ev (fun k => impl_DepthsOf.l0 k par out (par.length : Int) (i : Int)) (out ++ depS par d i, true)
 | 0, i, out, hd, ho => Ev.ret fun k => by rw [impl_DepthsOf.l0, if_neg (by omega), depS, List.append_nil]
 | d + 1, i, out, hd, ho => by
  obtain ⟨h8, _, _⟩ := (zq14 par).1 ht
  have ih := zq70 par ht d (i + 1) (out ++ [((above par ((i : Int) + 1)).length : Int)]) (by omega) (by simp; omega)
  rw [show ((i + 1 : Nat) : Int) = (i : Int) + 1 by omega] at ih
  have e : out ++ depS par (d + 1) i = out ++ [((above par ((i : Int) + 1)).length : Int)] ++ depS par d (i + 1) := by rw [depS]; simp
  rw [e]
  refine Ev.step (fun k => by rw [impl_DepthsOf.l0, if_pos (by omega), w64 (by omega) (by omega)]) (Ev.bind (zq36 par ht ((i : Int) + 1) (by omega) (by omega)) ?_)
  exact Ev.congr (fun k => by rw [if_pos (by omega)]) ih

theorem zq71 (par : List Int) (ht : isTr par = true) : ∀ (d i : Nat) (out : List Int), i + d = par.length → out.length ≤ i →
  Ev (fun k => spec_DepthsOf.l0 k par out (par.length : Int) (i : Int)) (out ++ depS par d i, true)
 | 0, i, out, hd, ho => Ev.ret fun k => by rw [spec_DepthsOf.l0, if_neg (by omega), depS, List.append_nil]
 | d + 1, i, out, hd, ho => by
  obtain ⟨h8, _, _⟩ := (zq14 par).1 ht
  have ih := zq71 par ht d (i + 1) (out ++ [((above par ((i : Int) + 1)).length : Int)]) (by omega) (by simp; omega)
  rw [show ((i + 1 : Nat) : Int) = (i : Int) + 1 by omega] at ih
  have e : out ++ depS par (d + 1) i = out ++ [((above par ((i : Int) + 1)).length : Int)] ++ depS par d (i + 1) := by rw [depS]; simp
  rw [e]
  refine Ev.step (fun k => by rw [spec_DepthsOf.l0, if_pos (by omega), w64 (by omega) (by omega)]) (Ev.bind (zq34 par ht ((i : Int) + 1) (by omega) (by omega)) ?_)
  exact Ev.congr (fun k => by rw [if_pos (by omega)]) ih

theorem rd_set (l : List Int) (i j : Nat) (x : Int) (hi : i < l.length) : rd (l.set i x) (j : Int) = if j = i then x else rd l (j : Int) := by
 rw [rd_nat, rd_nat, List.getD_eq_getElem?_getD, List.getD_eq_getElem?_getD]
 by_cases c : j = i
 ·rw [if_pos c, c, List.getElem?_set_self hi]; rfl
 ·rw [if_neg c, List.getElem?_set_ne (fun e => c e.symm)]

def incAll : List Int → List Int → List Int
 | out, [] => out
 | out, a :: t => incAll (out.set a.toNat (rd out a + 1)) t
theorem zq72 : ∀ (t out : List Int), (incAll out t).length = out.length
 | [], out => rfl
 | a :: t, out => by rw [incAll, zq72 t]; simp
theorem sum_set (v : Int) : ∀ (l : List Int) (i : Nat), i < l.length → (l.set i v).sum = l.sum - rd l (i : Int) + v
 | [], i, h => by simp at h
 | x :: l, 0, h => by
  rw [List.set_cons_zero, List.sum_cons, List.sum_cons, rd_nat, List.getD_cons_zero]
  omega
 | x :: l, i + 1, h => by
  rw [List.set_cons_succ, List.sum_cons, List.sum_cons, sum_set v l i (by simpa using h), rd_nat, rd_nat, List.getD_cons_succ]
  omega
theorem zq73 : ∀ (t out : List Int), (∀ a ∈ t, 0 ≤ a ∧ a < out.length) → (incAll out t).sum = out.sum + t.length
 | [], out, _ => by simp [incAll]
 | a :: t, out, h => by
  have ha := h a (by simp)
  rw [incAll, zq73 t _ (fun x hx => by rw [List.length_set]; exact h x (by simp [hx])), sum_set _ _ _ (by omega), show ((a.toNat : Nat) : Int) = a by omega]
  simp
  omega
theorem zq74 : ∀ (t out : List Int), t.Nodup → 0 < out.length → (∀ a ∈ t, 0 ≤ a ∧ a < out.length) → rd (incAll out t) 0 = rd out 0 + if (0 : Int) ∈ t then 1 else 0
 | [], out, _, _, _ => by simp [incAll]
 | a :: t, out, hn, h0, h => by
  obtain ⟨h1, h2⟩ := List.nodup_cons.1 hn
  have ha := h a (by simp)
  rw [incAll, zq74 t _ h2 (by simpa using h0) (fun x hx => by rw [List.length_set]; exact h x (by simp [hx]))]
  have hs := rd_set out a.toNat 0 (rd out a + 1) (by omega)
  have e0 : ((0 : Nat) : Int) = 0 := rfl
  rw [e0] at hs
  rw [hs]
  by_cases c : a = 0
  ·subst c
   rw [if_pos (show 0 = Int.toNat 0 from rfl), if_neg h1, if_pos (by simp)]
   omega
  ·rw [if_neg (by omega)]
   have : ((0 : Int) ∈ a :: t) ↔ (0 : Int) ∈ t := by simp [Ne.symm c]
   simp only [this]
theorem zq75 (B : Int) : ∀ (t out : List Int), (∀ x ∈ out, 0 ≤ x ∧ x ≤ B) → 0 ≤ B → ∀ x ∈ incAll out t, 0 ≤ x ∧ x ≤ B + t.length
 | [], out, h, _, x, hx => by have := h x hx; simp; omega
 | a :: t, out, h, hB, x, hx => by
  rw [incAll] at hx
  have hr : 0 ≤ rd out a ∧ rd out a ≤ B := by
   unfold rd
   rw [List.getD_eq_getElem?_getD]
   cases e : out[a.toNat]? with
   | none => exact ⟨Int.le_refl _, hB⟩
   | some v => exact h v (List.mem_of_getElem? e)
  have := zq75 (B + 1) t (out.set a.toNat (rd out a + 1)) (fun y hy => by
   rcases List.mem_or_eq_of_mem_set hy with h1 | h1
   ·have := h y h1; omega
   ·omega) (by omega) x hx
  simp
  omega
def belS (par : List Int) : Nat → Nat → List Int → List Int
 | 0, _, out => out
 | d + 1, i, out => belS par d (i + 1) (incAll out (above par ((i : Int) + 1)))
theorem zq76 (par : List Int) : ∀ (d i : Nat) (out : List Int), (belS par d i out).length = out.length
 | 0, _, _ => rfl
 | d + 1, i, out => by rw [belS, zq76 par d, zq72]
theorem zq77 (par : List Int) (ht : isTr par = true) : ∀ (m : Nat) (a : Int), 1 ≤ a → a ≤ par.length → climb par m a = true → (0 : Int) ∈ abv par m a
 | 0, a, h0, _, hc => by simp only [climb, decide_eq_true_eq] at hc; omega
 | m + 1, a, h0, h1, hc => by
  obtain ⟨_, h2, _⟩ := (zq14 par).1 ht
  rw [climb, if_pos (by omega)] at hc
  rw [abv, if_pos (by omega)]
  have hr := h2 _ (rd_mem par (a - 1) (by omega) (by omega))
  by_cases c : rd par (a - 1) = 0
  ·rw [c]; simp
  ·exact List.mem_cons_of_mem _ (zq77 par ht m _ (by omega) hr.2 hc)
theorem zq78 (par : List Int) (ht : isTr par = true) : ∀ (d i : Nat) (out : List Int), i + d = par.length → out.length = par.length + 1 → (belS par d i out).sum = out.sum + (depS par d i).sum ∧ rd (belS par d i out) 0 = rd out 0 + d
 | 0, i, out, _, _ => by simp [belS, depS]
 | d + 1, i, out, hd, ho => by
  obtain ⟨h8, h2, h3⟩ := (zq14 par).1 ht
  have hra : ∀ a ∈ above par ((i : Int) + 1), 0 ≤ a ∧ a < out.length := fun a ha => by
   have := zq30 par h2 par.length ((i : Int) + 1) (by omega) (by omega) a ha
   omega
  have hnd : (above par ((i : Int) + 1)).Nodup := (abv_dep par ht par.length ((i : Int) + 1) (by omega) (by omega)).2
  have hz : (0 : Int) ∈ above par ((i : Int) + 1) := zq77 par ht par.length ((i : Int) + 1) (by omega) (by omega) (h3 _ (by omega) (by omega))
  obtain ⟨e1, e2⟩ := zq78 par ht d (i + 1) (incAll out (above par ((i : Int) + 1))) (by omega) (by rw [zq72]; exact ho)
  rw [belS, e1, e2, zq73 _ _ hra, zq74 _ _ hnd (by omega) hra, if_pos hz, depS, List.sum_cons]
  omega
theorem zq79 (par : List Int) (hl : par.length ≤ 8) : ∀ (d i : Nat) (out : List Int), (∀ x ∈ out, 0 ≤ x ∧ x ≤ 10 * (i : Int)) → ∀ x ∈ belS par d i out, 0 ≤ x ∧ x ≤ 10 * ((i : Int) + d)
 | 0, i, out, h, x, hx => by have := h x hx; omega
 | d + 1, i, out, h, x, hx => by
  have hal : (above par ((i : Int) + 1)).length ≤ par.length := zq29 par par.length ((i : Int) + 1)
  have hbb := zq75 (10 * (i : Int)) (above par ((i : Int) + 1)) out h (by omega)
  have := zq79 par hl d (i + 1) (incAll out (above par ((i : Int) + 1))) (fun y hy => by have := hbb y hy; omega) x hx
  omega

theorem zq80 (par : List Int) (x16 : Int) (i : Nat) (hi : i ≤ 1000) (r : List Int × Bool) : ∀ (t p out : List Int) (B : Int), p.length + t.length ≤ 1000 → (∀ x ∈ out, 0 ≤ x ∧ x ≤ B) → 0 ≤ B → B ≤ 100000 + p.length → (∀ a ∈ t, 0 ≤ a ∧ a < out.length) →
  Ev (fun k => impl_BelowCounts.l0 k par (incAll out t) x16 ((i : Int) + 1)) r →
  Ev (fun k => impl_BelowCounts.l1 k par out x16 (i : Int) (p ++ t) ((p ++ t).length : Int) (p.length : Int)) r
 | [], p, out, B, hn, hb, hB, hB2, hr, H => by
  refine Ev.step (fun k => ?_) H
  show impl_BelowCounts.l1 (k + 1) par out x16 (i : Int) (p ++ []) ((p ++ []).length : Int) (p.length : Int) = _
  rw [impl_BelowCounts.l1, if_neg (by simp), w64 (by omega) (by omega)]
  rfl
 | a :: t, p, out, B, hn, hb, hB, hB2, hr, H => by
  have hn' : p.length + t.length + 1 ≤ 1000 := by simpa [Nat.add_assoc] using hn
  have hm := len_mid p a t
  have ha := hr a (by simp)
  have hv := hb (rd out a) (rd_mem out a ha.1 ha.2)
  have ih := zq80 par x16 i hi r t (p ++ [a]) (out.set a.toNat (rd out a + 1)) (B + 1) (by simp; omega) (fun y hy => by
   rcases List.mem_or_eq_of_mem_set hy with h1 | h1
   ·have := hb y h1; omega
   ·omega) (by omega) (by simp; omega) (fun x hx => by rw [List.length_set]; exact hr x (by simp [hx])) H
  rw [zq1 p a t, zq0 p a] at ih
  refine Ev.step (fun k => ?_) ih
  show impl_BelowCounts.l1 (k + 1) par out x16 (i : Int) (p ++ a :: t) ((p ++ a :: t).length : Int) (p.length : Int) = _
  rw [impl_BelowCounts.l1, if_pos (by omega), if_pos (by omega), if_pos (by omega), rd_mid, if_pos ha.1, if_pos ha.2, w64 (x := rd out a + 1) (by omega) (by omega), w64 (by omega) (by omega)]
theorem zq81 (par : List Int) (ht : isTr par = true) : ∀ (d i : Nat) (out : List Int), i + d = par.length → out.length = par.length + 1 → (∀ x ∈ out, 0 ≤ x ∧ x ≤ 10 * (i : Int)) →
  Ev (fun k => impl_BelowCounts.l0 k par out (par.length : Int) (i : Int)) (belS par d i out, true)
 | 0, i, out, hd, ho, hb => Ev.ret fun k => by rw [impl_BelowCounts.l0, if_neg (by omega), belS]
 | d + 1, i, out, hd, ho, hb => by
  obtain ⟨h8, h2, _⟩ := (zq14 par).1 ht
  have hal : (above par ((i : Int) + 1)).length ≤ par.length := zq29 par par.length ((i : Int) + 1)
  have hra : ∀ a ∈ above par ((i : Int) + 1), 0 ≤ a ∧ a < out.length := fun a ha => by
   have := zq30 par h2 par.length ((i : Int) + 1) (by omega) (by omega) a ha
   omega
  have hbb := zq75 (10 * (i : Int)) (above par ((i : Int) + 1)) out hb (by omega)
  have ih := zq81 par ht d (i + 1) (incAll out (above par ((i : Int) + 1))) (by omega) (by rw [zq72]; exact ho) (fun x hx => by have := hbb x hx; omega)
  rw [show ((i + 1 : Nat) : Int) = (i : Int) + 1 by omega] at ih
  rw [belS]
  refine Ev.step (fun k => by rw [impl_BelowCounts.l0, if_pos (by omega), w64 (by omega) (by omega)]) (Ev.bind (zq36 par ht ((i : Int) + 1) (by omega) (by omega)) ?_)
  exact zq80 par _ i (by omega) _ (above par ((i : Int) + 1)) [] out (10 * (i : Int)) (by simp; omega) hb (by omega) (by simp; omega) hra ih
theorem zq82 (par : List Int) (hl : par.length ≤ 1000) (ht : isTr par = true) : Ev (fun k => impl_BelowCounts.f k par) (belS par par.length 0 (List.replicate (par.length + 1) 0), true) := by
 obtain ⟨h8, h2, _⟩ := (zq14 par).1 ht
 refine Ev.congr (fun k => rfl) (Ev.bind (zq67 par (by omega)) ?_)
 rw [ht]
 refine Ev.congr (fun k => by rw [if_pos rfl, w64 (by omega) (by omega), if_pos (by omega), if_pos (by omega), show ((par.length : Int) + 1).toNat = par.length + 1 by omega]) ?_
 exact zq81 par ht par.length 0 _ (by omega) (by simp) (fun x hx => by have := (List.mem_replicate.1 hx).2; omega)

theorem zq83 (par : List Int) (x16 : Int) (i : Nat) (hi : i ≤ 1000) (r : List Int × Bool) : ∀ (t p out : List Int) (B : Int), p.length + t.length ≤ 1000 → (∀ x ∈ out, 0 ≤ x ∧ x ≤ B) → 0 ≤ B → B ≤ 100000 + p.length → (∀ a ∈ t, 0 ≤ a ∧ a < out.length) →
  Ev (fun k => spec_BelowCounts.l0 k par (incAll out t) x16 ((i : Int) + 1)) r →
  Ev (fun k => spec_BelowCounts.l1 k par out x16 (i : Int) (p ++ t) ((p ++ t).length : Int) (p.length : Int)) r
 | [], p, out, B, hn, hb, hB, hB2, hr, H => by
  refine Ev.step (fun k => ?_) H
  show spec_BelowCounts.l1 (k + 1) par out x16 (i : Int) (p ++ []) ((p ++ []).length : Int) (p.length : Int) = _
  rw [spec_BelowCounts.l1, if_neg (by simp), w64 (by omega) (by omega)]
  rfl
 | a :: t, p, out, B, hn, hb, hB, hB2, hr, H => by
  have hn' : p.length + t.length + 1 ≤ 1000 := by simpa [Nat.add_assoc] using hn
  have hm := len_mid p a t
  have ha := hr a (by simp)
  have hv := hb (rd out a) (rd_mem out a ha.1 ha.2)
  have ih := zq83 par x16 i hi r t (p ++ [a]) (out.set a.toNat (rd out a + 1)) (B + 1) (by simp; omega) (fun y hy => by
   rcases List.mem_or_eq_of_mem_set hy with h1 | h1
   ·have := hb y h1; omega
   ·omega) (by omega) (by simp; omega) (fun x hx => by rw [List.length_set]; exact hr x (by simp [hx])) H
  rw [zq1 p a t, zq0 p a] at ih
  refine Ev.step (fun k => ?_) ih
  show spec_BelowCounts.l1 (k + 1) par out x16 (i : Int) (p ++ a :: t) ((p ++ a :: t).length : Int) (p.length : Int) = _
  rw [spec_BelowCounts.l1, if_pos (by omega), if_pos (by omega), if_pos (by omega), rd_mid, if_pos ha.1, if_pos ha.2, w64 (x := rd out a + 1) (by omega) (by omega), w64 (by omega) (by omega)]
theorem zq84 (par : List Int) (ht : isTr par = true) : ∀ (d i : Nat) (out : List Int), i + d = par.length → out.length = par.length + 1 → (∀ x ∈ out, 0 ≤ x ∧ x ≤ 10 * (i : Int)) →
  Ev (fun k => spec_BelowCounts.l0 k par out (par.length : Int) (i : Int)) (belS par d i out, true)
 | 0, i, out, hd, ho, hb => Ev.ret fun k => by rw [spec_BelowCounts.l0, if_neg (by omega), belS]
 | d + 1, i, out, hd, ho, hb => by
  obtain ⟨h8, h2, _⟩ := (zq14 par).1 ht
  have hal : (above par ((i : Int) + 1)).length ≤ par.length := zq29 par par.length ((i : Int) + 1)
  have hra : ∀ a ∈ above par ((i : Int) + 1), 0 ≤ a ∧ a < out.length := fun a ha => by
   have := zq30 par h2 par.length ((i : Int) + 1) (by omega) (by omega) a ha
   omega
  have hbb := zq75 (10 * (i : Int)) (above par ((i : Int) + 1)) out hb (by omega)
  have ih := zq84 par ht d (i + 1) (incAll out (above par ((i : Int) + 1))) (by omega) (by rw [zq72]; exact ho) (fun x hx => by have := hbb x hx; omega)
  rw [show ((i + 1 : Nat) : Int) = (i : Int) + 1 by omega] at ih
  rw [belS]
  refine Ev.step (fun k => by rw [spec_BelowCounts.l0, if_pos (by omega), w64 (by omega) (by omega)]) (Ev.bind (zq34 par ht ((i : Int) + 1) (by omega) (by omega)) ?_)
  exact zq83 par _ i (by omega) _ (above par ((i : Int) + 1)) [] out (10 * (i : Int)) (by simp; omega) hb (by omega) (by simp; omega) hra ih
theorem zq85 (par : List Int) (hl : par.length ≤ 1000) (ht : isTr par = true) : Ev (fun k => spec_BelowCounts.f k par) (belS par par.length 0 (List.replicate (par.length + 1) 0), true) := by
 obtain ⟨h8, h2, _⟩ := (zq14 par).1 ht
 refine Ev.congr (fun k => rfl) (Ev.bind (zq59 par (by omega)) ?_)
 rw [ht]
 refine Ev.congr (fun k => by rw [if_pos rfl, w64 (by omega) (by omega), if_pos (by omega), if_pos (by omega), show ((par.length : Int) + 1).toNat = par.length + 1 by omega]) ?_
 exact zq84 par ht par.length 0 _ (by omega) (by simp) (fun x hx => by have := (List.mem_replicate.1 hx).2; omega)

def cnt (q : Int → Bool) : List Int → Int
 | [] => 0
 | h :: t => (if q h = true then 1 else 0) + cnt q t
theorem zq86 (q : Int → Bool) : ∀ l : List Int, 0 ≤ cnt q l ∧ cnt q l ≤ l.length
 | [] => by simp [cnt]
 | h :: t => by
  have := zq86 q t
  have e : ((h :: t).length : Int) = (t.length : Int) + 1 := by simp
  simp only [cnt]
  rw [e]
  split <;> omega
def places (q : Int → Bool) : List Int → Int → List Int
 | [], _ => []
 | h :: t, i => if q h = true then i :: places q t (i + 1) else places q t (i + 1)
theorem zq87 (q : Int → Bool) : ∀ (l : List Int) (i : Int), ((places q l i).length : Int) = cnt q l
 | [], i => by simp [places, cnt]
 | h :: t, i => by
  rw [places, cnt]
  have := zq87 q t (i + 1)
  split
  ·simp; omega
  ·omega
theorem zq88 (q : Int → Bool) (x : Int) : ∀ (l : List Int) (i : Int), x ∈ places q l i ↔ ∃ j : Nat, ∃ v, l[j]? = some v ∧ q v = true ∧ x = i + j
 | [], i => by simp [places]
 | h :: t, i => by
  rw [places]
  have ih := zq88 q x t (i + 1)
  constructor
  ·intro hx
   have : x = i ∧ q h = true ∨ x ∈ places q t (i + 1) := by
    split at hx
    ·rename_i c
     rcases List.mem_cons.1 hx with h1 | h1
     ·exact .inl ⟨h1, c⟩
     ·exact .inr h1
    ·exact .inr hx
   rcases this with ⟨h1, h2⟩ | h1
   ·exact ⟨0, h, by simp, h2, by omega⟩
   ·obtain ⟨j, v, h2, h3, h4⟩ := ih.1 h1
    exact ⟨j + 1, v, by simpa using h2, h3, by omega⟩
  ·rintro ⟨j, v, h2, h3, h4⟩
   cases j with
   | zero =>
    have e : h = v := by simpa using h2
    rw [e, if_pos h3]
    exact List.mem_cons.2 (.inl (by omega))
   | succ j =>
    have h1 : x ∈ places q t (i + 1) := ih.2 ⟨j, v, by simpa using h2, h3, by omega⟩
    split
    ·exact List.mem_cons_of_mem _ h1
    ·exact h1
theorem zq89 (q : Int → Bool) : ∀ (l : List Int) (i : Int), (places q l i).Pairwise (· < ·)
 | [], i => by simp [places]
 | h :: t, i => by
  rw [places]
  split
  ·rw [List.pairwise_cons]
   refine ⟨fun x hx => ?_, zq89 q t (i + 1)⟩
   obtain ⟨j, v, _, _, e⟩ := (zq88 q x t (i + 1)).1 hx
   omega
  ·exact zq89 q t (i + 1)

def kids (par : List Int) (v : Int) : List Int := (places (fun p => decide (p = v)) par 0).map (· + 1)
theorem zq90 (par : List Int) (v x : Int) : x ∈ kids par v ↔ 1 ≤ x ∧ x ≤ par.length ∧ rd par (x - 1) = v := by
 rw [kids, List.mem_map]
 constructor
 ·rintro ⟨y, hy, rfl⟩
  obtain ⟨j, w, h1, h2, h3⟩ := (zq88 _ _ _ _).1 hy
  have h4 := (List.getElem?_eq_some_iff.1 h1).1
  refine ⟨by omega, by omega, ?_⟩
  have h5 : w = v := by simpa using h2
  unfold rd
  rw [show (y + 1 - 1).toNat = j by omega, List.getD_eq_getElem?_getD, h1, ← h5]
  rfl
 ·rintro ⟨h1, h2, h3⟩
  refine ⟨x - 1, (zq88 _ _ _ _).2 ⟨(x - 1).toNat, v, ?_, by simp, by omega⟩, by omega⟩
  unfold rd at h3
  rw [List.getD_eq_getElem?_getD, List.getElem?_eq_getElem (by omega)] at h3
  rw [List.getElem?_eq_getElem (by omega)]
  exact congrArg some h3
theorem zq91 (par : List Int) (v : Int) : (kids par v).Nodup := by
 rw [kids]
 refine List.pairwise_map.2 ((zq89 (fun p => decide (p = v)) par 0).imp ?_)
 intro a b h
 omega
structure InB (par ord : List Int) (k : Nat) : Prop where
 nd : ord.Nodup
 le : k ≤ ord.length
 zero : 0 ∈ ord
 range : ∀ v ∈ ord, 0 ≤ v ∧ v ≤ par.length
 has : ∀ v : Int, 1 ≤ v → v ≤ par.length → (v ∈ ord ↔ rd par (v - 1) ∈ ord.take k)
theorem InB.first (par : List Int) : InB par [0] 0 :=
 ⟨by simp, by simp, by simp, by simp, by intro v h1 h2; simp; omega⟩
theorem InB.length {par ord : List Int} {k : Nat} (h : InB par ord k) : ord.length ≤ par.length + 1 := zq12 par.length ord h.nd h.range
theorem InB.step {par ord : List Int} {k : Nat} (h : InB par ord k) (hk : k < ord.length) : InB par (ord ++ kids par (rd ord k)) (k + 1) := by
 have hrk : rd ord (k : Int) = ord[k] := by
  unfold rd
  rw [Int.toNat_natCast, List.getD_eq_getElem?_getD, List.getElem?_eq_getElem hk]
  rfl
 have hnt : rd ord (k : Int) ∉ ord.take k := by
  rw [hrk]
  intro hm
  obtain ⟨i, hi, e⟩ := List.mem_iff_getElem.1 hm
  rw [List.getElem_take] at e
  have : i < k := by simp at hi; omega
  exact zq11 h.nd this hk e
 have htk : (ord ++ kids par (rd ord k)).take (k + 1) = ord.take k ++ [rd ord (k : Int)] := by
  rw [List.take_append_of_le_length (by omega), hrk, List.take_append_getElem]
 refine ⟨?_, by simp; omega, List.mem_append_left _ h.zero, ?_, ?_⟩
 ·refine List.nodup_append.2 ⟨h.nd, zq91 par _, ?_⟩
  intro a ha b hb e
  obtain ⟨h1, h2, h3⟩ := (zq90 par _ b).1 hb
  rw [e] at ha
  have := (h.has b h1 h2).1 ha
  rw [h3] at this
  exact hnt this
 ·intro v hv
  rcases List.mem_append.1 hv with h1 | h1
  ·exact h.range v h1
  ·obtain ⟨h2, h3, _⟩ := (zq90 par _ v).1 h1
   omega
 ·intro v h1 h2
  rw [htk, List.mem_append, List.mem_append, h.has v h1 h2, zq90, List.mem_singleton]
  constructor
  ·rintro (h3 | ⟨_, _, h3⟩)
   ·exact .inl h3
   ·exact .inr h3
  ·rintro (h3 | h3)
   ·exact .inl h3
   ·exact .inr ⟨h1, h2, h3⟩
def bfs (par : List Int) : Nat → List Int → Nat → List Int
 | 0, ord, _ => ord
 | d + 1, ord, k => if k < ord.length then bfs par d (ord ++ kids par (rd ord k)) (k + 1) else ord
theorem bfs_in (par : List Int) : ∀ (d : Nat) (ord : List Int) (k : Nat), InB par ord k → par.length + 1 ≤ k + d → InB par (bfs par d ord k) (bfs par d ord k).length
 | 0, ord, k, h, hd => by
  have := h.length
  have := h.le
  rw [bfs]
  have e : k = ord.length := by omega
  rw [e] at h
  exact h
 | d + 1, ord, k, h, hd => by
  rw [bfs]
  by_cases c : k < ord.length
  ·rw [if_pos c]
   exact bfs_in par d _ _ (h.step c) (by omega)
  ·rw [if_neg c]
   have := h.le
   have e : k = ord.length := by omega
   rw [e] at h
   exact h
def breadthS (par : List Int) : List Int := bfs par (par.length + 1) [0] 0
theorem zq92 (par : List Int) : (breadthS par).length ≤ par.length + 1 :=
 (bfs_in par (par.length + 1) [0] 0 (InB.first par) (by omega)).length

theorem zq93 (q : Int → Bool) : ∀ (t p out : List Int), p.length + t.length ≤ 1000000 → out.length ≤ p.length →
  Ev (fun k => impl_indices.l0 q k out (p ++ t) ((p ++ t).length : Int) (p.length : Int)) (out ++ places q t p.length)
 | [], p, out, _, _ => by
  refine Ev.ret fun k => ?_
  rw [impl_indices.l0, if_neg (by simp)]
  simp [places]
 | h :: t, p, out, hn, ho => by
  have hn' : p.length + t.length + 1 ≤ 1000000 := by simpa [Nat.add_assoc] using hn
  have hm := len_mid p h t
  cases c : q h with
  | true =>
   have ih := zq93 q t (p ++ [h]) (out ++ [(p.length : Int)]) (by simp; omega) (by simp; omega)
   rw [zq1, zq0] at ih
   have e : out ++ places q (h :: t) p.length = out ++ [(p.length : Int)] ++ places q t (p.length + 1) := by rw [places, if_pos c]; simp
   rw [e]
   refine Ev.step (fun k => ?_) ih
   show impl_indices.l0 q (k + 1) out (p ++ h :: t) ((p ++ h :: t).length : Int) (p.length : Int) = _
   rw [impl_indices.l0, if_pos (by omega), if_pos (by omega), if_pos (by omega), rd_mid, c, Option.bind_some, if_pos rfl, if_pos (by omega), w64 (by omega) (by omega)]
  | false =>
   have ih := zq93 q t (p ++ [h]) out (by simp; omega) (by simp; omega)
   rw [zq1, zq0] at ih
   have e : out ++ places q (h :: t) p.length = out ++ places q t (p.length + 1) := by rw [places, if_neg (by simp [c])]
   rw [e]
   refine Ev.step (fun k => ?_) ih
   show impl_indices.l0 q (k + 1) out (p ++ h :: t) ((p ++ h :: t).length : Int) (p.length : Int) = _
   rw [impl_indices.l0, if_pos (by omega), if_pos (by omega), if_pos (by omega), rd_mid, c, Option.bind_some, if_neg (by simp), w64 (by omega) (by omega)]
theorem zq94 (q : Int → Bool) (l : List Int) (hl : l.length ≤ 1000000) : Ev (fun k => impl_indices.f q k l) (places q l 0) := by
 have := zq93 q l [] [] (by simpa using hl) (by simp)
 exact this

theorem zq95 : ∀ (t p out : List Int), p.length + t.length ≤ 1000000 → out.length ≤ p.length → (∀ x ∈ t, 0 ≤ x ∧ x ≤ 4611686018427387904) →
  Ev (fun k => impl_children.l0 k out (p ++ t) ((p ++ t).length : Int) (p.length : Int)) (out ++ t.map (· + 1))
 | [], p, out, _, _, _ => by
  refine Ev.ret fun k => ?_
  rw [impl_children.l0, if_neg (by simp)]
  simp
 | h :: t, p, out, hn, ho, hx => by
  have hn' : p.length + t.length + 1 ≤ 1000000 := by simpa [Nat.add_assoc] using hn
  have hm := len_mid p h t
  have hh := hx h (by simp)
  have ih := zq95 t (p ++ [h]) (out ++ [h + 1]) (by simp; omega) (by simp; omega) (fun x h1 => hx x (by simp [h1]))
  rw [zq1, zq0] at ih
  have e : out ++ (h :: t).map (· + 1) = out ++ [h + 1] ++ t.map (· + 1) := by simp
  rw [e]
  refine Ev.step (fun k => ?_) ih
  show impl_children.l0 (k + 1) out (p ++ h :: t) ((p ++ h :: t).length : Int) (p.length : Int) = _
  rw [impl_children.l0, if_pos (by omega), if_pos (by omega), if_pos (by omega), rd_mid, if_pos (by omega), w64 (by omega) (by omega), w64 (by omega) (by omega)]
theorem zq96 (par : List Int) (v : Int) (hl : par.length ≤ 1000000) : Ev (fun k => impl_children.f k par v) (kids par v) := by
 have h1 : Ev (fun k => impl_children_1.f k par v) (places (fun p => decide (p = v)) par 0) := zq94 (impl_children_1.p v) par hl
 refine Ev.congr (fun k => rfl) (Ev.bind h1 ?_)
 have hlen : (places (fun p => decide (p = v)) par 0).length ≤ 1000000 := by
  have a := zq87 (fun p => decide (p = v)) par 0
  have b := zq86 (fun p => decide (p = v)) par
  omega
 refine zq95 (places (fun p => decide (p = v)) par 0) [] [] (by simpa using hlen) (by simp) fun x hx => ?_
 obtain ⟨j, w, h2, _, e⟩ := (zq88 _ _ _ _).1 hx
 have := (List.getElem?_eq_some_iff.1 h2).1
 omega

theorem zq97 (par : List Int) (hp : par.length ≤ 8) : ∀ (d : Nat) (ord : List Int) (k : Nat), InB par ord k → par.length + 1 ≤ k + d → k ≤ 100 →
  Ev (fun kk => impl_breadth.l0 kk par ord (k : Int)) (bfs par d ord k)
 | 0, ord, k, h, hd, hk => by
  have h1 := h.length
  refine Ev.ret fun kk => ?_
  rw [impl_breadth.l0, if_neg (by omega)]
  rfl
 | d + 1, ord, k, h, hd, hk => by
  rw [bfs]
  have h1 := h.length
  by_cases c : k < ord.length
  ·rw [if_pos c]
   have h2 := (h.step c).length
   rw [List.length_append] at h2
   have ih := zq97 par hp d _ (k + 1) (h.step c) (by omega) (by omega)
   rw [show ((k + 1 : Nat) : Int) = (k : Int) + 1 by omega] at ih
   refine Ev.step (f := fun kk => (impl_children.f kk par (rd ord k)).bind fun t => if ord.length + t.length < 17592186044416 then impl_breadth.l0 kk par (ord ++ t) (wrap64 ((k : Int) + 1)) else none) (fun kk => ?_) ?_
   ·rw [impl_breadth.l0, if_pos (by omega), if_pos (by omega)]
   ·refine Ev.bind (zq96 par _ (by omega)) ?_
    refine Ev.congr (fun kk => by rw [if_pos (by omega), w64 (by omega) (by omega)]) ih
  ·rw [if_neg c]
   refine Ev.ret fun kk => ?_
   rw [impl_breadth.l0, if_neg (by omega)]
theorem zq98 (par : List Int) (hp : par.length ≤ 8) : Ev (fun k => impl_breadth.f k par) (breadthS par) :=
 zq97 par hp (par.length + 1) [0] 0 (InB.first par) (by omega) (by omega)

theorem zq99 (par : List Int) : ∀ (d : Nat) (ord : List Int) (k : Nat), ∃ s, bfs par d (0 :: ord) k = 0 :: s
 | 0, ord, k => ⟨ord, rfl⟩
 | d + 1, ord, k => by
  rw [bfs]
  split
  ·exact zq99 par d (ord ++ kids par (rd (0 :: ord) k)) (k + 1)
  ·exact ⟨ord, rfl⟩

structure DepB (par ord : List Int) (k : Nat) : Prop where
 up : ord.Pairwise fun a b => dep par a ≤ dep par b
 near : ∀ h : k < ord.length, ∀ v ∈ ord, dep par v ≤ dep par ord[k] + 1
theorem DepB.first (par : List Int) : DepB par [0] 0 := ⟨by simp, fun _ v hv => by simp at hv; subst hv; simp⟩
theorem DepB.step {par ord : List Int} {k : Nat} (ht : isTr par = true) (h : DepB par ord k) (hk : k < ord.length) : DepB par (ord ++ kids par (rd ord k)) (k + 1) := by
 have hrk : rd ord (k : Int) = ord[k] := by
  unfold rd
  rw [Int.toNat_natCast, List.getD_eq_getElem?_getD, List.getElem?_eq_getElem hk]
  rfl
 have hkid : ∀ x ∈ kids par (rd ord k), dep par x = dep par ord[k] + 1 := fun x hx => by
  obtain ⟨h1, h2, h3⟩ := (zq90 par _ x).1 hx
  rw [zq15 par ht x h1 h2, h3, hrk]
 refine ⟨?_, fun hk2 v hv => ?_⟩
 ·refine List.pairwise_append.2 ⟨h.up, ?_, fun a ha b hb => ?_⟩
  ·refine (zq91 par _).imp_of_mem ?_
   intro a b ha hb _
   rw [hkid a ha, hkid b hb]
   exact Nat.le_refl _
  ·rw [hkid b hb]
   exact h.near hk a ha
 ·have hge : dep par ord[k] ≤ dep par (ord ++ kids par (rd ord k))[k + 1] := by
   rw [List.getElem_append]
   split
   ·rename_i h4
    exact List.pairwise_iff_getElem.1 h.up k (k + 1) hk h4 (by omega)
   ·rename_i h4
    rw [hkid _ (List.getElem_mem _)]
    omega
  rcases List.mem_append.1 hv with h3 | h3
  ·have := h.near hk v h3
   omega
  ·rw [hkid v h3]
   omega
theorem zq100 (par : List Int) (ht : isTr par = true) : ∀ (d : Nat) (ord : List Int) (k : Nat), DepB par ord k → (bfs par d ord k).Pairwise fun a b => dep par a ≤ dep par b
 | 0, ord, k, h => h.up
 | d + 1, ord, k, h => by
  rw [bfs]
  split
  ·rename_i c
   exact zq100 par ht d _ _ (h.step ht c)
  ·exact h.up

theorem zq101 (L : List Int) (hl : L.length ≤ 1000000) : ∀ (d i : Nat), i + d = L.length → Ev (fun k => laws_wSame.l0 k L L (L.length : Int) (i : Int)) true
 | 0, i, hd => Ev.ret fun k => by rw [laws_wSame.l0, if_neg (by omega)]
 | d + 1, i, hd => by
  have ih := zq101 L hl d (i + 1) (by omega)
  rw [show ((i + 1 : Nat) : Int) = (i : Int) + 1 by omega] at ih
  refine Ev.step (fun k => ?_) ih
  show laws_wSame.l0 (k + 1) L L (L.length : Int) (i : Int) = _
  rw [laws_wSame.l0, if_pos (by omega), if_pos (by omega), if_pos (by omega), if_pos (by omega), if_pos rfl, w64 (by omega) (by omega)]
theorem zq102 (L : List Int) (hl : L.length ≤ 1000000) : Ev (fun k => laws_wSame.f k L L) true :=
 Ev.congr (fun k => by rw [laws_wSame.f, if_pos rfl]; rfl) (zq101 L hl L.length 0 (by omega))

theorem zq103 (L : List (List Int)) (hl : L.length ≤ 1000000) (hx : ∀ x ∈ L, x.length ≤ 1000000) : ∀ (d i : Nat), i + d = L.length → Ev (fun k => laws_wSameLists.l0 k L L (L.length : Int) (i : Int)) true
 | 0, i, hd => Ev.ret fun k => by rw [laws_wSameLists.l0, if_neg (by omega)]
 | d + 1, i, hd => by
  have ih := zq103 L hl hx d (i + 1) (by omega)
  rw [show ((i + 1 : Nat) : Int) = (i : Int) + 1 by omega] at ih
  have hm : (rd_L2 L i).length ≤ 1000000 := by
   refine hx _ ?_
   unfold rd_L2
   rw [Int.toNat_natCast, List.getD_eq_getElem?_getD, List.getElem?_eq_getElem (by omega)]
   exact List.getElem_mem _
  refine Ev.step (fun k => by rw [laws_wSameLists.l0, if_pos (by omega), if_pos (by omega), if_pos (by omega), if_pos (by omega)]) (Ev.bind (zq102 (rd_L2 L i) hm) ?_)
  exact Ev.congr (fun k => by rw [if_pos rfl, w64 (by omega) (by omega)]) ih
theorem zq104 (L : List (List Int)) (hl : L.length ≤ 1000000) (hx : ∀ x ∈ L, x.length ≤ 1000000) : Ev (fun k => laws_wSameLists.f k L L) true :=
 Ev.congr (fun k => by rw [laws_wSameLists.f, if_pos rfl]; rfl) (zq103 L hl hx L.length 0 (by omega))

theorem zq105 : ∀ (t p : List Int) (a : Int), p.length + t.length ≤ 35184372088832 → 0 ≤ a → (∀ x ∈ t, 0 ≤ x ∧ x ≤ 1000) → a + 1000 * (t.length : Int) ≤ 9223372036854775807 →
  Ev (fun k => laws_wSum.l0 k a (p ++ t) ((p ++ t).length : Int) (p.length : Int)) (a + t.sum)
 | [], p, a, _, _, _, _ => by
  refine Ev.ret fun k => ?_
  rw [laws_wSum.l0, if_neg (by simp)]
  simp
 | h :: t, p, a, hn, ha, hb, hs => by
  have hn' : p.length + t.length + 1 ≤ 35184372088832 := by simpa [Nat.add_assoc] using hn
  have hm := len_mid p h t
  have hh := hb h (by simp)
  have hs' : a + 1000 * ((t.length : Int) + 1) ≤ 9223372036854775807 := by simpa using hs
  have ih := zq105 t (p ++ [h]) (a + h) (by simp; omega) (by omega) (fun x hx => hb x (by simp [hx])) (by omega)
  rw [zq1, zq0] at ih
  rw [List.sum_cons, ← Int.add_assoc]
  refine Ev.step (fun k => ?_) ih
  show laws_wSum.l0 (k + 1) a (p ++ h :: t) ((p ++ h :: t).length : Int) (p.length : Int) = _
  rw [laws_wSum.l0, if_pos (by omega), if_pos (by omega), if_pos (by omega), rd_mid, w64 (by omega) (by omega), w64 (by omega) (by omega)]
theorem zq106 (l : List Int) (hl : l.length ≤ 35184372088832) (hb : ∀ x ∈ l, 0 ≤ x ∧ x ≤ 1000) : Ev (fun k => laws_wSum.f k l) l.sum := by
 have h := zq105 l [] 0 (by simpa using hl) (by omega) hb (by omega)
 rw [Int.zero_add] at h
 exact h

theorem zq107 (par : List Int) (k : Nat) (h0 : 1 ≤ k) (hk : k < (breadthS par).length) : 1 ≤ rd (breadthS par) k ∧ rd (breadthS par) k ≤ par.length := by
 have hin := bfs_in par (par.length + 1) [0] 0 (InB.first par) (by omega)
 obtain ⟨s, hs⟩ := zq99 par (par.length + 1) [] 0
 have hs' : breadthS par = 0 :: s := hs
 have hk' : k < (bfs par (par.length + 1) [0] 0).length := hk
 have hr := hin.range (rd (breadthS par) k) (rd_mem (bfs par (par.length + 1) [0] 0) k (by omega) (by omega))
 have hnd : (breadthS par).Nodup := hin.nd
 refine ⟨?_, hr.2⟩
 have hne : rd (breadthS par) k ≠ 0 := by
  intro e
  rw [hs'] at e hnd
  obtain ⟨h1, _⟩ := List.nodup_cons.1 hnd
  rw [hs', List.length_cons] at hk
  obtain ⟨j, rfl⟩ : ∃ j, k = j + 1 := ⟨k - 1, by omega⟩
  rw [rd_nat, List.getD_cons_succ, List.getD_eq_getElem?_getD, List.getElem?_eq_getElem (by omega)] at e
  exact h1 (by rw [show (0 : Int) = s[j] from e.symm]; exact List.getElem_mem _)
 omega
theorem law_l3 (par : List Int) (hp : ∀ x ∈ par, 0 ≤ x ∧ x ≤ par.length) (hl : par.length ≤ 1000) (i j : Int) (hij : i < j) (h0 : 1 ≤ j) (x202 : List (List Int)) (x203 x204 : Int) (r : Bool) (h1 : 0 ≤ x204) (h2 : x204 ≤ 100000)
  (H : Ev (fun k => laws_FnTreesMeasured.l2 k par x202 x203 (x204 + 1)) r) : ∀ (m : Nat) (a : Int), 0 ≤ a → a ≤ par.length → (a = j ∨ j ∈ abv par m a) → Ev (fun k => laws_FnTreesMeasured.l3 k par i j a x202 x203 x204) r
 | m, a, ha0, ha1, h => by
  by_cases c : a = j
  ·refine Ev.step (fun k => ?_) H
   show laws_FnTreesMeasured.l3 (k + 1) par i j a x202 x203 x204 = _
   rw [laws_FnTreesMeasured.l3, if_pos (by omega), if_pos c, if_neg (by omega), w64 (by omega) (by omega)]
  ·have hm : j ∈ abv par m a := h.resolve_left c
   match m, hm with
   | 0, hm => simp [abv] at hm
   | m + 1, hm =>
    rw [abv] at hm
    split at hm
    ·have hr := hp _ (rd_mem par (a - 1) (by omega) (by omega))
     have ih := law_l3 par hp hl i j hij h0 x202 x203 x204 r h1 h2 H m (rd par (a - 1)) hr.1 hr.2 (by
      rcases List.mem_cons.1 hm with e | e
      ·exact .inl e.symm
      ·exact .inr e)
     refine Ev.step (fun k => ?_) ih
     show laws_FnTreesMeasured.l3 (k + 1) par i j a x202 x203 x204 = _
     rw [laws_FnTreesMeasured.l3, if_pos (by omega), if_neg c, w64 (by omega) (by omega), if_pos (by omega), if_pos (by omega)]
    ·simp at hm
theorem law_l2 (par : List Int) (hp : ∀ x ∈ par, 0 ≤ x ∧ x ≤ par.length) (hl : par.length ≤ 1000) (x202 : List (List Int)) (hx : ∀ p ∈ x202, okPair par p) (hxl : x202.length ≤ 10000) : ∀ (d i : Nat), i + d = x202.length → Ev (fun k => laws_FnTreesMeasured.l2 k par x202 (x202.length : Int) (i : Int)) true
 | 0, i, hd => Ev.ret fun k => by rw [laws_FnTreesMeasured.l2, if_neg (by omega)]
 | d + 1, i, hd => by
  have ih := law_l2 par hp hl x202 hx hxl d (i + 1) (by omega)
  rw [show ((i + 1 : Nat) : Int) = (i : Int) + 1 by omega] at ih
  have hm : rd_L2 x202 i ∈ x202 := by
   unfold rd_L2
   rw [Int.toNat_natCast, List.getD_eq_getElem?_getD, List.getElem?_eq_getElem (by omega)]
   exact List.getElem_mem _
  obtain ⟨a, j, e, h1, h2, h3, h4⟩ := hx _ hm
  refine Ev.step (f := fun k => laws_FnTreesMeasured.l3 k par a j a x202 (x202.length : Int) (i : Int)) (fun k => ?_) (law_l3 par hp hl a j h3 (by omega) x202 _ _ true (by omega) (by omega) ih par.length a (by omega) h2 (.inr h4))
  rw [laws_FnTreesMeasured.l2, if_pos (by omega), if_pos (by omega), if_pos (by omega), e, if_pos (by simp), if_pos (by simp)]
  rfl
theorem law_l1 (par : List Int) (ht : isTr par = true) (x6 : List (List Int)) (H : Ev (fun k => laws_FnTreesMeasured.l2 k par x6 (x6.length : Int) 0) true) : ∀ (d i : Nat), i + d = par.length → Ev (fun k => laws_FnTreesMeasured.l1 k par x6 (depS par par.length 0) par (par.length : Int) (i : Int)) true
 | 0, i, hd => Ev.step (fun k => by rw [laws_FnTreesMeasured.l1, if_neg (by omega)]) H
 | d + 1, i, hd => by
  obtain ⟨h8, h2, _⟩ := (zq14 par).1 ht
  have ih := law_l1 par ht x6 H d (i + 1) (by omega)
  rw [show ((i + 1 : Nat) : Int) = (i : Int) + 1 by omega] at ih
  have hp := h2 (rd par i) (rd_mem par i (by omega) (by omega))
  have hdl := zq68 par par.length 0
  have hdi := rd_depS par ((i : Int) + 1) (by omega) (by omega)
  rw [show (i : Int) + 1 - 1 = (i : Int) by omega] at hdi
  have hst := zq15 par ht ((i : Int) + 1) (by omega) (by omega)
  rw [show (i : Int) + 1 - 1 = (i : Int) by omega] at hst
  by_cases c : rd par i = 0
  ·have hz : dep par ((i : Int) + 1) = 1 := by rw [hst, c, zq40]
   refine Ev.step (fun k => ?_) ih
   show laws_FnTreesMeasured.l1 (k + 1) par x6 (depS par par.length 0) par (par.length : Int) (i : Int) = _
   rw [laws_FnTreesMeasured.l1, if_pos (by omega), if_pos (by omega), if_pos (by omega), if_pos c, if_pos (by omega), hdi, if_pos (by omega), if_neg (by omega), w64 (by omega) (by omega)]
  ·have hdp := rd_depS par (rd par i) (by omega) hp.2
   have hle : dep par (rd par i) ≤ par.length := hgt_le par par.length _
   refine Ev.step (fun k => ?_) ih
   show laws_FnTreesMeasured.l1 (k + 1) par x6 (depS par par.length 0) par (par.length : Int) (i : Int) = _
   rw [laws_FnTreesMeasured.l1, if_pos (by omega), if_pos (by omega), if_pos (by omega), if_neg c, if_pos (by omega), if_pos (by omega), w64 (x := rd par i - 1) (by omega) (by omega), if_pos (by omega), if_pos (by omega), hdi, hdp, w64 (x := (dep par (rd par i) : Int) + 1) (by omega) (by omega), if_pos (by omega), w64 (by omega) (by omega)]
theorem law_l0 (par : List Int) (ht : isTr par = true) (x6 : List (List Int)) (H : Ev (fun k => laws_FnTreesMeasured.l1 k par x6 (depS par par.length 0) par (par.length : Int) 0) true) : ∀ (d k9 : Nat), 2 ≤ k9 → k9 + d = max 2 (breadthS par).length → Ev (fun k => laws_FnTreesMeasured.l0 k par x6 (depS par par.length 0) (breadthS par) (k9 : Int)) true
 | 0, k9, h0, hd => Ev.step (fun k => by rw [laws_FnTreesMeasured.l0, if_neg (by omega)]) H
 | d + 1, k9, h0, hd => by
  obtain ⟨h8, h2, _⟩ := (zq14 par).1 ht
  have hbl := zq92 par
  have ih := law_l0 par ht x6 H d (k9 + 1) (by omega) (by omega)
  rw [show ((k9 + 1 : Nat) : Int) = (k9 : Int) + 1 by omega] at ih
  have hdl := zq68 par par.length 0
  have hk : k9 < (breadthS par).length := by omega
  have n1 := zq107 par k9 (by omega) hk
  have n2 := zq107 par (k9 - 1) (by omega) (by omega)
  have e9 : ((k9 - 1 : Nat) : Int) = (k9 : Int) - 1 := by omega
  rw [e9] at n2
  have d1 := rd_depS par _ n1.1 n1.2
  have d2 := rd_depS par _ n2.1 n2.2
  have hup := zq100 par ht (par.length + 1) [0] 0 (DepB.first par)
  have hle := List.pairwise_iff_getElem.1 hup (k9 - 1) k9 (by show k9 - 1 < (breadthS par).length; omega) hk (by omega)
  have g1 : rd (breadthS par) k9 = (breadthS par)[k9] := by rw [rd_nat, List.getD_eq_getElem?_getD, List.getElem?_eq_getElem hk]; rfl
  have g2 : rd (breadthS par) ((k9 : Int) - 1) = (breadthS par)[k9 - 1] := by rw [← e9, rd_nat, List.getD_eq_getElem?_getD, List.getElem?_eq_getElem (by omega)]; rfl
  have hle' : dep par (rd (breadthS par) ((k9 : Int) - 1)) ≤ dep par (rd (breadthS par) k9) := by rw [g1, g2]; exact hle
  refine Ev.step (fun k => ?_) ih
  show laws_FnTreesMeasured.l0 (k + 1) par x6 (depS par par.length 0) (breadthS par) (k9 : Int) = _
  rw [laws_FnTreesMeasured.l0, w64 (x := (k9 : Int) - 1) (by omega) (by omega), w64 (x := rd (breadthS par) k9 - 1) (by omega) (by omega), w64 (x := rd (breadthS par) ((k9 : Int) - 1) - 1) (by omega) (by omega), if_pos (by omega), if_pos (by omega), if_pos (by omega), if_pos (by omega), if_pos (by omega), if_pos (by omega), if_pos (by omega), if_pos (by omega), d1, d2, if_neg (by omega), w64 (by omega) (by omega)]
theorem FnTreesMeasured : laws_FnTreesMeasured.Pure := by
 intro l0 l1 hm0 _ hw0 hm1 _ _
 have hbig : ∃ b, laws_big.f l0 l1 = some b ∧ (b = false → l0.length ≤ 1048576) := by
  unfold laws_big.f
  by_cases c : (l0.length : Int) > 1048576
  ·rw [if_pos c]; exact ⟨true, rfl, fun h => by cases h⟩
  ·rw [if_neg c]; exact ⟨_, rfl, fun _ => by omega⟩
 obtain ⟨b, hb, hb2⟩ := hbig
 cases b with
 | true => exact ⟨0, by rw [laws_FnTreesMeasured.f, hb]; rfl⟩
 | false =>
  have hlen := hb2 rfl
  have hc : ∀ x ∈ l0, 0 ≤ x ∧ x ≤ 255 := fun x hx => by
   have := hw0 x hx
   simpa [Lit.wf, IntKind.min, IntKind.max, IntKind.signed, IntKind.bits] using this
  obtain ⟨par, a_, s_, hpl, _, hT⟩ := zq25 l0 hc 0 0 8 (by omega) 0 ⟨by omega, by omega⟩ (by omega)
  have hD : Ev (fun k => spec_DrawInversionPairs.f k l0) par := Ev.bind hT (Ev.now _)
  refine Ev.rounds ?_
  refine Ev.congr (fun k => by rw [laws_FnTreesMeasured.f, hb, Option.bind_some, if_neg (by simp)]) ?_
  refine Ev.bind hD ?_
  cases c : isTr par with
  | false =>
   have hi := zq67 par (by omega)
   have hs := zq59 par (by omega)
   rw [c] at hi hs
   have e1 : Ev (fun k => impl_InversionPairs.f k par) (([] : List (List Int)), false) := Ev.congr (fun k => rfl) (Ev.bind hi (Ev.congr (fun k => if_neg (by simp)) (Ev.now _)))
   have e2 : Ev (fun k => spec_InversionPairs.f k par) (([] : List (List Int)), false) := Ev.congr (fun k => rfl) (Ev.bind hs (Ev.congr (fun k => if_neg (by simp)) (Ev.now _)))
   have e3 : Ev (fun k => impl_InversionsOf.f k par) ((0 : Int), false) := Ev.congr (fun k => rfl) (Ev.bind hi (Ev.congr (fun k => if_neg (by simp)) (Ev.now _)))
   have e4 : Ev (fun k => impl_DepthsOf.f k par) (([] : List Int), false) := Ev.congr (fun k => rfl) (Ev.bind hi (Ev.congr (fun k => if_neg (by simp)) (Ev.now _)))
   have e5 : Ev (fun k => spec_DepthsOf.f k par) (([] : List Int), false) := Ev.congr (fun k => rfl) (Ev.bind hs (Ev.congr (fun k => if_neg (by simp)) (Ev.now _)))
   have e6 : Ev (fun k => impl_BelowCounts.f k par) (([] : List Int), false) := Ev.congr (fun k => rfl) (Ev.bind hi (Ev.congr (fun k => if_neg (by simp)) (Ev.now _)))
   have e7 : Ev (fun k => spec_BelowCounts.f k par) (([] : List Int), false) := Ev.congr (fun k => rfl) (Ev.bind hs (Ev.congr (fun k => if_neg (by simp)) (Ev.now _)))
   refine Ev.bind e1 (Ev.bind e2 (Ev.bind e3 (Ev.bind e4 (Ev.bind e5 (Ev.bind e6 (Ev.bind e7 ?_))))))
   refine Ev.congr (fun k => by rw [if_neg (by simp)]) (Ev.bind (zq104 [] (by simp) (by simp)) ?_)
   refine Ev.congr (fun k => by rw [if_pos rfl, if_neg (by simp), if_neg (by simp)]) (Ev.bind (zq102 [] (by simp)) ?_)
   refine Ev.congr (fun k => by rw [if_pos rfl, if_neg (by simp)]) (Ev.bind (zq102 [] (by simp)) ?_)
   refine Ev.congr (fun k => by rw [if_pos rfl, if_neg (by simp)]) ?_
   exact Ev.ret fun k => by rw [laws_FnTreesMeasured.j0, if_neg (by simp), if_neg (by simp)]
  | true =>
   obtain ⟨h8, h2, h3⟩ := (zq14 par).1 c
   have hi := zq67 par (by omega)
   have hs := zq59 par (by omega)
   rw [c] at hi hs
   have hok := zq52 par par.length 1 [] (by omega) (by omega) (by simp)
   have hrl := zq53 par par.length 1 []
   have hsq : par.length * par.length ≤ 8 * 8 := Nat.mul_le_mul h8 h8
   have hdl := zq68 par par.length 0
   have hbl := zq76 par par.length 0 (List.replicate (par.length + 1) 0)
   rw [List.length_replicate] at hbl
   obtain ⟨hsum, hzero⟩ := zq78 par c par.length 0 (List.replicate (par.length + 1) 0) (by omega) (by simp)
   have hs0 : (List.replicate (par.length + 1) (0 : Int)).sum = 0 := by
    have : ∀ n : Nat, (List.replicate n (0 : Int)).sum = 0 := fun n => by induction n with
     | zero => rfl
     | succ n ih => rw [List.replicate_succ, List.sum_cons, ih]; rfl
    exact this _
   have hz0 : rd (List.replicate (par.length + 1) (0 : Int)) 0 = 0 := rfl
   rw [hs0, Int.zero_add] at hsum
   rw [hz0, Int.zero_add] at hzero
   have e1 : Ev (fun k => impl_InversionPairs.f k par) (rowsS par par.length 1 [], true) := Ev.congr (fun k => rfl) (Ev.bind hi (Ev.congr (fun k => if_pos rfl) (Ev.bind (zq51 par c) (Ev.now _))))
   have e2 : Ev (fun k => spec_InversionPairs.f k par) (rowsS par par.length 1 [], true) := Ev.congr (fun k => rfl) (Ev.bind hs (Ev.congr (fun k => if_pos rfl) (Ev.bind (zq48 par c) (Ev.now _))))
   have e3 : Ev (fun k => impl_InversionsOf.f k par) (((rowsS par par.length 1 []).length : Int), true) := Ev.congr (fun k => rfl) (Ev.bind hi (Ev.congr (fun k => if_pos rfl) (Ev.bind (zq51 par c) (Ev.now _))))
   have e4 : Ev (fun k => impl_DepthsOf.f k par) (depS par par.length 0, true) := Ev.congr (fun k => rfl) (Ev.bind hi (Ev.congr (fun k => if_pos rfl) (zq70 par c par.length 0 [] (by omega) (by simp))))
   have e5 : Ev (fun k => spec_DepthsOf.f k par) (depS par par.length 0, true) := Ev.congr (fun k => rfl) (Ev.bind hs (Ev.congr (fun k => if_pos rfl) (zq71 par c par.length 0 [] (by omega) (by simp))))
   have e6 := zq82 par (by omega) c
   have e7 := zq85 par (by omega) c
   have hdb : ∀ x ∈ depS par par.length 0, 0 ≤ x ∧ x ≤ 1000 := fun x hx => by
    obtain ⟨j, hj, rfl⟩ := List.mem_iff_getElem.1 hx
    have := zq69 par par.length 0 j (by omega)
    rw [List.getD_eq_getElem?_getD, List.getElem?_eq_getElem hj] at this
    have e : (depS par par.length 0)[j] = (dep par (((0 + j : Nat) : Int) + 1) : Int) := this
    rw [e]
    have : dep par (((0 + j : Nat) : Int) + 1) ≤ par.length := hgt_le par par.length _
    omega
   have hbb : ∀ x ∈ belS par par.length 0 (List.replicate (par.length + 1) 0), 0 ≤ x ∧ x ≤ 1000 := fun x hx => by
    have := zq79 par h8 par.length 0 _ (fun y hy => by have := (List.mem_replicate.1 hy).2; omega) x hx
    omega
   generalize belS par par.length 0 (List.replicate (par.length + 1) 0) = bel at *
   refine Ev.bind e1 (Ev.bind e2 (Ev.bind e3 (Ev.bind e4 (Ev.bind e5 (Ev.bind e6 (Ev.bind e7 ?_))))))
   refine Ev.congr (fun k => by rw [if_neg (by simp)]) (Ev.bind (zq104 (rowsS par par.length 1 []) (by simp at hrl; omega) (fun x hx => by obtain ⟨i, j, e, _⟩ := hok x hx; rw [e]; simp)) ?_)
   refine Ev.congr (fun k => by rw [if_pos rfl, if_neg (by simp), if_neg (by simp)]) (Ev.bind (zq102 (depS par par.length 0) (by omega)) ?_)
   refine Ev.congr (fun k => by rw [if_pos rfl, if_neg (by simp)]) (Ev.bind (zq102 bel (by omega)) ?_)
   refine Ev.congr (fun k => by rw [if_pos rfl, if_neg (by simp)]) ?_
   refine Ev.step (fun k => by rw [laws_FnTreesMeasured.j0, if_neg (by simp), if_pos rfl, if_pos rfl]) ?_
   refine Ev.bind (zq106 (depS par par.length 0) (by omega) hdb) ?_
   refine Ev.bind (zq106 bel (by omega) hbb) ?_
   refine Ev.congr (fun k => by rw [if_pos hsum.symm, if_pos (show (0 : Int) < (bel.length : Int) by omega)]) ?_
   refine Ev.step (fun k => by rw [laws_FnTreesMeasured.j1, if_neg (by rw [hzero]; simp)]) ?_
   have eb : Ev (fun k => impl_BreadthOrder.f k par) (breadthS par, true) := Ev.congr (fun k => rfl) (Ev.bind hi (Ev.congr (fun k => if_pos rfl) (Ev.bind (zq98 par h8) (Ev.now _))))
   refine Ev.bind eb ?_
   refine Ev.congr (fun k => by rw [if_pos rfl]) ?_
   refine law_l0 par c _ ?_ ((breadthS par).length - 2) 2 (by omega) (by omega)
   refine law_l1 par c _ ?_ par.length 0 (by omega)
   exact law_l2 par h2 (by omega) (rowsS par par.length 1 []) hok (by simp at hrl; omega) (rowsS par par.length 1 []).length 0 (by omega)

end Go.Proofs.Ytfgkcgedkhpigaa.Pure
