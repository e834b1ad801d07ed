/- Favourites and trees are carried to each other by breadth, for every drawn list and tree, and the reference agrees. -/
import Derived.Test.YtclmhdoecbjppaaVFnParkingIsTreesSized
import Derived.Test.YtclmhdoecbjppaaPFnParkingIsTreesx
import Derived.Laws.BitsLemmas
import Derived.Lib.EndianBits
namespace Go.Proofs.Ytclmhdoecbjppaa.PrintWords
set_option linter.defProp false in
def sized_ints := @Go.Proofs.YtclmhdoecbjppaaW.PrintWords.sized_ints
end Go.Proofs.Ytclmhdoecbjppaa.PrintWords
namespace Go.Proofs.Ytclmhdoecbjppaa.Pure
open Go.RowKit Go.Proofs.Ytclmhdoecbjppaa.PFnParkingIsTrees Go.Proofs.YtclmhdoecbjppaaW.PrintWords Go.Proofs.YtclmhdoecbjppaaW.PrintLast
set_option linter.unusedVariables false
set_option linter.unusedSimpArgs false

theorem w64 {x : Int} (h0 : -9223372036854775808 ≤ x) (h1 : x ≤ 9223372036854775807) : wrap64 x = x := by
 unfold wrap64
 omega
theorem rd_mid (p : List Int) (h : Int) (t : List Int) : rd (p ++ h :: t) (p.length : Int) = h := by
 unfold rd
 simp
theorem rd_nat (l : List Int) (i : Nat) : rd l (i : Int) = l.getD i 0 := by
 unfold rd
 simp
theorem Ev.ret {α : Type} {g : Nat → Option α} {r : α} (h : ∀ k, g (k + 1) = some r) : Ev g r :=
 Ev.step (f := fun _ => some r) h (Ev.now r)

theorem zq0 (p : List Int) (h : Int) : (((p ++ [h]).length : Nat) : Int) = (p.length : Int) + 1 := by simp
theorem zq1 (p : List Int) (h : Int) (t : List Int) : (p ++ [h]) ++ t = p ++ h :: t := by simp
theorem len_mid (p : List Int) (h : Int) (t : List Int) : ((p ++ h :: t).length : Int) = (p.length : Int) + t.length + 1 := by simp; omega

theorem zq2 (a b : List Int) (i : Int) (h0 : 0 ≤ i) (h1 : i < a.length) : rd (a ++ b) i = rd a i := by
 unfold rd
 rw [List.getD_eq_getElem?_getD, List.getD_eq_getElem?_getD, List.getElem?_append_left (by omega)]

def seek (out : List Int) : Nat → Int → Int
 | 0, _ => -1
 | d + 1, x => if x ∈ out then seek out d (x + 1) else x
theorem zq3 (out : List Int) : ∀ (d : Nat) (x : Int), seek out d x = -1 ∨ x ≤ seek out d x ∧ seek out d x < x + d ∧ seek out d x ∉ out
 | 0, x => .inl rfl
 | d + 1, x => by
  simp only [seek]
  by_cases c : x ∈ out
  ·rw [if_pos c]
   rcases zq3 out d (x + 1) with h | ⟨h1, h2, h3⟩
   ·exact .inl h
   ·exact .inr ⟨by omega, by omega, h3⟩
  ·rw [if_neg c]
   exact .inr ⟨by omega, by omega, c⟩
def driveS (places : Int) (out : List Int) : List Int → List Int
 | [] => out
 | c :: t => driveS places (out ++ [seek out (places - c).toNat c]) t
theorem zq4 (places : Int) : ∀ (t out : List Int), ∃ s, s.length = t.length ∧ driveS places out t = out ++ s
 | [], out => ⟨[], rfl, by simp [driveS]⟩
 | c :: t, out => by
  obtain ⟨s, hl, h⟩ := zq4 places t (out ++ [seek out (places - c).toNat c])
  exact ⟨seek out (places - c).toNat c :: s, by simp [hl], by rw [driveS, h]; simp⟩
theorem zq5 (places : Int) (t out : List Int) : (driveS places out t).length = out.length + t.length := by
 obtain ⟨s, hl, h⟩ := zq4 places t out
 rw [h]; simp [hl]
def Tk (places : Int) (out : List Int) (taken : List Bool) : Prop :=
 (taken.length : Int) = places ∧ ∀ j : Nat, (j : Int) < places → taken.getD j false = decide ((j : Int) ∈ out)
theorem Tk.at {places : Int} {out : List Int} {taken : List Bool} (h : Tk places out taken) (x : Int) (h0 : 0 ≤ x) (h1 : x < places) : rdOf false taken x = decide (x ∈ out) := by
 have := h.2 x.toNat (by omega)
 have e : ((x.toNat : Nat) : Int) = x := by omega
 rw [e] at this
 exact this
theorem Tk.take {places : Int} {out : List Int} {taken : List Bool} (h : Tk places out taken) (x : Int) (h0 : 0 ≤ x) (h1 : x < places) : Tk places (out ++ [x]) (taken.set x.toNat true) := by
 refine ⟨by simp [h.1], fun j hj => ?_⟩
 have hl := h.1
 have hx : x.toNat < taken.length := by omega
 have hjl : j < taken.length := by omega
 have e := h.2 j hj
 rw [List.getD_eq_getElem?_getD] at e ⊢
 by_cases c : x.toNat = j
 ·rw [c, List.getElem?_set_self (by omega)]
  have : (j : Int) ∈ out ++ [x] := by simp; right; omega
  simp [this]
 ·rw [List.getElem?_set_ne c, e]
  refine decide_eq_decide.2 ?_
  have : (j : Int) ≠ x := by omega
  simp [this]
theorem Tk.none (places : Int) (h0 : 0 ≤ places) : Tk places [] (List.replicate places.toNat false) := by
 refine ⟨by simp; omega, fun j hj => ?_⟩
 rw [List.getD_eq_getElem?_getD, List.getElem?_replicate]
 split <;> simp

def inAll (lo hi : Int) (l : List Int) : Bool := l.all fun n => decide (lo ≤ n) && decide (n ≤ hi)
theorem zq6 (lo hi : Int) (l : List Int) : inAll lo hi l = true ↔ ∀ x ∈ l, lo ≤ x ∧ x ≤ hi := by
 simp [inAll, List.all_eq_true]
theorem zq7 (lo hi x : Int) (l : List Int) : inAll lo hi (x :: l) = ((decide (lo ≤ x) && decide (x ≤ hi)) && inAll lo hi l) := by
 simp [inAll]

def pf (l : List Int) : Bool := decide (l.length ≤ 8) && (inAll 0 ((l.length : Int) - 1) l && !(decide ((-1 : Int) ∈ driveS l.length [] l)))
theorem pf_iff (l : List Int) : pf l = true ↔ l.length ≤ 8 ∧ (∀ x ∈ l, 0 ≤ x ∧ x ≤ (l.length : Int) - 1) ∧ (-1 : Int) ∉ driveS l.length [] l := by
 simp only [pf, Bool.and_eq_true, decide_eq_true_eq, zq6, Bool.not_eq_true', decide_eq_false_iff_not]
theorem zq8 (places : Int) : ∀ (t out : List Int), (∃ c ∈ t, places ≤ c) → (-1 : Int) ∈ driveS places out t
 | [], out, h => by obtain ⟨c, hc, _⟩ := h; cases hc
 | c :: t, out, h => by
  rw [driveS]
  by_cases d : places ≤ c
  ·rw [show (places - c).toNat = 0 by omega]
   obtain ⟨s, _, hs⟩ := zq4 places t (out ++ [seek out 0 c])
   rw [hs]
   simp [seek]
  ·refine zq8 places t _ ?_
   obtain ⟨x, hx, h1⟩ := h
   rcases List.mem_cons.1 hx with rfl | h2
   ·exact absurd h1 d
   ·exact ⟨x, h2, h1⟩

def cnt (q : Int → Bool) : List Int → Int
 | [] => 0
 | h :: t => (if q h = true then 1 else 0) + cnt q t
theorem zq9 (q : Int → Bool) : ∀ l : List Int, 0 ≤ cnt q l ∧ cnt q l ≤ l.length
 | [] => by simp [cnt]
 | h :: t => by
  have := zq9 q t
  have e : ((h :: t).length : Int) = (t.length : Int) + 1 := by simp
  simp only [cnt]
  rw [e]
  split <;> omega
theorem zq10 (q : Int → Bool) : ∀ a b : List Int, cnt q (a ++ b) = cnt q a + cnt q b
 | [], b => by simp [cnt]
 | h :: t, b => by simp only [List.cons_append, cnt, zq10 q t b]; omega

def climb (par : List Int) : Nat → Int → Bool
 | 0, a => decide (a ≤ 0)
 | m + 1, a => if a > 0 then climb par m (rd par (a - 1)) else true
theorem zq11 (par : List Int) : ∀ (m : Nat) (a : Int), climb par m a = true → climb par (m + 1) a = true
 | 0, a, h => by
  simp only [climb, decide_eq_true_eq] at h
  simp only [climb]
  rw [if_neg (by omega)]
 | m + 1, a, h => by
  rw [climb]
  by_cases c : a > 0
  ·rw [if_pos c]
   rw [climb, if_pos c] at h
   exact zq11 par m _ h
  ·rw [if_neg c]
def up (par : List Int) : Nat → Int → Int
 | 0, a => a
 | m + 1, a => up par m (rd par (a - 1))
theorem zq12 (par : List Int) : ∀ (m : Nat) (a : Int), climb par m a = true ↔ ∃ j, j ≤ m ∧ up par j a ≤ 0
 | 0, a => by
  simp only [climb, decide_eq_true_eq]
  constructor
  ·exact fun h => ⟨0, Nat.le_refl _, h⟩
  ·rintro ⟨j, hj, h⟩
   obtain rfl : j = 0 := by omega
   exact h
 | m + 1, a => by
  rw [climb]
  by_cases c : a > 0
  ·rw [if_pos c, zq12 par m]
   constructor
   ·rintro ⟨j, hj, h⟩
    exact ⟨j + 1, by omega, h⟩
   ·rintro ⟨j, hj, h⟩
    cases j with
    | zero => exact absurd h (by simp only [up]; omega)
    | succ j => exact ⟨j, by omega, h⟩
  ·rw [if_neg c]
   exact ⟨fun _ => ⟨0, by omega, by simp only [up]; omega⟩, fun _ => rfl⟩
theorem up_add (par : List Int) : ∀ (i j : Nat) (a : Int), up par (i + j) a = up par j (up par i a)
 | 0, j, a => by rw [Nat.zero_add]; rfl
 | i + 1, j, a => by
  rw [Nat.add_right_comm]
  exact up_add par i j (rd par (a - 1))
theorem zq13 : ∀ (n : Nat) (f : Nat → Int), (∀ i, i ≤ n → 1 ≤ f i ∧ f i ≤ n) → ∃ i j, i < j ∧ j ≤ n ∧ f i = f j
 | 0, f, h => by have := h 0 (by omega); omega
 | n + 1, f, h => by
  by_cases c : ∃ i, i ≤ n ∧ f i = f (n + 1)
  ·obtain ⟨i, hi, e⟩ := c
   exact ⟨i, n + 1, by omega, by omega, e⟩
  ·
   let g : Nat → Int := fun i => if f i > f (n + 1) then f i - 1 else f i
   have hg : ∀ i, i ≤ n → 1 ≤ g i ∧ g i ≤ n := by
    intro i hi
    have h1 := h i (by omega)
    have h2 := h (n + 1) (by omega)
    have h3 : f i ≠ f (n + 1) := fun e => c ⟨i, hi, e⟩
    show 1 ≤ (if f i > f (n + 1) then f i - 1 else f i) ∧ (if f i > f (n + 1) then f i - 1 else f i) ≤ n
    split <;> omega
   obtain ⟨i, j, hij, hj, e⟩ := zq13 n g hg
   have h3 : f i ≠ f (n + 1) := fun e => c ⟨i, by omega, e⟩
   have h4 : f j ≠ f (n + 1) := fun e => c ⟨j, by omega, e⟩
   refine ⟨i, j, hij, by omega, ?_⟩
   have e' : (if f i > f (n + 1) then f i - 1 else f i) = (if f j > f (n + 1) then f j - 1 else f j) := e
   split at e' <;> split at e' <;> omega
theorem zq14 (par : List Int) (hp : ∀ x ∈ par, 0 ≤ x ∧ x ≤ par.length) (a : Int) (ha0 : 0 ≤ a) (ha : a ≤ par.length) (h : climb par (par.length + 1) a = true) : climb par par.length a = true := by
 rw [zq12] at h ⊢
 obtain ⟨j, hj, hu⟩ := h
 by_cases c : ∃ i, i ≤ par.length ∧ up par i a ≤ 0
 ·exact c
 ·exfalso
  have hpos : ∀ i, i ≤ par.length → 1 ≤ up par i a := fun i hi => by
   have : ¬ up par i a ≤ 0 := fun e => c ⟨i, hi, e⟩
   omega
  have hle : ∀ i, i ≤ par.length → up par i a ≤ par.length := by
   intro i
   induction i with
   | zero => intro _; exact ha
   | succ i ih =>
    intro hi
    have h1 := hpos i (by omega)
    have h2 := ih (by omega)
    rw [up_add par i 1]
    have hr : rd par (up par i a - 1) ∈ par := by
     unfold rd
     rw [List.getD_eq_getElem?_getD, List.getElem?_eq_getElem (by omega)]
     exact List.getElem_mem _
    exact (hp _ hr).2
  obtain ⟨i, k, hik, hk, e⟩ := zq13 par.length (fun i => up par i a) (fun i hi => ⟨hpos i hi, hle i hi⟩)
  have e : up par i a = up par k a := e
  -- j = n + 1: the same place stood earlier
  have hj' : j = par.length + 1 := by
   rcases Nat.lt_or_ge par.length j with h1 | h1
   ·omega
   ·exact absurd ⟨j, h1, hu⟩ c
  have e2 : up par j a = up par (i + (j - k)) a := by
   rw [show j = k + (j - k) by omega, up_add par k, up_add par i, ← e]
   congr 1
   omega
  have := hpos (i + (j - k)) (by omega)
  omega
def isTr (par : List Int) : Bool := decide (par.length ≤ 8) && inAll 0 par.length par && (List.range par.length).all fun i => climb par par.length ((i : Int) + 1)

theorem zq15 (P : Int) : ∀ (t out : List Int), out.Nodup → (-1 : Int) ∉ driveS P out t → (driveS P out t).Nodup
 | [], out, h, _ => h
 | c :: t, out, h, hn => by
  rw [driveS] at hn ⊢
  obtain ⟨s, _, hs⟩ := zq4 P t (out ++ [seek out (P - c).toNat c])
  have hm : seek out (P - c).toNat c ∈ driveS P (out ++ [seek out (P - c).toNat c]) t := by rw [hs]; simp
  refine zq15 P t _ ?_ hn
  rcases zq3 out (P - c).toNat c with h5 | ⟨_, _, h5⟩
  ·exact absurd (by rw [← h5]; exact hm) hn
  ·rw [List.nodup_append]
   refine ⟨h, by simp, fun a ha b hb => ?_⟩
   rw [List.mem_singleton] at hb
   rw [hb]
   exact fun e => h5 (e ▸ ha)
theorem zq16 (P k : Int) : ∀ (t out : List Int), (-1 : Int) ∉ driveS P out t → cnt (fun x => decide (x < k)) (driveS P out t) ≤ cnt (fun x => decide (x < k)) out + cnt (fun x => decide (x < k)) t
 | [], out, _ => by simp [driveS, cnt]
 | c :: t, out, hn => by
  rw [driveS] at hn ⊢
  obtain ⟨s, _, hs⟩ := zq4 P t (out ++ [seek out (P - c).toNat c])
  have hm : seek out (P - c).toNat c ∈ driveS P (out ++ [seek out (P - c).toNat c]) t := by rw [hs]; simp
  have ih := zq16 P k t (out ++ [seek out (P - c).toNat c]) hn
  rw [zq10] at ih
  have h4 : c ≤ seek out (P - c).toNat c := by
   rcases zq3 out (P - c).toNat c with h5 | ⟨h5, _, _⟩
   ·exact absurd (by rw [← h5]; exact hm) hn
   ·exact h5
  have e : cnt (fun x => decide (x < k)) [seek out (P - c).toNat c] ≤ (if decide (c < k) = true then 1 else 0) := by
   simp only [cnt]
   by_cases d : seek out (P - c).toNat c < k
   ·rw [if_pos (by simpa using d), if_pos (by simp; omega)]
    omega
   ·rw [if_neg (by simpa using d)]
    split <;> omega
  simp only [cnt] at ih e ⊢
  omega
theorem zq17 (s : List Int) (a : Int) (m : Nat) (hn : s.Nodup) (hr : ∀ x ∈ s, a ≤ x ∧ x < a + m) : s.length ≤ m := by
 rcases Nat.lt_or_ge m s.length with h | h
 ·exfalso
  obtain ⟨i, j, hij, hj, e⟩ := zq13 m (fun i => s.getD i 0 - a + 1) (fun i hi => by
   have hx : s.getD i 0 ∈ s := by
    rw [List.getD_eq_getElem?_getD, List.getElem?_eq_getElem (by omega)]
    exact List.getElem_mem _
   have := hr _ hx
   omega)
  have hi : i < s.length := by omega
  have hj' : j < s.length := by omega
  have e2 : s[i] = s[j] := by
   have e3 : s.getD i 0 = s.getD j 0 := by have : s.getD i 0 - a + 1 = s.getD j 0 - a + 1 := e; omega
   rw [List.getD_eq_getElem?_getD, List.getD_eq_getElem?_getD, List.getElem?_eq_getElem hi, List.getElem?_eq_getElem hj'] at e3
   exact e3
  exact (List.pairwise_iff_getElem.1 hn) i j hi hj' hij e2
 ·exact h
theorem zq18 (k : Int) : ∀ s : List Int, cnt (fun x => decide (x < k)) s + (s.filter fun x => decide (k ≤ x)).length = s.length
 | [] => by simp [cnt]
 | h :: t => by
  have ih := zq18 k t
  simp only [cnt, List.filter_cons, List.length_cons]
  by_cases c : h < k
  ·rw [if_pos (by simpa using c), if_neg (by simp; omega)]
   omega
  ·rw [if_neg (by simpa using c), if_pos (by simp; omega)]
   simp only [List.length_cons]
   omega
theorem zq19 (l : List Int) (h : pf l = true) (k : Nat) (hk : k ≤ l.length) : (k : Int) ≤ cnt (fun x => decide (x < (k : Int))) l := by
 obtain ⟨_, h2, h3⟩ := (pf_iff l).1 h
 have hnd := zq15 (l.length : Int) l [] (by simp) h3
 have hc := zq16 (l.length : Int) (k : Int) l [] h3
 have hlen : (driveS (l.length : Int) [] l).length = l.length := by rw [zq5]; simp
 have hr : ∀ v ∈ driveS (l.length : Int) [] l, 0 ≤ v ∧ v < l.length := fun v hv => by
  have : ∀ (t out : List Int), (∀ c ∈ t, 0 ≤ c) → (∀ v ∈ out, v = -1 ∨ 0 ≤ v ∧ v < (l.length : Int)) → ∀ v ∈ driveS (l.length : Int) out t, v = -1 ∨ 0 ≤ v ∧ v < (l.length : Int) := by
   intro t
   induction t with
   | nil => intro out _ ho v hv; exact ho v hv
   | cons c t ih =>
    intro out hc ho v hv
    rw [driveS] at hv
    refine ih _ (fun x hx => hc x (by simp [hx])) (fun w hw => ?_) v hv
    rcases List.mem_append.1 hw with h | h
    ·exact ho w h
    ·rw [List.mem_singleton] at h
     subst h
     have h3 := hc c (by simp)
     rcases zq3 out ((l.length : Int) - c).toNat c with h5 | ⟨h5, h6, _⟩
     ·exact .inl h5
     ·exact .inr ⟨by omega, by omega⟩
  rcases this l [] (fun c hc => (h2 c hc).1) (by simp) v hv with h4 | h4
  ·exact absurd (h4 ▸ hv) h3
  ·exact h4
 have hb := zq17 ((driveS (l.length : Int) [] l).filter fun x => decide ((k : Int) ≤ x)) (k : Int) (l.length - k) (hnd.filter _) (fun x hx => by
  rw [List.mem_filter] at hx
  have h4 := hr x hx.1
  have h5 : (k : Int) ≤ x := by simpa using hx.2
  omega)
 have hf := zq18 (k : Int) (driveS (l.length : Int) [] l)
 simp only [cnt] at hc
 omega

theorem zq20 (x : Int) : ∀ (t p : List Int), p.length + t.length ≤ 35184372088832 →
  Ev (fun k => spec_l1Has.l0 k x (p ++ t) ((p ++ t).length : Int) (p.length : Int)) (decide (x ∈ t))
 | [], p, _ => by
  refine Ev.ret fun k => ?_
  rw [spec_l1Has.l0, if_neg (by simp)]
  simp
 | h :: t, p, hn => by
  have hn' : p.length + t.length + 1 ≤ 35184372088832 := by simpa [Nat.add_assoc] using hn
  have hm := len_mid p h t
  by_cases c : h = x
  ·rw [decide_eq_true (by simp [c] : x ∈ h :: t)]
   refine Ev.ret fun k => ?_
   rw [spec_l1Has.l0, if_pos (by omega), if_pos (by omega), if_pos (by omega), rd_mid, if_pos c]
  ·have ih := zq20 x t (p ++ [h]) (by simp; omega)
   rw [zq1, zq0] at ih
   have e : decide (x ∈ h :: t) = decide (x ∈ t) := decide_eq_decide.2 (by simp [Ne.symm c])
   rw [e]
   refine Ev.step (fun k => ?_) ih
   show spec_l1Has.l0 (k + 1) x (p ++ h :: t) ((p ++ h :: t).length : Int) (p.length : Int) = _
   rw [spec_l1Has.l0, if_pos (by omega), if_pos (by omega), if_pos (by omega), rd_mid, if_neg c, w64 (by omega) (by omega)]
theorem zq21 (l : List Int) (x : Int) (hl : l.length ≤ 35184372088832) : Ev (fun k => spec_l1Has.f k l x) (decide (x ∈ l)) :=
 zq20 x l [] (by simpa using hl)

theorem zq22 (places : Int) (cars : List Int) (n i : Int) (out : List Int) (ho : out.length ≤ 1000) (r : List Int) : ∀ (d : Nat) (x : Int), x + d = places → 0 ≤ x → places ≤ 1000 →
  Ev (fun k => spec_paDrive.l0 k places (out ++ [seek out d x]) cars n (wrap64 (i + 1))) r → Ev (fun k => spec_paDrive.l1 k places out x cars n i) r
 | 0, x, hx, h0, hp, h => by
  refine Ev.step (fun k => ?_) h
  show spec_paDrive.l1 (k + 1) places out x cars n i = _
  rw [spec_paDrive.l1, if_neg (by omega), if_pos (by omega), if_pos (by omega)]
  rfl
 | d + 1, x, hx, h0, hp, h => by
  by_cases c : x ∈ out
  ·have ih := zq22 places cars n i out ho r d (x + 1) (by omega) (by omega) hp (by rw [seek, if_pos c] at h; exact h)
   refine Ev.step (f := fun k => (spec_l1Has.f k out x).bind fun t => if t = true then spec_paDrive.l1 k places out (wrap64 (x + 1)) cars n i else if x ≥ places then if out.length < 17592186044416 then spec_paDrive.l0 k places (out ++ [-1]) cars n (wrap64 (i + 1)) else none else if out.length < 17592186044416 then spec_paDrive.l0 k places (out ++ [x]) cars n (wrap64 (i + 1)) else none) (fun k => ?_) ?_
   ·rw [spec_paDrive.l1, if_pos (by omega)]
   ·refine Ev.bind (zq21 out x (by omega)) ?_
    rw [decide_eq_true c, w64 (by omega) (by omega)]
    exact ih
  ·refine Ev.step (f := fun k => (spec_l1Has.f k out x).bind fun t => if t = true then spec_paDrive.l1 k places out (wrap64 (x + 1)) cars n i else if x ≥ places then if out.length < 17592186044416 then spec_paDrive.l0 k places (out ++ [-1]) cars n (wrap64 (i + 1)) else none else if out.length < 17592186044416 then spec_paDrive.l0 k places (out ++ [x]) cars n (wrap64 (i + 1)) else none) (fun k => ?_) ?_
   ·rw [spec_paDrive.l1, if_pos (by omega)]
   ·refine Ev.bind (zq21 out x (by omega)) ?_
    rw [decide_eq_false c]
    rw [seek, if_neg c] at h
    refine Ev.congr (fun k => ?_) h
    show (if false = true then _ else _) = _
    rw [if_neg (by simp), if_neg (by omega), if_pos (by omega)]
theorem zq23 (places : Int) (hp : places ≤ 1000) : ∀ (t p out : List Int), (∀ c ∈ t, 0 ≤ c ∧ c ≤ places) → p.length + t.length ≤ 500 → out.length + t.length ≤ 500 →
  Ev (fun k => spec_paDrive.l0 k places out (p ++ t) ((p ++ t).length : Int) (p.length : Int)) (driveS places out t)
 | [], p, out, _, _, _ => by
  refine Ev.ret fun k => ?_
  rw [spec_paDrive.l0, if_neg (by simp)]
  rfl
 | c :: t, p, out, hc, hn, ho => by
  have hn' : p.length + t.length + 1 ≤ 500 := by simpa [Nat.add_assoc] using hn
  have ho' : out.length + t.length + 1 ≤ 500 := by simpa [Nat.add_assoc] using ho
  have hm := len_mid p c t
  have h0 := hc c (by simp)
  have ih := zq23 places hp t (p ++ [c]) (out ++ [seek out (places - c).toNat c]) (fun x hx => hc x (by simp [hx])) (by simp; omega) (by simp; omega)
  rw [zq1, zq0] at ih
  refine Ev.step (fun k => ?_) (zq22 places (p ++ c :: t) ((p ++ c :: t).length : Int) (p.length : Int) out (by omega) _ (places - c).toNat c (by omega) (by omega) hp ?_)
  ·show spec_paDrive.l0 (k + 1) places out (p ++ c :: t) ((p ++ c :: t).length : Int) (p.length : Int) = _
   rw [spec_paDrive.l0, if_pos (by omega), if_pos (by omega), if_pos (by omega), rd_mid]
  ·rw [w64 (by omega) (by omega)]
   exact ih
theorem zq24 (l : List Int) (places : Int) (hp : places ≤ 1000) (hl : l.length ≤ 500) (hc : ∀ c ∈ l, 0 ≤ c ∧ c ≤ places) : Ev (fun k => spec_paDrive.f k l places) (driveS places [] l) :=
 zq23 places hp l [] [] hc (by simpa using hl) (by simpa using hl)

theorem zq25 (a b c : Int) : spec_l1In.f a b c = some (decide (b ≤ a) && decide (a ≤ c)) := by
 unfold spec_l1In.f
 by_cases h : a ≥ b
 ·rw [if_pos h]; simp [show b ≤ a from h]
 ·rw [if_neg h]; simp [show ¬ b ≤ a from h]

theorem zq26 (lo hi : Int) : ∀ (t p : List Int), p.length + t.length ≤ 35184372088832 →
  Ev (fun k => spec_l1All.l0 k lo hi (p ++ t) ((p ++ t).length : Int) (p.length : Int)) (inAll lo hi t)
 | [], p, _ => by
  refine Ev.ret fun k => ?_
  rw [spec_l1All.l0, if_neg (by simp)]
  rfl
 | h :: t, p, hn => by
  have hn' : p.length + t.length + 1 ≤ 35184372088832 := by simpa [Nat.add_assoc] using hn
  have hm := len_mid p h t
  rw [zq7]
  cases c : decide (lo ≤ h) && decide (h ≤ hi) with
  | true =>
   have ih := zq26 lo hi t (p ++ [h]) (by simp; omega)
   rw [zq1, zq0] at ih
   rw [Bool.true_and]
   refine Ev.step (fun k => ?_) ih
   show spec_l1All.l0 (k + 1) lo hi (p ++ h :: t) ((p ++ h :: t).length : Int) (p.length : Int) = _
   rw [spec_l1All.l0, if_pos (by omega), if_pos (by omega), if_pos (by omega), rd_mid, zq25, c, Option.bind_some, if_pos rfl, w64 (by omega) (by omega)]
  | false =>
   rw [Bool.false_and]
   refine Ev.ret fun k => ?_
   rw [spec_l1All.l0, if_pos (by omega), if_pos (by omega), if_pos (by omega), rd_mid, zq25, c]
   rfl
theorem zq27 (l : List Int) (lo hi : Int) (hl : l.length ≤ 35184372088832) : Ev (fun k => spec_l1All.f k l lo hi) (inAll lo hi l) :=
 zq26 lo hi l [] (by simpa using hl)

theorem zq28 (l : List Int) (hl : l.length ≤ 35184372088832) : Ev (fun k => spec_paParking.f k l) (pf l) := by
 by_cases c8 : l.length ≤ 8
 ·refine Ev.congr (fun k => by rw [spec_paParking.f, if_pos (by omega), w64 (by omega) (by omega)]) ?_
  refine Ev.bind (zq27 l 0 ((l.length : Int) - 1) hl) ?_
  cases c : inAll 0 ((l.length : Int) - 1) l with
  | false =>
   have e : pf l = false := by simp [pf, c]
   rw [e]
   exact Ev.congr (fun k => by rw [if_neg (by simp)]) (Ev.now false)
  | true =>
   have hp := (zq6 _ _ _).1 c
   have e : pf l = !(decide ((-1 : Int) ∈ driveS l.length [] l)) := by simp [pf, c, c8]
   rw [e]
   refine Ev.congr (fun k => by rw [if_pos rfl]) ?_
   refine Ev.bind (a := !(decide ((-1 : Int) ∈ driveS l.length [] l))) ?_ (Ev.now _)
   refine Ev.congr (fun k => rfl) (Ev.bind (zq24 l l.length (by omega) (by omega) (fun x hx => by have := hp x hx; omega)) ?_)
   exact Ev.bind (zq21 _ (-1) (by rw [zq5]; simp; omega)) (Ev.now _)
 ·have e : pf l = false := by simp [pf, c8]
  rw [e]
  exact Ev.congr (fun k => by rw [spec_paParking.f, if_neg (by omega)]) (Ev.now false)

def orNone (l : List Int) : List Int × Bool := if (-1 : Int) ∈ l then ([], false) else (l, true)
def DriveGoes (places : Int) (out : List Int) (w : Int) (cars : List Int) (n i : Int) (r : List Int × Bool) : Prop :=
 (w = -1 → r = ([], false)) ∧ (w ≠ -1 → ∀ taken', Tk places (out ++ [w]) taken' → Ev (fun k => impl_drive.l0 k places taken' (out ++ [w]) cars n (wrap64 (i + 1))) r)
theorem zq29 (places : Int) (taken : List Bool) (out : List Int) (ht : Tk places out taken) (cars : List Int) (n i : Int) (ho : out.length ≤ 1000) (hp : places ≤ 1000) (r : List Int × Bool) : ∀ (d : Nat) (x : Int), (places - x).toNat = d → 0 ≤ x →
  DriveGoes places out (seek out d x) cars n i r → Ev (fun k => impl_drive.l1 k places taken out x cars n i) r
 | 0, x, hx, h0, h => by
  obtain rfl := h.1 rfl
  refine Ev.ret fun k => ?_
  rw [impl_drive.l1, if_neg (by omega), if_pos (by omega)]
 | d + 1, x, hx, h0, h => by
  have ha := ht.at x h0 (by omega)
  have hl := ht.1
  by_cases c : x ∈ out
  ·rw [seek, if_pos c] at h
   refine Ev.step (fun k => ?_) (zq29 places taken out ht cars n i ho hp r d (x + 1) (by omega) (by omega) h)
   show impl_drive.l1 (k + 1) places taken out x cars n i = _
   rw [impl_drive.l1, if_pos (by omega), if_pos (by omega), if_pos (by omega), ha, decide_eq_true c, if_pos rfl, w64 (by omega) (by omega)]
  ·rw [seek, if_neg c] at h
   refine Ev.step (fun k => ?_) (h.2 (by omega) _ (ht.take x h0 (by omega)))
   show impl_drive.l1 (k + 1) places taken out x cars n i = _
   rw [impl_drive.l1, if_pos (by omega), if_pos (by omega), if_pos (by omega), ha, decide_eq_false c, if_neg (by simp), if_neg (by omega), if_pos (by omega)]
theorem zq30 (places : Int) (hp : places ≤ 1000) : ∀ (t p out : List Int) (taken : List Bool), Tk places out taken → (-1 : Int) ∉ out → (∀ c ∈ t, 0 ≤ c) → p.length + t.length ≤ 500 → out.length + t.length ≤ 500 →
  Ev (fun k => impl_drive.l0 k places taken out (p ++ t) ((p ++ t).length : Int) (p.length : Int)) (orNone (driveS places out t))
 | [], p, out, taken, _, hnot, _, _, _ => by
  refine Ev.ret fun k => ?_
  rw [impl_drive.l0, if_neg (by simp)]
  show some (out, true) = some (orNone out)
  rw [orNone, if_neg hnot]
 | c :: t, p, out, taken, ht, hnot, hc, hn, ho => by
  have hn' : p.length + t.length + 1 ≤ 500 := by simpa [Nat.add_assoc] using hn
  have ho' : out.length + t.length + 1 ≤ 500 := by simpa [Nat.add_assoc] using ho
  have hm := len_mid p c t
  have h0 := hc c (by simp)
  refine Ev.step (fun k => ?_) (zq29 places taken out ht (p ++ c :: t) ((p ++ c :: t).length : Int) (p.length : Int) (by omega) hp (orNone (driveS places out (c :: t))) (places - c).toNat c rfl h0 ⟨fun e => ?_, fun e taken' ht' => ?_⟩)
  ·show impl_drive.l0 (k + 1) places taken out (p ++ c :: t) ((p ++ c :: t).length : Int) (p.length : Int) = _
   rw [impl_drive.l0, if_pos (by omega), if_pos (by omega), if_pos (by omega), rd_mid]
  ·obtain ⟨s, _, hs⟩ := zq4 places t (out ++ [-1])
   simp only [driveS, e, hs]
   unfold orNone
   rw [if_pos (by simp)]
  ·have ih := zq30 places hp t (p ++ [c]) (out ++ [seek out (places - c).toNat c]) taken' ht' (by simp [hnot]; exact fun h => e h.symm) (fun x hx => hc x (by simp [hx])) (by simp; omega) (by simp; omega)
   rw [zq1, zq0] at ih
   rw [w64 (by omega) (by omega)]
   exact ih
theorem zq31 (l : List Int) (places : Int) (hp0 : 0 ≤ places) (hp : places ≤ 1000) (hl : l.length ≤ 500) (hc : ∀ c ∈ l, 0 ≤ c) : Ev (fun k => impl_drive.f k l places) (orNone (driveS places [] l)) := by
 refine Ev.congr (fun k => by rw [impl_drive.f, if_pos hp0, if_pos (by omega)]) ?_
 exact zq30 places hp l [] [] _ (Tk.none places hp0) (by simp) hc (by simpa using hl) (by simpa using hl)

theorem zq32 (q : Int → Bool) : ∀ (t p : List Int), p.length + t.length ≤ 35184372088832 →
  ∃ r : Int, decide (r ≥ 0) = t.any q ∧ Ev (fun k => slices_IndexFunc_int_int.l0 q k (p ++ t) ((p ++ t).length : Int) (p.length : Int)) r
 | [], p, _ => by
  refine ⟨-1, by simp, Ev.ret fun k => ?_⟩
  rw [slices_IndexFunc_int_int.l0, if_neg (by simp)]
 | h :: t, p, hn => by
  have hn' : p.length + t.length + 1 ≤ 35184372088832 := by simpa [Nat.add_assoc] using hn
  have hm := len_mid p h t
  cases c : q h with
  | true =>
   refine ⟨p.length, by simp [c], Ev.ret fun k => ?_⟩
   rw [slices_IndexFunc_int_int.l0, if_pos (by omega), if_pos (by omega), if_pos (by omega), rd_mid, c, Option.bind_some, if_pos rfl]
  | false =>
   obtain ⟨r, hr, ih⟩ := zq32 q t (p ++ [h]) (by simp; omega)
   rw [zq1, zq0] at ih
   refine ⟨r, by simpa [c] using hr, Ev.step (fun k => ?_) ih⟩
   show slices_IndexFunc_int_int.l0 q (k + 1) (p ++ h :: t) ((p ++ h :: t).length : Int) (p.length : Int) = _
   rw [slices_IndexFunc_int_int.l0, if_pos (by omega), if_pos (by omega), if_pos (by omega), rd_mid, c, Option.bind_some, if_neg (by simp), w64 (by omega) (by omega)]
theorem zq33 (q : Int → Bool) (l : List Int) (hl : l.length ≤ 35184372088832) : Ev (fun k => slices_ContainsFunc_int_int.f q k l) (l.any q) := by
 obtain ⟨r, hr, h⟩ := zq32 q l [] (by simpa using hl)
 rw [← hr]
 exact Ev.congr (fun k => rfl) (Ev.bind h (Ev.now _))

theorem zq34 (a b c : Int) : impl_between.f a b c = some (decide (b ≤ a) && decide (a ≤ c)) := by
 unfold impl_between.f
 by_cases h : a ≥ b
 ·rw [if_pos h]; simp [show b ≤ a from h]
 ·rw [if_neg h]; simp [show ¬ b ≤ a from h]

theorem zq35 (l : List Int) (lo hi : Int) (hl : l.length ≤ 35184372088832) : Ev (fun k => impl_areBetween.f k l lo hi) (inAll lo hi l) := by
 have e : (!(l.any (impl_areBetween_1.p lo hi))) = inAll lo hi l := by
  have hp : ∀ n, impl_areBetween_1.p lo hi n = !(decide (lo ≤ n) && decide (n ≤ hi)) := fun n => by
   simp [impl_areBetween_1.p, zq34]
  unfold inAll
  induction l with
  | nil => rfl
  | cons x t ih =>
   rw [List.any_cons, List.all_cons, Bool.not_or, ih (by simp at hl; omega), hp, Bool.not_not]
 rw [← e]
 exact Ev.congr (fun k => rfl) (Ev.bind (zq33 (impl_areBetween_1.p lo hi) l hl) (Ev.now _))

theorem zq36 (l : List Int) (hl : l.length ≤ 35184372088832) : Ev (fun k => impl_areCars.f k l) (decide (l.length ≤ 8) && inAll 0 99 l) := by
 by_cases c8 : l.length ≤ 8
 ·rw [decide_eq_true c8, Bool.true_and]
  refine Ev.congr (fun k => by rw [impl_areCars.f, if_pos (by omega)]) ?_
  exact Ev.bind (zq35 l 0 99 hl) (Ev.now _)
 ·rw [decide_eq_false c8, Bool.false_and]
  exact Ev.congr (fun k => by rw [impl_areCars.f, if_neg (by omega)]) (Ev.now false)
theorem zq37 (l : List Int) (hl : l.length ≤ 35184372088832) : Ev (fun k => impl_isParking.f k l) (pf l) := by
 refine Ev.congr (fun k => rfl) (Ev.bind (zq36 l hl) ?_)
 cases c : decide (l.length ≤ 8) && inAll 0 99 l with
 | false =>
  have e : pf l = false := by
   cases d : pf l with
   | false => rfl
   | true =>
    obtain ⟨h1, h2, _⟩ := (pf_iff l).1 d
    rw [decide_eq_true h1, Bool.true_and] at c
    have : inAll 0 99 l = true := (zq6 _ _ _).2 fun x hx => by have := h2 x hx; omega
    rw [this] at c; cases c
  rw [e]
  exact Ev.congr (fun k => by rw [if_neg (by simp)]) (Ev.now false)
 | true =>
  have cc : l.length ≤ 8 ∧ inAll 0 99 l = true := by simpa only [Bool.and_eq_true, decide_eq_true_eq] using c
  have hx := (zq6 _ _ _).1 cc.2
  refine Ev.congr (fun k => by rw [if_pos rfl]) ?_
  refine Ev.bind (zq31 l l.length (by omega) (by omega) (by omega) (fun x h => (hx x h).1)) ?_
  have e : (orNone (driveS l.length [] l)).2 = pf l := by
   unfold orNone
   by_cases d : (-1 : Int) ∈ driveS l.length [] l
   ·rw [if_pos d]
    symm
    simp [pf, d]
   ·rw [if_neg d]
    symm
    rw [pf_iff]
    refine ⟨cc.1, fun x h => ⟨(hx x h).1, ?_⟩, d⟩
    have : ¬ (l.length : Int) ≤ x := fun h1 => d (zq8 _ _ _ ⟨x, h, h1⟩)
    omega
  rw [← e]
  exact Ev.now _

def places (q : Int → Bool) : List Int → Int → List Int
 | [], _ => []
 | h :: t, i => if q h = true then i :: places q t (i + 1) else places q t (i + 1)
theorem zq38 (q : Int → Bool) : ∀ (l : List Int) (i : Int), ((places q l i).length : Int) = cnt q l
 | [], i => by simp [places, cnt]
 | h :: t, i => by
  rw [places, cnt]
  have := zq38 q t (i + 1)
  split
  ·simp; omega
  ·omega
theorem zq39 (q : Int → Bool) (x : Int) : ∀ (l : List Int) (i : Int), x ∈ places q l i ↔ ∃ j : Nat, ∃ v, l[j]? = some v ∧ q v = true ∧ x = i + j
 | [], i => by simp [places]
 | h :: t, i => by
  rw [places]
  have ih := zq39 q x t (i + 1)
  constructor
  ·intro hx
   have : x = i ∧ q h = true ∨ x ∈ places q t (i + 1) := by
    split at hx
    ·rename_i c
     rcases List.mem_cons.1 hx with h1 | h1
     ·exact .inl ⟨h1, c⟩
     ·exact .inr h1
    ·exact .inr hx
   rcases this with ⟨h1, h2⟩ | h1
   ·exact ⟨0, h, by simp, h2, by omega⟩
   ·obtain ⟨j, v, h2, h3, h4⟩ := ih.1 h1
    exact ⟨j + 1, v, by simpa using h2, h3, by omega⟩
  ·rintro ⟨j, v, h2, h3, h4⟩
   cases j with
   | zero =>
    have e : h = v := by simpa using h2
    rw [e, if_pos h3]
    exact List.mem_cons.2 (.inl (by omega))
   | succ j =>
    have h1 : x ∈ places q t (i + 1) := ih.2 ⟨j, v, by simpa using h2, h3, by omega⟩
    split
    ·exact List.mem_cons_of_mem _ h1
    ·exact h1
theorem zq40 (q : Int → Bool) : ∀ (l : List Int) (i : Int), (places q l i).Pairwise (· < ·)
 | [], i => by simp [places]
 | h :: t, i => by
  rw [places]
  split
  ·rw [List.pairwise_cons]
   refine ⟨fun x hx => ?_, zq40 q t (i + 1)⟩
   obtain ⟨j, v, _, _, e⟩ := (zq39 q x t (i + 1)).1 hx
   omega
  ·exact zq40 q t (i + 1)

theorem zq41 (q : Int → Bool) : ∀ (t p out : List Int), p.length + t.length ≤ 1000000 → out.length ≤ p.length →
  Ev (fun k => impl_indices.l0 q k out (p ++ t) ((p ++ t).length : Int) (p.length : Int)) (out ++ places q t p.length)
 | [], p, out, _, _ => by
  refine Ev.ret fun k => ?_
  rw [impl_indices.l0, if_neg (by simp)]
  simp [places]
 | h :: t, p, out, hn, ho => by
  have hn' : p.length + t.length + 1 ≤ 1000000 := by simpa [Nat.add_assoc] using hn
  have hm := len_mid p h t
  cases c : q h with
  | true =>
   have ih := zq41 q t (p ++ [h]) (out ++ [(p.length : Int)]) (by simp; omega) (by simp; omega)
   rw [zq1, zq0] at ih
   have e : out ++ places q (h :: t) p.length = out ++ [(p.length : Int)] ++ places q t (p.length + 1) := by rw [places, if_pos c]; simp
   rw [e]
   refine Ev.step (fun k => ?_) ih
   show impl_indices.l0 q (k + 1) out (p ++ h :: t) ((p ++ h :: t).length : Int) (p.length : Int) = _
   rw [impl_indices.l0, if_pos (by omega), if_pos (by omega), if_pos (by omega), rd_mid, c, Option.bind_some, if_pos rfl, if_pos (by omega), w64 (by omega) (by omega)]
  | false =>
   have ih := zq41 q t (p ++ [h]) out (by simp; omega) (by simp; omega)
   rw [zq1, zq0] at ih
   have e : out ++ places q (h :: t) p.length = out ++ places q t (p.length + 1) := by rw [places, if_neg (by simp [c])]
   rw [e]
   refine Ev.step (fun k => ?_) ih
   show impl_indices.l0 q (k + 1) out (p ++ h :: t) ((p ++ h :: t).length : Int) (p.length : Int) = _
   rw [impl_indices.l0, if_pos (by omega), if_pos (by omega), if_pos (by omega), rd_mid, c, Option.bind_some, if_neg (by simp), w64 (by omega) (by omega)]
theorem zq42 (q : Int → Bool) (l : List Int) (hl : l.length ≤ 1000000) : Ev (fun k => impl_indices.f q k l) (places q l 0) := by
 have := zq41 q l [] [] (by simpa using hl) (by simp)
 exact this

def setAll (l : List Int) (v : Int) : List Int → List Int
 | [] => l
 | i :: t => setAll (l.set i.toNat v) v t
theorem zq43 (v : Int) : ∀ (t l : List Int), (setAll l v t).length = l.length
 | [], l => rfl
 | i :: t, l => by rw [setAll, zq43 v t]; simp
theorem zq44 (l : List Int) (n : Nat) (hn : l.length = n) (hn8 : n ≤ 8) (k : Nat) (hk8 : k ≤ 20) (v : Int) (r : List Int × Bool) : ∀ (t p par ord : List Int), l = p ++ t → par.length = n → (k : Int) < ord.length → rd ord k = v → ord.length ≤ 100 + p.length →
  Ev (fun kk => spec_TreeOfParking.l0 kk l (setAll par v (places (fun x => decide (x = (k : Int))) t p.length)) (ord ++ (places (fun x => decide (x = (k : Int))) t p.length).map (· + 1)) ((k : Int) + 1)) r →
  Ev (fun kk => spec_TreeOfParking.l1 kk l par ord (k : Int) l (l.length : Int) (p.length : Int)) r
 | [], p, par, ord, hl, _, _, _, _, h => by
  subst hl
  refine Ev.step (fun kk => ?_) h
  show spec_TreeOfParking.l1 (kk + 1) (p ++ []) par ord (k : Int) (p ++ []) ((p ++ []).length : Int) (p.length : Int) = _
  rw [spec_TreeOfParking.l1, if_neg (by simp), w64 (by omega) (by omega)]
  simp [places, setAll]
 | x :: t, p, par, ord, hl, hpl, hk, hv, hol, h => by
  have hm := len_mid p x t
  have hll : (l.length : Int) = (p.length : Int) + t.length + 1 := by rw [hl]; exact hm
  have e1 : l = (p ++ [x]) ++ t := by rw [hl]; simp
  have hrd : rd l (p.length : Int) = x := by rw [hl]; exact rd_mid p x t
  by_cases c : x = (k : Int)
  ·rw [places, if_pos (by simp [c])] at h
   have ih := zq44 l n hn hn8 k hk8 v r t (p ++ [x]) (par.set (p.length : Int).toNat v) (ord ++ [(p.length : Int) + 1]) e1 (by simp [hpl]) (by simp; omega) (by rw [zq2 _ _ _ (by omega) hk]; exact hv) (by simp; omega)
   rw [zq0] at ih
   have e2 : ord ++ ((p.length : Int) :: places (fun x => decide (x = (k : Int))) t (p.length + 1)).map (· + 1) = (ord ++ [(p.length : Int) + 1]) ++ (places (fun x => decide (x = (k : Int))) t (p.length + 1)).map (· + 1) := by simp
   rw [setAll, e2] at h
   refine Ev.step (fun kk => ?_) (ih h)
   show spec_TreeOfParking.l1 (kk + 1) l par ord (k : Int) l (l.length : Int) (p.length : Int) = _
   rw [spec_TreeOfParking.l1, if_pos (by omega), if_pos (by omega), if_pos (by omega), hrd, if_pos c, if_pos (by omega), if_pos (by omega), if_pos (by omega), if_pos (by omega), hv, w64 (by omega) (by omega)]
  ·rw [places, if_neg (by simp [c])] at h
   have ih := zq44 l n hn hn8 k hk8 v r t (p ++ [x]) par ord e1 hpl hk hv (by simp; omega)
   rw [zq0] at ih
   refine Ev.step (fun kk => ?_) (ih h)
   show spec_TreeOfParking.l1 (kk + 1) l par ord (k : Int) l (l.length : Int) (p.length : Int) = _
   rw [spec_TreeOfParking.l1, if_pos (by omega), if_pos (by omega), if_pos (by omega), hrd, if_neg c, w64 (by omega) (by omega)]
theorem zq45 (l : List Int) (n : Nat) (hn8 : n ≤ 8) (k : Nat) (hk8 : k ≤ 20) (v : Int) (r : List Int × Bool) : ∀ (t p par ord : List Int), p.length + t.length ≤ 100 → par.length = n → (∀ i ∈ t, 0 ≤ i ∧ i < n) → (k : Int) < ord.length → rd ord k = v → ord.length ≤ 100 + p.length →
  Ev (fun kk => impl_TreeOfParking.l0 kk l (ord ++ t.map (· + 1)) (setAll par v t) (n : Int) ((k : Int) + 1)) r →
  Ev (fun kk => impl_TreeOfParking.l1 kk l ord par (n : Int) (k : Int) (p ++ t) ((p ++ t).length : Int) (p.length : Int) (k : Int)) r
 | [], p, par, ord, _, _, _, _, _, _, h => by
  refine Ev.step (fun kk => ?_) h
  show impl_TreeOfParking.l1 (kk + 1) l ord par (n : Int) (k : Int) (p ++ []) ((p ++ []).length : Int) (p.length : Int) (k : Int) = _
  rw [impl_TreeOfParking.l1, if_neg (by simp), w64 (by omega) (by omega)]
  simp [setAll]
 | i :: t, p, par, ord, hpt, hpl, hi, hk, hv, hol, h => by
  have hpt' : p.length + t.length + 1 ≤ 100 := by simpa [Nat.add_assoc] using hpt
  have hm := len_mid p i t
  have hi0 := hi i (by simp)
  have ih := zq45 l n hn8 k hk8 v r t (p ++ [i]) (par.set i.toNat v) (ord ++ [i + 1]) (by simp; omega) (by simp [hpl]) (fun j hj => hi j (by simp [hj])) (by simp; omega) (by rw [zq2 _ _ _ (by omega) hk]; exact hv) (by simp; omega)
  rw [zq1 p i t, zq0 p i] at ih
  have e2 : ord ++ (i :: t).map (· + 1) = (ord ++ [i + 1]) ++ t.map (· + 1) := by simp
  rw [setAll, e2] at h
  refine Ev.step (fun kk => ?_) (ih h)
  show impl_TreeOfParking.l1 (kk + 1) l ord par (n : Int) (k : Int) (p ++ i :: t) ((p ++ i :: t).length : Int) (p.length : Int) (k : Int) = _
  rw [impl_TreeOfParking.l1, if_pos (by omega), if_pos (by omega), if_pos (by omega), if_pos (by omega), if_pos (by omega), rd_mid, if_pos (by omega), if_pos (by omega), if_pos (by omega), hv, w64 (by omega) (by omega), w64 (by omega) (by omega)]

def kids (par : List Int) (v : Int) : List Int := (places (fun p => decide (p = v)) par 0).map (· + 1)
theorem zq46 (par : List Int) (v : Int) : ((kids par v).length : Int) = cnt (fun p => decide (p = v)) par := by
 rw [kids, List.length_map, zq38]

theorem zq47 (par : List Int) : isTr par = true ↔ par.length ≤ 8 ∧ (∀ x ∈ par, 0 ≤ x ∧ x ≤ par.length) ∧ ∀ a : Int, 1 ≤ a → a ≤ par.length → climb par par.length a = true := by
 simp only [isTr, Bool.and_eq_true, decide_eq_true_eq, zq6, List.all_eq_true, List.mem_range]
 constructor
 ·rintro ⟨⟨h1, h2⟩, h3⟩
  refine ⟨h1, h2, fun a ha hb => ?_⟩
  have := h3 (a - 1).toNat (by omega)
  rwa [show (((a - 1).toNat : Nat) : Int) + 1 = a by omega] at this
 ·rintro ⟨h1, h2, h3⟩
  exact ⟨⟨h1, h2⟩, fun i hi => h3 _ (by omega) (by omega)⟩
theorem rd_mem (l : List Int) (i : Int) (h0 : 0 ≤ i) (h1 : i < l.length) : rd l i ∈ l := by
 unfold rd
 rw [List.getD_eq_getElem?_getD, List.getElem?_eq_getElem (by omega)]
 exact List.getElem_mem _
theorem zq48 {l : List Int} (h : l.Nodup) {i j : Nat} (hi : i < j) (hj : j < l.length) : l[i]'(by omega) ≠ l[j] :=
 List.pairwise_iff_getElem.1 h i j (by omega) hj hi
theorem zq49 (n : Nat) (l : List Int) (h : l.Nodup) (hr : ∀ v ∈ l, 0 ≤ v ∧ v ≤ n) : l.length ≤ n + 1 := by
 refine Classical.byContradiction fun c => ?_
 obtain ⟨i, j, hij, hj, e⟩ := zq13 (n + 1) (fun i => l.getD i 0 + 1) (fun i hi => by
  have hm : l.getD i 0 ∈ l := by
   rw [List.getD_eq_getElem?_getD, List.getElem?_eq_getElem (by omega)]
   exact List.getElem_mem _
  have := hr _ hm
  show 1 ≤ l.getD i 0 + 1 ∧ l.getD i 0 + 1 ≤ ((n + 1 : Nat) : Int)
  omega)
 have e2 : l.getD i 0 + 1 = l.getD j 0 + 1 := e
 rw [List.getD_eq_getElem?_getD, List.getD_eq_getElem?_getD, List.getElem?_eq_getElem (by omega), List.getElem?_eq_getElem (by omega)] at e2
 simp only [Option.getD_some] at e2
 exact zq48 h hij (by omega) (by omega)

theorem zq50 (par : List Int) (v x : Int) : x ∈ kids par v ↔ 1 ≤ x ∧ x ≤ par.length ∧ rd par (x - 1) = v := by
 rw [kids, List.mem_map]
 constructor
 ·rintro ⟨y, hy, rfl⟩
  obtain ⟨j, w, h1, h2, h3⟩ := (zq39 _ _ _ _).1 hy
  have h4 := (List.getElem?_eq_some_iff.1 h1).1
  refine ⟨by omega, by omega, ?_⟩
  have h5 : w = v := by simpa using h2
  unfold rd
  rw [show (y + 1 - 1).toNat = j by omega, List.getD_eq_getElem?_getD, h1, ← h5]
  rfl
 ·rintro ⟨h1, h2, h3⟩
  refine ⟨x - 1, (zq39 _ _ _ _).2 ⟨(x - 1).toNat, v, ?_, by simp, by omega⟩, by omega⟩
  unfold rd at h3
  rw [List.getD_eq_getElem?_getD, List.getElem?_eq_getElem (by omega)] at h3
  rw [List.getElem?_eq_getElem (by omega)]
  exact congrArg some h3
theorem zq51 (par : List Int) (v : Int) : (kids par v).Nodup := by
 rw [kids]
 refine List.pairwise_map.2 ((zq40 (fun p => decide (p = v)) par 0).imp ?_)
 intro a b h
 omega
structure InB (par ord : List Int) (k : Nat) : Prop where
 nd : ord.Nodup
 le : k ≤ ord.length
 zero : 0 ∈ ord
 range : ∀ v ∈ ord, 0 ≤ v ∧ v ≤ par.length
 has : ∀ v : Int, 1 ≤ v → v ≤ par.length → (v ∈ ord ↔ rd par (v - 1) ∈ ord.take k)
theorem InB.first (par : List Int) : InB par [0] 0 :=
 ⟨by simp, by simp, by simp, by simp, by intro v h1 h2; simp; omega⟩
theorem InB.length {par ord : List Int} {k : Nat} (h : InB par ord k) : ord.length ≤ par.length + 1 := zq49 par.length ord h.nd h.range
theorem InB.step {par ord : List Int} {k : Nat} (h : InB par ord k) (hk : k < ord.length) : InB par (ord ++ kids par (rd ord k)) (k + 1) := by
 have hrk : rd ord (k : Int) = ord[k] := by
  unfold rd
  rw [Int.toNat_natCast, List.getD_eq_getElem?_getD, List.getElem?_eq_getElem hk]
  rfl
 have hnt : rd ord (k : Int) ∉ ord.take k := by
  rw [hrk]
  intro hm
  obtain ⟨i, hi, e⟩ := List.mem_iff_getElem.1 hm
  rw [List.getElem_take] at e
  have : i < k := by simp at hi; omega
  exact zq48 h.nd this hk e
 have htk : (ord ++ kids par (rd ord k)).take (k + 1) = ord.take k ++ [rd ord (k : Int)] := by
  rw [List.take_append_of_le_length (by omega), hrk, List.take_append_getElem]
 refine ⟨?_, by simp; omega, List.mem_append_left _ h.zero, ?_, ?_⟩
 ·refine List.nodup_append.2 ⟨h.nd, zq51 par _, ?_⟩
  intro a ha b hb e
  obtain ⟨h1, h2, h3⟩ := (zq50 par _ b).1 hb
  rw [e] at ha
  have := (h.has b h1 h2).1 ha
  rw [h3] at this
  exact hnt this
 ·intro v hv
  rcases List.mem_append.1 hv with h1 | h1
  ·exact h.range v h1
  ·obtain ⟨h2, h3, _⟩ := (zq50 par _ v).1 h1
   omega
 ·intro v h1 h2
  rw [htk, List.mem_append, List.mem_append, h.has v h1 h2, zq50, List.mem_singleton]
  constructor
  ·rintro (h3 | ⟨_, _, h3⟩)
   ·exact .inl h3
   ·exact .inr h3
  ·rintro (h3 | h3)
   ·exact .inl h3
   ·exact .inr ⟨h1, h2, h3⟩
def bfs (par : List Int) : Nat → List Int → Nat → List Int
 | 0, ord, _ => ord
 | d + 1, ord, k => if k < ord.length then bfs par d (ord ++ kids par (rd ord k)) (k + 1) else ord
theorem bfs_in (par : List Int) : ∀ (d : Nat) (ord : List Int) (k : Nat), InB par ord k → par.length + 1 ≤ k + d → InB par (bfs par d ord k) (bfs par d ord k).length
 | 0, ord, k, h, hd => by
  have := h.length
  have := h.le
  rw [bfs]
  have e : k = ord.length := by omega
  rw [e] at h
  exact h
 | d + 1, ord, k, h, hd => by
  rw [bfs]
  by_cases c : k < ord.length
  ·rw [if_pos c]
   exact bfs_in par d _ _ (h.step c) (by omega)
  ·rw [if_neg c]
   have := h.le
   have e : k = ord.length := by omega
   rw [e] at h
   exact h
def breadthS (par : List Int) : List Int := bfs par (par.length + 1) [0] 0
theorem zq52 (par : List Int) : (breadthS par).length ≤ par.length + 1 :=
 (bfs_in par (par.length + 1) [0] 0 (InB.first par) (by omega)).length

theorem all_in : ∀ (n : Nat) (g : List Int), (∀ v : Int, 1 ≤ v → v ≤ n → v ∈ g) → n ≤ g.length
 | 0, g, _ => Nat.zero_le _
 | n + 1, g, h => by
  have hm : ((n + 1 : Nat) : Int) ∈ g := h _ (by omega) (by omega)
  have ih := all_in n (g.erase ((n + 1 : Nat) : Int)) fun v h1 h2 => (List.mem_erase_of_ne (by omega)).2 (h v h1 (by omega))
  rw [List.length_erase_of_mem hm] at ih
  have := List.length_pos_of_mem hm
  omega

theorem zq53 (out : List Int) : ∀ (d : Nat) (x : Int), 0 ≤ x → seek out d x = -1 → ∀ v, x ≤ v → v < x + d → v ∈ out
 | 0, x, _, _, v, h1, h2 => by omega
 | d + 1, x, h0, h, v, h1, h2 => by
  rw [seek] at h
  split at h
  ·rename_i c
   by_cases e : v = x
   ·rw [e]; exact c
   ·exact zq53 out d (x + 1) (by omega) h v (by omega) (by omega)
  ·omega
theorem zq54 (out : List Int) : ∀ (d : Nat) (x : Int), 0 ≤ x → seek out d x ≠ -1 → ∀ v, x ≤ v → v < seek out d x → v ∈ out
 | 0, x, _, h, v, _, _ => absurd rfl h
 | d + 1, x, h0, h, v, h1, h2 => by
  rw [seek] at h h2
  split at h
  ·rename_i c
   rw [if_pos c] at h2
   by_cases e : v = x
   ·rw [e]; exact c
   ·exact zq54 out d (x + 1) (by omega) h v (by omega) h2
  ·rename_i c
   rw [if_neg c] at h2
   omega
theorem cnt_len (q : Int → Bool) : ∀ l : List Int, cnt q l = ((l.filter q).length : Int)
 | [] => rfl
 | h :: t => by
  have ih := cnt_len q t
  rw [cnt, List.filter_cons]
  split
  ·rw [List.length_cons]; omega
  ·omega
theorem all_ge (s : Int) (m : Nat) (out : List Int) (h : ∀ v, s ≤ v → v < s + m → v ∈ out) : (m : Int) ≤ cnt (fun x => decide (s ≤ x)) out := by
 rw [cnt_len]
 have := all_in m ((out.filter fun x => decide (s ≤ x)).map (· - s + 1)) fun v h1 h2 => List.mem_map.2 ⟨v + s - 1, List.mem_filter.2 ⟨h _ (by omega) (by omega), by simp; omega⟩, by omega⟩
 rw [List.length_map] at this
 omega
theorem zq55 (P : Int) (out : List Int) : ∀ (m : Nat), (∀ v, (m : Int) ≤ v → v < P → v ∈ out) → ∃ s : Int, 0 ≤ s ∧ s ≤ m ∧ (s = 0 ∨ s - 1 ∉ out) ∧ ∀ v, s ≤ v → v < P → v ∈ out
 | 0, h => ⟨0, by omega, by omega, .inl rfl, h⟩
 | m + 1, h => by
  by_cases c : ((m + 1 : Nat) : Int) - 1 ∈ out
  ·obtain ⟨s, h1, h2, h3, h4⟩ := zq55 P out m (fun v hv1 hv2 => by
    by_cases e : v = (m : Int)
    ·rw [e, show (m : Int) = ((m + 1 : Nat) : Int) - 1 by omega]; exact c
    ·exact h v (by omega) hv2)
   exact ⟨s, h1, by omega, h3, h4⟩
  ·exact ⟨((m + 1 : Nat) : Int), by omega, by omega, .inr c, h⟩
theorem zq56 (P : Int) (L : List Int) (hL : ∀ s : Int, 0 ≤ s → s ≤ P → cnt (fun x => decide (s ≤ x)) L ≤ P - s) : ∀ (t p out : List Int), p ++ t = L → (∀ c ∈ t, 0 ≤ c ∧ c < P) → (-1 : Int) ∉ out →
  (∀ s : Int, 0 ≤ s → s ≤ P → (s = 0 ∨ s - 1 ∉ out) → cnt (fun x => decide (s ≤ x)) out ≤ cnt (fun x => decide (s ≤ x)) p) → (-1 : Int) ∉ driveS P out t
 | [], p, out, _, _, hn, _ => hn
 | c :: t, p, out, hp, hc, hn, inv => by
  have hcc := hc c (by simp)
  rw [driveS]
  have hx : seek out (P - c).toNat c ≠ -1 := by
   intro e
   have hf := zq53 out (P - c).toNat c hcc.1 e
   obtain ⟨s, h1, h2, h3, h4⟩ := zq55 P out c.toNat (fun v hv1 hv2 => hf v (by omega) (by omega))
   have g1 := all_ge s (P - s).toNat out (fun v hv1 hv2 => h4 v hv1 (by omega))
   have g2 := inv s h1 (by omega) h3
   have g3 := hL s h1 (by omega)
   rw [← hp, zq10, cnt, if_pos (by simp; omega)] at g3
   have g4 := (zq9 (fun x => decide (s ≤ x)) t).1
   omega
  have hpass := zq54 out (P - c).toNat c hcc.1 hx
  have hge : c ≤ seek out (P - c).toNat c := by
   rcases zq3 out (P - c).toNat c with h5 | ⟨h5, _, _⟩
   ·exact absurd h5 hx
   ·exact h5
  generalize seek out (P - c).toNat c = x at *
  refine zq56 P L hL t (p ++ [c]) (out ++ [x]) (by rw [← hp]; simp) (fun y hy => hc y (by simp [hy])) ?_ fun s h1 h2 h3 => ?_
  ·rw [List.mem_append, List.mem_singleton, not_or]
   exact ⟨hn, fun e => hx e.symm⟩
  ·have h3' : s = 0 ∨ s - 1 ∉ out := h3.imp id fun h hm => h (List.mem_append_left _ hm)
   have g := inv s h1 h2 h3'
   rw [zq10, zq10]
   have e : cnt (fun y => decide (s ≤ y)) [x] ≤ cnt (fun y => decide (s ≤ y)) [c] := by
    simp only [cnt]
    by_cases d : s ≤ x
    ·have d2 : s ≤ c := by
      refine Classical.byContradiction fun d3 => ?_
      rcases h3' with e0 | e0
      ·omega
      ·exact e0 (hpass (s - 1) (by omega) (by omega))
     rw [if_pos (by simpa using d), if_pos (by simpa using d2)]
     omega
    ·rw [if_neg (by simpa using d)]
     split <;> omega
   omega
theorem pf_conv (l : List Int) (h8 : l.length ≤ 8) (hr : ∀ x ∈ l, 0 ≤ x ∧ x ≤ (l.length : Int) - 1) (hcnt : ∀ s : Int, 0 ≤ s → s ≤ l.length → cnt (fun x => decide (s ≤ x)) l ≤ (l.length : Int) - s) : pf l = true :=
 (pf_iff l).2 ⟨h8, hr, zq56 l.length l hcnt l [] [] rfl (fun c hc => by have := hr c hc; omega) (by simp) (fun s _ _ _ => by simp [cnt])⟩

def idxOf (x : Int) : List Int → Int → Int
 | [], _ => -1
 | h :: t, i => if x = h then i else idxOf x t (i + 1)
theorem zq57 (x : Int) : ∀ (l : List Int) (i : Int), 0 ≤ i → (x ∈ l → i ≤ idxOf x l i ∧ idxOf x l i < i + l.length ∧ rd l (idxOf x l i - i) = x) ∧ (x ∉ l → idxOf x l i = -1)
 | [], i, _ => by simp [idxOf]
 | h :: t, i, hi => by
  have ih := zq57 x t (i + 1) (by omega)
  have e : ((h :: t).length : Int) = (t.length : Int) + 1 := by simp
  by_cases c : x = h
  ·refine ⟨fun _ => ?_, fun hn => absurd (by simp [c]) hn⟩
   rw [idxOf, if_pos c, e]
   refine ⟨by omega, by omega, ?_⟩
   rw [Int.sub_self, c]
   rfl
  ·rw [idxOf, if_neg c, e]
   refine ⟨fun hm => ?_, fun hn => ih.2 (fun hm => hn (by simp [hm]))⟩
   obtain ⟨h1, h2, h3⟩ := ih.1 (by simpa [c] using hm)
   refine ⟨by omega, by omega, ?_⟩
   have h4 : rd (h :: t) (idxOf x t (i + 1) - i) = rd t (idxOf x t (i + 1) - (i + 1)) := by
    unfold rd
    rw [show (idxOf x t (i + 1) - i).toNat = (idxOf x t (i + 1) - (i + 1)).toNat + 1 by omega, List.getD_cons_succ]
   rw [h4, h3]
theorem zq58 (x : Int) : ∀ (t p : List Int), p.length + t.length ≤ 35184372088832 →
  Ev (fun k => slices_Index_int_int.l0 k (p ++ t) x ((p ++ t).length : Int) (p.length : Int)) (idxOf x t p.length)
 | [], p, _ => by
  refine Ev.ret fun k => ?_
  rw [slices_Index_int_int.l0, if_neg (by simp)]
  rfl
 | h :: t, p, hn => by
  have hn' : p.length + t.length + 1 ≤ 35184372088832 := by simpa [Nat.add_assoc] using hn
  have hm := len_mid p h t
  by_cases c : x = h
  ·rw [idxOf, if_pos c]
   refine Ev.ret fun k => ?_
   rw [slices_Index_int_int.l0, if_pos (by omega), if_pos (by omega), if_pos (by omega), rd_mid, if_pos c]
  ·have ih := zq58 x t (p ++ [h]) (by simp; omega)
   rw [zq1, zq0] at ih
   rw [idxOf, if_neg c]
   refine Ev.step (fun k => ?_) ih
   show slices_Index_int_int.l0 (k + 1) (p ++ h :: t) x ((p ++ h :: t).length : Int) (p.length : Int) = _
   rw [slices_Index_int_int.l0, if_pos (by omega), if_pos (by omega), if_pos (by omega), rd_mid, if_neg c, w64 (by omega) (by omega)]
theorem zq59 (l : List Int) (x : Int) (hl : l.length ≤ 35184372088832) : Ev (fun k => slices_Index_int_int.f k l x) (idxOf x l 0) :=
 zq58 x l [] (by simpa using hl)

theorem InB.all {par ord : List Int} (h : InB par ord ord.length) : ∀ (m : Nat) (v : Int), 0 ≤ v → v ≤ par.length → climb par m v = true → (∀ x ∈ par, 0 ≤ x ∧ x ≤ par.length) → v ∈ ord
 | 0, v, h0, h1, hc, _ => by
  simp only [climb, decide_eq_true_eq] at hc
  rw [show v = 0 by omega]
  exact h.zero
 | m + 1, v, h0, h1, hc, hp => by
  by_cases c : v > 0
  ·rw [climb, if_pos c] at hc
   have hr := hp _ (rd_mem par (v - 1) (by omega) (by omega))
   have ih := InB.all h m (rd par (v - 1)) hr.1 hr.2 hc hp
   refine (h.has v (by omega) h1).2 ?_
   rw [List.take_length]
   exact ih
  ·rw [show v = 0 by omega]
   exact h.zero
theorem zq60 (par : List Int) (ht : isTr par = true) (v : Int) (h0 : 0 ≤ v) (h1 : v ≤ par.length) : v ∈ breadthS par := by
 obtain ⟨_, h2, h3⟩ := (zq47 par).1 ht
 have h := bfs_in par (par.length + 1) [0] 0 (InB.first par) (by omega)
 by_cases c : v = 0
 ·rw [c]; exact h.zero
 ·exact h.all par.length v h0 h1 (h3 v (by omega) h1) h2

def ordP (l : List Int) : Nat → List Int
 | 0 => [0]
 | k + 1 => ordP l k ++ kids l k
theorem zq61 (k : Int) : ∀ l : List Int, cnt (fun x => decide (x < k + 1)) l = cnt (fun x => decide (x < k)) l + cnt (fun x => decide (x = k)) l
 | [] => rfl
 | h :: t => by
  have ih := zq61 k t
  simp only [cnt]
  by_cases c : h < k
  ·rw [if_pos (by simp; omega), if_pos (by simpa using c), if_neg (by simp; omega)]
   omega
  ·by_cases d : h = k
   ·rw [if_pos (by simp; omega), if_neg (by simpa using c), if_pos (by simpa using d)]
    omega
   ·rw [if_neg (by simp; omega), if_neg (by simpa using c), if_neg (by simpa using d)]
    omega
theorem zq62 (l : List Int) (hl : ∀ x ∈ l, 0 ≤ x) : ∀ k : Nat, ((ordP l k).length : Int) = 1 + cnt (fun x => decide (x < (k : Int))) l
 | 0 => by
  have : cnt (fun x => decide (x < ((0 : Nat) : Int))) l = 0 := by
   rw [cnt_len]
   rw [List.filter_eq_nil_iff.2 fun x hx => by have := hl x hx; simp; omega]
   rfl
  rw [this]
  rfl
 | k + 1 => by
  rw [ordP, List.length_append, show (((k + 1 : Nat) : Int)) = (k : Int) + 1 by omega, zq61]
  have h1 := zq62 l hl k
  have h2 := zq46 l (k : Int)
  omega
theorem zq63 (l : List Int) (hl : ∀ x ∈ l, 0 ≤ x) (x : Int) : ∀ k : Nat, x ∈ ordP l k ↔ x = 0 ∨ 1 ≤ x ∧ x ≤ l.length ∧ rd l (x - 1) < k
 | 0 => by
  rw [ordP, List.mem_singleton]
  constructor
  ·exact .inl
  ·rintro (h | ⟨h1, h2, h3⟩)
   ·exact h
   ·have := hl _ (rd_mem l (x - 1) (by omega) (by omega)); omega
 | k + 1 => by
  rw [ordP, List.mem_append, zq63 l hl x k, zq50]
  constructor
  ·rintro ((h | ⟨h1, h2, h3⟩) | ⟨h1, h2, h3⟩)
   ·exact .inl h
   ·exact .inr ⟨h1, h2, by omega⟩
   ·exact .inr ⟨h1, h2, by omega⟩
  ·rintro (h | ⟨h1, h2, h3⟩)
   ·exact .inl (.inl h)
   ·by_cases e : rd l (x - 1) = k
    ·exact .inr ⟨h1, h2, e⟩
    ·exact .inl (.inr ⟨h1, h2, by omega⟩)
theorem zq64 (l : List Int) (hl : ∀ x ∈ l, 0 ≤ x) : ∀ k : Nat, (ordP l k).Nodup
 | 0 => by simp [ordP]
 | k + 1 => by
  rw [ordP]
  refine List.nodup_append.2 ⟨zq64 l hl k, zq51 l k, fun a ha b hb e => ?_⟩
  subst e
  obtain ⟨h1, h2, h3⟩ := (zq50 l k a).1 hb
  rcases (zq63 l hl a k).1 ha with h | ⟨_, _, h⟩ <;> omega
theorem zq65 (l : List Int) (k : Nat) : ∀ d : Nat, ∃ s, ordP l (k + d) = ordP l k ++ s
 | 0 => ⟨[], by simp⟩
 | d + 1 => by
  obtain ⟨s, h⟩ := zq65 l k d
  exact ⟨s ++ kids l ((k + d : Nat) : Int), by rw [← Nat.add_assoc, ordP, h, List.append_assoc]⟩
theorem zq66 (q q' : Int → Bool) : ∀ (l : List Int) (i : Int), (∀ x ∈ l, q x = q' x) → places q l i = places q' l i
 | [], i, _ => rfl
 | h :: t, i, hh => by rw [places, places, hh h (by simp), zq66 q q' t (i + 1) fun x hx => hh x (by simp [hx])]
theorem zq67 (q : Int → Bool) (f : Int → Int) : ∀ (l : List Int) (i : Int), places q (l.map f) i = places (fun x => q (f x)) l i
 | [], i => rfl
 | h :: t, i => by rw [List.map_cons, places, places, zq67 q f t]
theorem zq68 (l : List Int) (f : Int → Int) (v k : Int) (h : ∀ x ∈ l, f x = v ↔ x = k) : kids (l.map f) v = kids l k := by
 unfold kids
 rw [zq67, zq66 _ (fun p => decide (p = k)) l 0 fun x hx => decide_eq_decide.2 (h x hx)]
theorem rd_inj {l : List Int} (h : l.Nodup) {i j : Int} (hi0 : 0 ≤ i) (hi : i < l.length) (hj0 : 0 ≤ j) (hj : j < l.length) (e : rd l i = rd l j) : i = j := by
 unfold rd at e
 rw [List.getD_eq_getElem?_getD, List.getD_eq_getElem?_getD, List.getElem?_eq_getElem (by omega), List.getElem?_eq_getElem (by omega)] at e
 have e' : l[i.toNat]'(by omega) = l[j.toNat]'(by omega) := e
 rcases Nat.lt_trichotomy i.toNat j.toNat with h1 | h1 | h1
 ·exact absurd e' (zq48 h h1 (by omega))
 ·omega
 ·exact absurd e'.symm (zq48 h h1 (by omega))
theorem zq69 {l : List Int} (h : l.Nodup) (k : Int) (h0 : 0 ≤ k) (h1 : k < l.length) : idxOf (rd l k) l 0 = k := by
 obtain ⟨h2, h3, h4⟩ := (zq57 (rd l k) l 0 (by omega)).1 (rd_mem l k h0 h1)
 rw [Int.sub_zero] at h4
 exact rd_inj h h2 (by omega) h0 h1 h4
def parP (l : List Int) : List Int := l.map fun x => rd (ordP l l.length) x
theorem zq70 (l : List Int) (hpf : pf l = true) (k : Nat) (hk : k ≤ l.length) : (k : Int) < (ordP l k).length := by
 obtain ⟨h8, h2, _⟩ := (pf_iff l).1 hpf
 rw [zq62 l (fun x hx => (h2 x hx).1)]
 have := zq19 l hpf k hk
 omega
theorem zq71 (l : List Int) (hpf : pf l = true) : (ordP l l.length).length = l.length + 1 := by
 obtain ⟨h8, h2, _⟩ := (pf_iff l).1 hpf
 have h := zq62 l (fun x hx => (h2 x hx).1) l.length
 have e : cnt (fun x => decide (x < (l.length : Int))) l = l.length := by
  rw [cnt_len, List.filter_eq_self.2 fun x hx => by have := h2 x hx; simp; omega]
 omega
theorem zq72 (l : List Int) (hpf : pf l = true) : kids l (l.length : Int) = [] := by
 obtain ⟨h8, h2, _⟩ := (pf_iff l).1 hpf
 refine List.eq_nil_iff_forall_not_mem.2 fun x hx => ?_
 obtain ⟨h3, h4, h5⟩ := (zq50 l _ x).1 hx
 have := h2 _ (rd_mem l (x - 1) (by omega) (by omega))
 omega
theorem rd_ordP (l : List Int) (hpf : pf l = true) (k : Nat) (hk : k ≤ l.length) : rd (ordP l l.length) k = rd (ordP l k) k := by
 obtain ⟨s, hs⟩ := zq65 l k (l.length - k)
 rw [show k + (l.length - k) = l.length by omega] at hs
 rw [hs, zq2 _ _ _ (by omega) (zq70 l hpf k hk)]
theorem zq73 (l : List Int) (hpf : pf l = true) (k : Nat) (hk : k ≤ l.length) : kids (parP l) (rd (ordP l k) k) = kids l k := by
 obtain ⟨h8, h2, _⟩ := (pf_iff l).1 hpf
 have hl := zq71 l hpf
 rw [parP, ← rd_ordP l hpf k hk]
 refine zq68 l _ _ _ fun x hx => ?_
 have := h2 x hx
 exact ⟨fun e => rd_inj (zq64 l (fun x hx => (h2 x hx).1) l.length) (by omega) (by omega) (by omega) (by omega) e, fun e => by rw [e]⟩
theorem zq74 (l : List Int) (hpf : pf l = true) : ∀ (d k : Nat), k + d = l.length + 1 → bfs (parP l) d (ordP l k) k = ordP l (l.length + 1)
 | 0, k, hd => by rw [bfs, show k = l.length + 1 by omega]
 | d + 1, k, hd => by
  have h := zq70 l hpf k (by omega)
  rw [bfs, if_pos (by omega), zq73 l hpf k (by omega)]
  exact zq74 l hpf d (k + 1) (by omega)
theorem zq75 (l : List Int) (hpf : pf l = true) : breadthS (parP l) = ordP l l.length := by
 have h := zq74 l hpf (l.length + 1) 0 (by omega)
 have e : (parP l).length = l.length := by simp [parP]
 have h' : ordP l (l.length + 1) = ordP l l.length := by rw [ordP, zq72 l hpf, List.append_nil]
 rw [breadthS, e, ← h']
 exact h
theorem zq76 (l : List Int) (hpf : pf l = true) : (parP l).map (fun x => idxOf x (breadthS (parP l)) 0) = l := by
 obtain ⟨h8, h2, _⟩ := (pf_iff l).1 hpf
 have hl := zq71 l hpf
 rw [zq75 l hpf, parP, List.map_map]
 have : ∀ x ∈ l, ((fun x => idxOf x (ordP l l.length) 0) ∘ fun x => rd (ordP l l.length) x) x = x := fun x hx => by
  have := h2 x hx
  exact zq69 (zq64 l (fun x hx => (h2 x hx).1) l.length) x (by omega) (by omega)
 rw [List.map_congr_left this]
 simp
theorem zq77 (l : List Int) (hpf : pf l = true) : ∀ (m j : Nat), j ≤ m → j ≤ l.length → climb (parP l) m (rd (ordP l l.length) j) = true := by
 obtain ⟨h8, h2, _⟩ := (pf_iff l).1 hpf
 have hl := zq71 l hpf
 have h0 : ∀ x ∈ l, 0 ≤ x := fun x hx => (h2 x hx).1
 have hz : rd (ordP l l.length) ((0 : Nat) : Int) = 0 := by rw [rd_ordP l hpf 0 (by omega)]; rfl
 intro m
 induction m with
 | zero =>
  intro j hj _
  rw [show j = 0 by omega, hz]
  rfl
 | succ m ih =>
  intro j hj hjl
  rw [climb]
  split
  ·rename_i hv
   rcases (zq63 l h0 _ l.length).1 (rd_mem (ordP l l.length) j (by omega) (by omega)) with e | ⟨h3, h4, h5⟩
   ·omega
   ·have hb := h2 _ (rd_mem l (rd (ordP l l.length) j - 1) (by omega) (by omega))
    have hr : rd (parP l) (rd (ordP l l.length) j - 1) = rd (ordP l l.length) (rd l (rd (ordP l l.length) j - 1)) := by
     have e1 : rd (parP l) (rd (ordP l l.length) j - 1) = (parP l).getD (rd (ordP l l.length) j - 1).toNat 0 := rfl
     have e2 : rd l (rd (ordP l l.length) j - 1) = l.getD (rd (ordP l l.length) j - 1).toNat 0 := rfl
     rw [e1, e2, parP, List.getD_eq_getElem?_getD, List.getD_eq_getElem?_getD, List.getElem?_map, List.getElem?_eq_getElem (by omega)]
     rfl
    rw [hr]
    generalize hkk : rd l (rd (ordP l l.length) j - 1) = kk at *
    have hlt : kk < (j : Int) := by
     refine Classical.byContradiction fun hc => ?_
     have hm : rd (ordP l l.length) j ∈ ordP l kk.toNat := by
      obtain ⟨s, hs⟩ := zq65 l kk.toNat (l.length - kk.toNat)
      rw [show kk.toNat + (l.length - kk.toNat) = l.length by omega] at hs
      have hmore := zq70 l hpf kk.toNat (by omega)
      rw [hs, zq2 _ _ _ (by omega) (by omega)]
      exact rd_mem _ _ (by omega) (by omega)
     rcases (zq63 l h0 _ kk.toNat).1 hm with e | ⟨_, _, e⟩
     ·omega
     ·omega
    have := ih kk.toNat (by omega) (by omega)
    rw [show ((kk.toNat : Nat) : Int) = kk by omega] at this
    exact this
  ·rfl
theorem zq78 (l : List Int) (hpf : pf l = true) : isTr (parP l) = true := by
 obtain ⟨h8, h2, _⟩ := (pf_iff l).1 hpf
 have hl := zq71 l hpf
 have h0 : ∀ x ∈ l, 0 ≤ x := fun x hx => (h2 x hx).1
 have e : (parP l).length = l.length := by simp [parP]
 refine (zq47 _).2 ⟨by omega, fun x hx => ?_, fun a h3 h4 => ?_⟩
 ·obtain ⟨y, hy, rfl⟩ := List.mem_map.1 hx
  have := h2 y hy
  rcases (zq63 l h0 _ l.length).1 (rd_mem (ordP l l.length) y (by omega) (by omega)) with e2 | ⟨h5, h6, _⟩
  ·omega
  ·omega
 ·have hm : a ∈ ordP l l.length := (zq63 l h0 a l.length).2 (.inr ⟨h3, by omega, by have := h2 _ (rd_mem l (a - 1) (by omega) (by omega)); omega⟩)
  obtain ⟨j, hj, e2⟩ := List.mem_iff_getElem.1 hm
  have := zq77 l hpf l.length j (by omega) (by omega)
  rw [rd_nat, List.getD_eq_getElem?_getD, List.getElem?_eq_getElem hj] at this
  rw [e, ← e2]
  exact this

theorem rd_set (l : List Int) (i j : Nat) (x : Int) (hi : i < l.length) : rd (l.set i x) (j : Int) = if j = i then x else rd l (j : Int) := by
 rw [rd_nat, rd_nat, List.getD_eq_getElem?_getD, List.getD_eq_getElem?_getD]
 by_cases c : j = i
 ·rw [if_pos c, c, List.getElem?_set_self hi]; rfl
 ·rw [if_neg c, List.getElem?_set_ne (fun e => c e.symm)]

theorem rd_map (f : Int → Int) (l : List Int) (j : Nat) (hj : j < l.length) : rd (l.map f) j = f (rd l j) := by
 rw [rd_nat, rd_nat, List.getD_eq_getElem?_getD, List.getD_eq_getElem?_getD, List.getElem?_map, List.getElem?_eq_getElem hj]
 rfl
theorem ext_rd (a b : List Int) (hl : a.length = b.length) (h : ∀ j : Nat, j < a.length → rd a j = rd b j) : a = b := by
 refine List.ext_getElem hl fun j h1 h2 => ?_
 have := h j h1
 rw [rd_nat, rd_nat, List.getD_eq_getElem?_getD, List.getD_eq_getElem?_getD, List.getElem?_eq_getElem h1, List.getElem?_eq_getElem h2] at this
 exact this
theorem zq79 (v : Int) : ∀ (t l : List Int), (∀ i ∈ t, 0 ≤ i ∧ i < l.length) → ∀ j : Nat, j < l.length → rd (setAll l v t) j = if (j : Int) ∈ t then v else rd l j
 | [], l, _, j, _ => by simp [setAll]
 | i :: t, l, h, j, hj => by
  have hi := h i (by simp)
  rw [setAll, zq79 v t (l.set i.toNat v) (fun x hx => by rw [List.length_set]; exact h x (by simp [hx])) j (by simpa using hj), rd_set l i.toNat j v (by omega)]
  by_cases c : (j : Int) ∈ t
  ·rw [if_pos c, if_pos (by simp [c])]
  ·rw [if_neg c]
   by_cases e : j = i.toNat
   ·rw [if_pos e, if_pos (by simp; left; omega)]
   ·rw [if_neg e, if_neg (by simp [c]; omega)]
def parK (l : List Int) (k : Nat) : List Int := l.map fun x => if x < (k : Int) then rd (ordP l l.length) x else 0
theorem zq80 (l : List Int) (hpf : pf l = true) : parK l 0 = List.replicate l.length 0 := by
 obtain ⟨h8, h2, _⟩ := (pf_iff l).1 hpf
 rw [parK, List.map_congr_left (g := fun _ => (0 : Int)) fun x hx => if_neg (by have := h2 x hx; omega)]
 exact List.map_const' ..
theorem zq81 (l : List Int) (hpf : pf l = true) : parK l l.length = parP l := by
 obtain ⟨h8, h2, _⟩ := (pf_iff l).1 hpf
 exact List.map_congr_left fun x hx => if_pos (by have := h2 x hx; omega)
theorem zq82 (l : List Int) (hpf : pf l = true) (k : Nat) (hk : k ≤ l.length) : setAll (parK l k) (rd (ordP l k) k) (places (fun x => decide (x = (k : Int))) l 0) = parK l (k + 1) := by
 have hlen : (parK l k).length = l.length := by simp [parK]
 have hpl : ∀ i ∈ places (fun x => decide (x = (k : Int))) l 0, 0 ≤ i ∧ i < (parK l k).length := fun i hi => by
  obtain ⟨j, w, h1, _, e⟩ := (zq39 _ _ _ _).1 hi
  have := (List.getElem?_eq_some_iff.1 h1).1
  omega
 refine ext_rd _ _ (by rw [zq43]; simp [parK]) fun j hj => ?_
 rw [zq43] at hj
 rw [zq79 _ _ _ hpl j hj, parK, parK, rd_map _ l j (by omega), rd_map _ l j (by omega)]
 have hm : (j : Int) ∈ places (fun x => decide (x = (k : Int))) l 0 ↔ rd l j = k := by
  rw [zq39]
  constructor
  ·rintro ⟨i, w, h1, h2, h3⟩
   have e : i = j := by omega
   subst e
   rw [rd_nat, List.getD_eq_getElem?_getD, h1]
   simpa using h2
  ·intro e
   refine ⟨j, rd l j, ?_, by simpa using e, by omega⟩
   rw [rd_nat, List.getD_eq_getElem?_getD, List.getElem?_eq_getElem (by omega)]
   rfl
 by_cases c : rd l j = k
 ·rw [if_pos (hm.2 c), if_pos (by omega), c, rd_ordP l hpf k hk]
 ·rw [if_neg (fun h => c (hm.1 h))]
  by_cases d : rd l j < (k : Int)
  ·rw [if_pos d, if_pos (by omega)]
  ·rw [if_neg d, if_neg (by omega)]
theorem top_l0 (l : List Int) (hpf : pf l = true) : ∀ (d k : Nat), k + d = l.length →
  Ev (fun kk => spec_TreeOfParking.l0 kk l (parK l k) (ordP l k) (k : Int)) (parP l, true) ∧ Ev (fun kk => impl_TreeOfParking.l0 kk l (ordP l k) (parK l k) (l.length : Int) (k : Int)) (parP l, true)
 | 0, k, hk => by
  obtain ⟨h8, h2, _⟩ := (pf_iff l).1 hpf
  have hkl : k = l.length := by omega
  subst hkl
  have hlen := zq71 l hpf
  have hnone : places (fun x => decide (x = (l.length : Int))) l 0 = [] := by
   have := zq72 l hpf
   unfold kids at this
   exact List.map_eq_nil_iff.1 this
  refine ⟨?_, Ev.ret fun kk => by rw [impl_TreeOfParking.l0, if_neg (by omega), zq81 l hpf]⟩
  refine Ev.step (f := fun kk => spec_TreeOfParking.l1 kk l (parK l l.length) (ordP l l.length) (l.length : Int) l (l.length : Int) 0) (fun kk => ?_) (zq44 l l.length rfl h8 l.length (by omega) (rd (ordP l l.length) l.length) _ l [] (parK l l.length) (ordP l l.length) rfl (by simp [parK]) (by omega) rfl (by simp; omega) ?_)
  ·rw [spec_TreeOfParking.l0, if_pos (by omega)]
  ·simp only [List.length_nil]
   have e0 : ((0 : Nat) : Int) = 0 := rfl
   rw [e0, hnone]
   simp only [setAll, List.map_nil, List.append_nil]
   refine Ev.ret fun kk => ?_
   rw [spec_TreeOfParking.l0, if_neg (by omega), zq81 l hpf]
 | d + 1, k, hk => by
  obtain ⟨h8, h2, _⟩ := (pf_iff l).1 hpf
  have hmore := zq70 l hpf k (by omega)
  have hol := zq62 l (fun x hx => (h2 x hx).1) k
  have hcr := (zq9 (fun x => decide (x < (k : Int))) l).2
  have hst := zq82 l hpf k (by omega)
  have hpl := zq38 (fun x => decide (x = (k : Int))) l 0
  have hcr2 := (zq9 (fun x => decide (x = (k : Int))) l).2
  obtain ⟨h4, h5⟩ := top_l0 l hpf d (k + 1) (by omega)
  have ek : ((k + 1 : Nat) : Int) = (k : Int) + 1 := by omega
  rw [ek, ← hst, ordP] at h4 h5
  refine ⟨?_, ?_⟩
  ·refine Ev.step (f := fun kk => spec_TreeOfParking.l1 kk l (parK l k) (ordP l k) (k : Int) l (l.length : Int) 0) (fun kk => ?_) (zq44 l l.length rfl h8 k (by omega) (rd (ordP l k) k) _ l [] (parK l k) (ordP l k) rfl (by simp [parK]) (by omega) rfl (by simp; omega) h4)
   rw [spec_TreeOfParking.l0, if_pos (by omega)]
  ·have hidx : Ev (fun kk => impl_TreeOfParking_1.f kk l (k : Int)) (places (fun x => decide (x = (k : Int))) l 0) := zq42 (impl_TreeOfParking_1.p (k : Int)) l (by omega)
   refine Ev.step (f := fun kk => (impl_TreeOfParking_1.f kk l (k : Int)).bind fun t => impl_TreeOfParking.l1 kk l (ordP l k) (parK l k) (l.length : Int) (k : Int) t (t.length : Int) 0 (k : Int)) (fun kk => ?_) (Ev.bind hidx ?_)
   ·rw [impl_TreeOfParking.l0, if_pos (by omega)]
   ·exact zq45 l l.length h8 k (by omega) (rd (ordP l k) k) (parP l, true) (places (fun x => decide (x = (k : Int))) l 0) [] (parK l k) (ordP l k) (by simp; omega) (by simp [parK]) (fun i hi => by
     obtain ⟨j, w, h6, _, e⟩ := (zq39 _ _ _ _).1 hi
     have := (List.getElem?_eq_some_iff.1 h6).1
     omega) (by omega) rfl (by simp; omega) h5
theorem zq83 (l : List Int) (hl : l.length ≤ 35184372088832) : Ev (fun k => spec_TreeOfParking.f k l) (if pf l = true then (parP l, true) else ([], false)) ∧ Ev (fun k => impl_TreeOfParking.f k l) (if pf l = true then (parP l, true) else ([], false)) := by
 cases c : pf l with
 | false =>
  rw [if_neg (by simp)]
  refine ⟨?_, ?_⟩
  ·refine Ev.congr (fun k => rfl) (Ev.bind (zq28 l hl) ?_)
   rw [c]; exact Ev.now _
  ·refine Ev.congr (fun k => rfl) (Ev.bind (zq37 l hl) ?_)
   rw [c]; exact Ev.now _
 | true =>
  rw [if_pos rfl]
  obtain ⟨h4, h5⟩ := top_l0 l c l.length 0 (by omega)
  rw [zq80 l c] at h4 h5
  refine ⟨?_, ?_⟩
  ·refine Ev.congr (fun k => rfl) (Ev.bind (zq28 l hl) ?_)
   rw [c]
   exact Ev.congr (fun k => by rw [if_pos rfl, if_pos (by omega), if_pos (by simpa using hl)]; rfl) h4
  ·refine Ev.congr (fun k => rfl) (Ev.bind (zq37 l hl) ?_)
   rw [c]
   exact Ev.congr (fun k => by rw [if_pos rfl, if_pos (by omega), if_pos (by simpa using hl)]; rfl) h5

theorem zq84 (par : List Int) : ∀ (d : Nat) (ord : List Int) (k : Nat), ∃ s, bfs par d (0 :: ord) k = 0 :: s
 | 0, ord, k => ⟨ord, rfl⟩
 | d + 1, ord, k => by
  rw [bfs]
  split
  ·exact zq84 par d (ord ++ kids par (rd (0 :: ord) k)) (k + 1)
  ·exact ⟨ord, rfl⟩

def favT (t : List Int) : List Int := t.map fun x => idxOf x (breadthS t) 0
theorem zq85 (t : List Int) : ∀ (d : Nat) (ord : List Int) (k : Nat), ∃ s, bfs t d ord k = ord ++ s
 | 0, ord, k => ⟨[], by simp [bfs]⟩
 | d + 1, ord, k => by
  rw [bfs]
  split
  ·obtain ⟨s, h⟩ := zq85 t d (ord ++ kids t (rd ord k)) (k + 1)
   exact ⟨kids t (rd ord k) ++ s, by rw [h, List.append_assoc]⟩
  ·exact ⟨[], by simp⟩
theorem zq86 (t : List Int) (ht : isTr t = true) : (breadthS t).length = t.length + 1 := by
 have h1 := zq52 t
 have h2 := all_in t.length ((breadthS t).tail) fun v h0 h1 => by
  have hm := zq60 t ht v (by omega) h1
  obtain ⟨s, hs⟩ := zq84 t (t.length + 1) [] 0
  have hs' : breadthS t = 0 :: s := hs
  rw [hs'] at hm ⊢
  rcases List.mem_cons.1 hm with e | e
  ·omega
  ·exact e
 rw [List.length_tail] at h2
 have h3 := List.length_pos_of_mem (zq60 t ht 0 (by omega) (by omega))
 omega
theorem zq87 (t : List Int) (ht : isTr t = true) (k : Nat) (hk : k ≤ t.length) : kids (favT t) k = kids t (rd (breadthS t) k) := by
 obtain ⟨h8, h2, _⟩ := (zq47 t).1 ht
 have hl := zq86 t ht
 have hnd : (breadthS t).Nodup := (bfs_in t (t.length + 1) [0] 0 (InB.first t) (by omega)).nd
 unfold kids
 rw [favT, zq67, zq66 _ (fun p => decide (p = rd (breadthS t) k)) t 0 fun x hx => decide_eq_decide.2 ?_]
 have hm := zq60 t ht x (h2 x hx).1 (h2 x hx).2
 obtain ⟨g1, g2, g3⟩ := (zq57 x (breadthS t) 0 (by omega)).1 hm
 rw [Int.sub_zero] at g3
 constructor
 ·intro e
  rw [← e, g3]
 ·intro e
  rw [e]
  exact zq69 hnd k (by omega) (by omega)
theorem zq88 (t : List Int) (ht : isTr t = true) : ∀ (d k : Nat), k + d = t.length + 1 → bfs t d (ordP (favT t) k) k = breadthS t → (∀ j : Nat, k ≤ j → j ≤ t.length → (j : Int) < (ordP (favT t) j).length) ∧ ordP (favT t) (t.length + 1) = breadthS t
 | 0, k, hd, h => by
  have : k = t.length + 1 := by omega
  subst this
  exact ⟨fun j h1 h2 => by omega, h⟩
 | d + 1, k, hd, h => by
  have hl := zq86 t ht
  by_cases c : k < (ordP (favT t) k).length
  ·obtain ⟨s, hs⟩ := zq85 t (d + 1) (ordP (favT t) k) k
   rw [h] at hs
   have hr : rd (breadthS t) k = rd (ordP (favT t) k) k := by rw [hs, zq2 _ _ _ (by omega) (by omega)]
   rw [bfs, if_pos c, ← hr, ← zq87 t ht k (by omega)] at h
   obtain ⟨h1, h2⟩ := zq88 t ht d (k + 1) (by omega) h
   refine ⟨fun j hj hj2 => ?_, h2⟩
   by_cases e : j = k
   ·rw [e]; omega
   ·exact h1 j (by omega) hj2
  ·rw [bfs, if_neg c] at h
   rw [h] at c
   omega
theorem zq89 (t : List Int) : (favT t).length = t.length := by simp [favT]
theorem zq90 (t : List Int) (ht : isTr t = true) : ∀ x ∈ favT t, 0 ≤ x ∧ x ≤ t.length := fun y hy => by
 obtain ⟨h8, h2, _⟩ := (zq47 t).1 ht
 have hl := zq86 t ht
 obtain ⟨x, hx, rfl⟩ := List.mem_map.1 hy
 have hm := zq60 t ht x (h2 x hx).1 (h2 x hx).2
 obtain ⟨g1, g2, _⟩ := (zq57 x (breadthS t) 0 (by omega)).1 hm
 omega
theorem zq91 (t : List Int) (ht : isTr t = true) : (∀ j : Nat, j ≤ t.length → (j : Int) < (ordP (favT t) j).length) ∧ ordP (favT t) (t.length + 1) = breadthS t := by
 obtain ⟨h1, h2⟩ := zq88 t ht (t.length + 1) 0 (by omega) rfl
 exact ⟨fun j hj => h1 j (by omega) hj, h2⟩
theorem zq92 (t : List Int) (ht : isTr t = true) : kids (favT t) (t.length : Int) = [] := by
 obtain ⟨h1, h2⟩ := zq91 t ht
 have hl := zq86 t ht
 have h3 := h1 t.length (Nat.le_refl _)
 rw [← h2, ordP, List.length_append] at hl
 exact List.eq_nil_of_length_eq_zero (by omega)
theorem zq93 (t : List Int) (ht : isTr t = true) : ordP (favT t) t.length = breadthS t := by
 have h := (zq91 t ht).2
 rw [ordP, zq92 t ht, List.append_nil] at h
 exact h
theorem pf_favT (t : List Int) (ht : isTr t = true) : pf (favT t) = true := by
 obtain ⟨h8, h2, _⟩ := (zq47 t).1 ht
 have hlen := zq89 t
 have hnn := zq90 t ht
 refine pf_conv _ (by omega) (fun x hx => ?_) fun s h0 h1 => ?_
 ·have h3 := hnn x hx
  refine ⟨h3.1, ?_⟩
  rw [hlen]
  refine Classical.byContradiction fun hc => ?_
  have e : x = t.length := by omega
  obtain ⟨i, hi, e2⟩ := List.mem_iff_getElem.1 hx
  have hk : ((i : Int) + 1) ∈ kids (favT t) (t.length : Int) := (zq50 _ _ _).2 ⟨by omega, by omega, by
   rw [show (i : Int) + 1 - 1 = (i : Int) by omega, rd_nat, List.getD_eq_getElem?_getD, List.getElem?_eq_getElem hi, e2, e]
   rfl⟩
  rw [zq92 t ht] at hk
  simp at hk
 ·have h3 := (zq91 t ht).1 s.toNat (by omega)
  have h4 := zq62 (favT t) (fun x hx => (hnn x hx).1) s.toNat
  rw [show ((s.toNat : Nat) : Int) = s by omega] at h3 h4
  have h5 := zq18 s (favT t)
  rw [cnt_len (fun x => decide (s ≤ x))]
  omega
theorem zq94 (t : List Int) (ht : isTr t = true) : parP (favT t) = t := by
 obtain ⟨h8, h2, _⟩ := (zq47 t).1 ht
 rw [parP, zq89, zq93 t ht, favT, List.map_map]
 have : ∀ x ∈ t, ((fun x => rd (breadthS t) x) ∘ fun x => idxOf x (breadthS t) 0) x = x := fun x hx => by
  have hm := zq60 t ht x (h2 x hx).1 (h2 x hx).2
  obtain ⟨_, _, g3⟩ := (zq57 x (breadthS t) 0 (by omega)).1 hm
  rw [Int.sub_zero] at g3
  exact g3
 rw [List.map_congr_left this]
 simp

theorem and255 (x : Int) (h0 : 0 ≤ x) (h1 : x < 18446744073709551616) : 0 ≤ Go.bits .and .u64 x 255 ∧ Go.bits .and .u64 x 255 ≤ 255 := by
 have h : Go.bits .and .u64 x 255 = x % 256 := bits_mask .u64 64 (by decide) wraps_u64 8 (by decide) x h0 h1
 rw [h]
 omega
theorem wrapu (x : Int) : 0 ≤ IntKind.u64.wrap x ∧ IntKind.u64.wrap x < 18446744073709551616 := by
 rw [IntKind.wrap_u64]
 omega
theorem zq95 (code : List Int) (hc : ∀ x ∈ code, 0 ≤ x ∧ x ≤ 255) (at_ seed : Int) (h0 : 0 ≤ at_) (h1 : at_ ≤ 1000000000000) :
  ∃ b s, spec_l1Cur_next.f code at_ seed = some (b, at_ + 1, s) ∧ 0 ≤ b ∧ b ≤ 255 := by
 have fin : ∀ q : Int, 0 ≤ wrap64 (Go.bits .and .u64 (IntKind.u64.wrap q / 1099511627776) 255) ∧ wrap64 (Go.bits .and .u64 (IntKind.u64.wrap q / 1099511627776) 255) ≤ 255 := fun q => by
  have hq := wrapu q
  have := and255 (IntKind.u64.wrap q / 1099511627776) (by omega) (by omega)
  rw [w64 (by omega) (by omega)]
  exact this
 unfold spec_l1Cur_next.f
 rw [w64 (x := at_ + 1) (by omega) (by omega)]
 by_cases c : at_ < (code.length : Int)
 ·have hb : 0 ≤ rd code at_ ∧ rd code at_ ≤ 255 := by
   refine hc _ ?_
   unfold rd
   rw [List.getD_eq_getElem?_getD, List.getElem?_eq_getElem (by omega)]
   exact List.getElem_mem _
  rw [if_pos c, if_pos h0]
  by_cases d : at_ + 1 ≤ (code.length : Int)
  ·rw [if_pos d]
   exact ⟨_, _, rfl, by rw [w64 (by omega) (by omega)]; exact hb⟩
  ·rw [if_neg d]
   exact ⟨_, _, rfl, fin _⟩
 ·rw [if_neg c]
  by_cases d : at_ + 1 ≤ (code.length : Int)
  ·rw [if_pos d]
   exact ⟨_, _, rfl, by omega, by omega⟩
  ·rw [if_neg d]
   exact ⟨_, _, rfl, fin _⟩
def Rdy (at_ : Int) (n : Int) : Prop := 0 ≤ at_ ∧ at_ ≤ n
theorem Rdy.mono {a n m : Int} (h : Rdy a n) (hm : n ≤ m) : Rdy a m := ⟨h.1, Int.le_trans h.2 hm⟩
theorem zq96 (code : List Int) (hc : ∀ x ∈ code, 0 ≤ x ∧ x ≤ 255) (at_ seed n : Int) (b : Int) (h : Rdy at_ b) (hb : b ≤ 100000000000) :
  ∃ v a s, spec_l1Cur_pick.f code at_ seed n = some (v, a, s) ∧ 0 ≤ v ∧ (v = 0 ∨ v < n) ∧ Rdy a (b + 2) := by
 obtain ⟨h0, h1⟩ := h
 unfold spec_l1Cur_pick.f
 by_cases c : n ≤ 1
 ·rw [if_pos c]
  exact ⟨0, at_, seed, rfl, by omega, .inl rfl, h0, by omega⟩
 ·rw [if_neg c]
  obtain ⟨x, s, e, hx0, hx1⟩ := zq95 code hc at_ seed h0 (by omega)
  rw [e, Option.bind_some]
  by_cases d : n > 200
  ·rw [if_pos d]
   obtain ⟨y, s2, e2, hy0, hy1⟩ := zq95 code hc (at_ + 1) s (by omega) (by omega)
   simp only [e2, Option.bind_some]
   rw [if_neg (by omega), w64 (x := x * 256) (by omega) (by omega), w64 (by omega) (by omega)]
   exact ⟨_, _, _, rfl, Int.tmod_nonneg _ (by omega), .inr (Int.tmod_lt_of_pos _ (by omega)), by omega, by omega⟩
  ·rw [if_neg d, if_neg (by omega)]
   exact ⟨_, _, _, rfl, Int.tmod_nonneg _ (by omega), .inr (Int.tmod_lt_of_pos _ (by omega)), by show 0 ≤ at_ + 1; omega, by show at_ + 1 ≤ b + 2; omega⟩
theorem zq97 (code : List Int) (hc : ∀ x ∈ code, 0 ≤ x ∧ x ≤ 255) (at_ seed : Int) (l : List Int) (hl : 1 ≤ l.length) (b : Int) (h : Rdy at_ b) (hb : b ≤ 100000000000) :
  ∃ v a s, spec_l1Cur_among.f code at_ seed l = some (v, a, s) ∧ v ∈ l ∧ Rdy a (b + 2) := by
 obtain ⟨v, a, s, e, h0, h1, h2⟩ := zq96 code hc at_ seed (l.length : Int) b h hb
 unfold spec_l1Cur_among.f
 rw [e, Option.bind_some]
 have hlt : v < (l.length : Int) := by omega
 show ∃ v' a' s', (if 0 ≤ v then (if v < (l.length : Int) then some (rd l v, a, s) else none) else none) = some (v', a', s') ∧ _
 rw [if_pos h0, if_pos hlt]
 refine ⟨_, _, _, rfl, ?_, h2⟩
 unfold rd
 rw [List.getD_eq_getElem?_getD, List.getElem?_eq_getElem (by omega)]
 exact List.getElem_mem _

theorem zq98 (l : List Int) (h : l.length < 17592186044416) : spec_l1Own.f l = some l := by
 unfold spec_l1Own.f
 simp only [Option.bind_some]
 rw [if_pos (by simp; omega)]
 simp

theorem park_l1 (code : List Int) (a s : Int) : ∀ (d : Nat) (l : List Int), l.length + d = 9 ∨ (d = 0 ∧ 9 ≤ l.length) → l.length ≤ 100000 →
  ∃ r : List Int, r.length ≤ l.length + d ∧ Ev (fun k => spec_l1Cur_park.l1 k l code a s) (r, a, s)
 | 0, l, h, hl => ⟨l, by omega, Ev.ret fun k => by rw [spec_l1Cur_park.l1, if_neg (by omega)]⟩
 | d + 1, l, h, hl => by
  obtain ⟨r, h1, h2⟩ := park_l1 code a s d (l ++ [0]) (by simp; omega) (by simp; omega)
  rw [List.length_append, List.length_singleton] at h1
  refine ⟨r, by omega, Ev.step (fun k => ?_) h2⟩
  show spec_l1Cur_park.l1 (k + 1) l code a s = _
  rw [spec_l1Cur_park.l1, if_pos (by omega), if_pos (by omega)]
theorem park_l0 (code : List Int) (hc : ∀ x ∈ code, 0 ≤ x ∧ x ≤ 255) : ∀ (d : Nat) (l : List Int) (at_ seed b : Int), d ≤ 1000 → l.length + d ≤ 2000 → Rdy at_ b → b + 4 * d ≤ 100000 →
  ∃ (r : List Int) (a s : Int), r.length ≤ l.length + d + 10 ∧ Rdy a (b + 4 * d + 10) ∧ Ev (fun k => spec_l1Cur_park.l0 k l (d : Int) code at_ seed) (r, a, s)
 | 0, l, at_, seed, b, hd, hl, hr, hb => by
  obtain ⟨w, a1, s1, e1, w0, w1, r1⟩ := zq96 code hc at_ seed 20 b hr (by omega)
  by_cases c0 : w = 0
  ·obtain ⟨x, a2, s2, e2, x0, r2⟩ := zq97 code hc a1 s1 [-1, 0, (l.length : Int), wrap64 ((l.length : Int) + 1), 99, 100] (by simp) (b + 2) r1 (by omega)
   refine ⟨l ++ [x], a2, s2, by simp, r2.mono (by omega), Ev.ret fun k => ?_⟩
   rw [spec_l1Cur_park.l0, if_neg (by omega), e1, Option.bind_some, if_pos c0, e2, Option.bind_some, if_pos (by omega)]
  ·by_cases c1 : w = 1
   ·by_cases c2 : (l.length : Int) > 0
    ·obtain ⟨x, a2, s2, e2, x0, x1, r2⟩ := zq96 code hc a1 s1 (l.length : Int) (b + 2) r1 (by omega)
     obtain ⟨y, a3, s3, e3, y0, y1, r3⟩ := zq96 code hc a2 s2 (l.length : Int) (b + 2 + 2) r2 (by omega)
     refine ⟨l.set x.toNat y, a3, s3, by rw [List.length_set]; omega, r3.mono (by omega), Ev.ret fun k => ?_⟩
     rw [spec_l1Cur_park.l0, if_neg (by omega), e1, Option.bind_some, if_neg c0, if_pos c1, if_pos c2, e2, Option.bind_some]
     simp only [e3, Option.bind_some]
     rw [if_pos x0, if_pos (by omega)]
    ·refine ⟨l, a1, s1, by omega, r1.mono (by omega), Ev.ret fun k => ?_⟩
     rw [spec_l1Cur_park.l0, if_neg (by omega), e1, Option.bind_some, if_neg c0, if_pos c1, if_neg c2]
   ·by_cases c2 : w = 2
    ·obtain ⟨r, h1, h2⟩ := park_l1 code a1 s1 (9 - l.length) l (by omega) (by omega)
     refine ⟨r, a1, s1, by omega, r1.mono (by omega), Ev.step (fun k => ?_) h2⟩
     rw [spec_l1Cur_park.l0, if_neg (by omega), e1, Option.bind_some, if_neg c0, if_neg c1, if_pos c2]
    ·refine ⟨l, a1, s1, by omega, r1.mono (by omega), Ev.ret fun k => ?_⟩
     rw [spec_l1Cur_park.l0, if_neg (by omega), e1, Option.bind_some, if_neg c0, if_neg c1, if_neg c2]
 | d + 1, l, at_, seed, b, hd, hl, hr, hb => by
  obtain ⟨x, a1, s1, e1, x0, x1, r1⟩ := zq96 code hc at_ seed ((l.length : Int) + 1) b hr (by omega)
  obtain ⟨y, a2, s2, e2, y0, y1, r2⟩ := zq96 code hc a1 s1 ((l.length : Int) + 1) (b + 2) r1 (by omega)
  obtain ⟨r, a, s, h1, h2, h3⟩ := park_l0 code hc d (l.take y.toNat ++ [x] ++ l.drop y.toNat) a2 s2 (b + 2 + 2) (by omega) (by simp; omega) r2 (by omega)
  have hlen : (l.take y.toNat ++ [x] ++ l.drop y.toNat).length = l.length + 1 := by simp; omega
  refine ⟨r, a, s, by omega, h2.mono (by omega), Ev.step (fun k => ?_) h3⟩
  show spec_l1Cur_park.l0 (k + 1) l ((d + 1 : Nat) : Int) code at_ seed = _
  have ho : spec_l1Own.f (l.take y.toNat) = some (l.take y.toNat) := zq98 _ (by simp; omega)
  have w1 : wrap64 ((l.length : Int) + 1) = (l.length : Int) + 1 := w64 (by omega) (by omega)
  have w2 : wrap64 (((d + 1 : Nat) : Int) - 1) = (d : Int) := by rw [w64 (by omega) (by omega)]; omega
  rw [spec_l1Cur_park.l0, if_pos (by omega), w1, w2, e1, Option.bind_some]
  simp only [e2, Option.bind_some]
  rw [if_pos y0, if_pos (by omega), ho, Option.bind_some, if_pos (by simp; omega), if_pos (by simp; omega)]
theorem zq99 (code : List Int) (hc : ∀ x ∈ code, 0 ≤ x ∧ x ≤ 255) (at_ seed : Int) (most : Nat) (hm : most ≤ 100) (b : Int) (h : Rdy at_ b) (hb : b ≤ 10000) :
  ∃ (r : List Int) (a s : Int), r.length ≤ 200 ∧ Rdy a (b + 1000) ∧ Ev (fun k => spec_l1Cur_park.f k code at_ seed (most : Int)) (r, a, s) := by
 obtain ⟨n, a1, s1, e1, n0, n1, r1⟩ := zq96 code hc at_ seed ((most : Int) + 1) b h (by omega)
 obtain ⟨r, a, s, h1, h2, h3⟩ := park_l0 code hc n.toNat [] a1 s1 (b + 2) (by omega) (by simp; omega) r1 (by omega)
 rw [show ((n.toNat : Nat) : Int) = n by omega] at h2 h3
 simp only [List.length_nil] at h1
 refine ⟨r, a, s, by omega, h2.mono (by omega), Ev.congr (fun k => ?_) h3⟩
 show spec_l1Cur_park.f k code at_ seed (most : Int) = _
 rw [spec_l1Cur_park.f, w64 (by omega) (by omega), e1, Option.bind_some]

theorem wrapi (x : Int) : -9223372036854775808 ≤ wrap64 x ∧ wrap64 x ≤ 9223372036854775807 := by
 unfold wrap64
 omega
theorem zq100 (n : Int) (hn : n ≤ 1000) : ∀ (d : Nat) (a i : Int), 1 ≤ i → i + d = n ∨ (d = 0 ∧ n ≤ i) → a ≤ 9223372036854775807 →
  ∃ r, r ≤ 9223372036854775807 ∧ Ev (fun k => spec_trCount.l0 k n a i) r
 | 0, a, i, hi, hd, ha => ⟨a, ha, Ev.ret fun k => by rw [spec_trCount.l0, if_neg (by omega)]⟩
 | d + 1, a, i, hi, hd, ha => by
  obtain ⟨r, hr, ih⟩ := zq100 n hn d (wrap64 (a * (wrap64 (n + 1)))) (i + 1) (by omega) (by omega) (wrapi _).2
  refine ⟨r, hr, Ev.step (fun k => ?_) ih⟩
  show spec_trCount.l0 (k + 1) n a i = _
  rw [spec_trCount.l0, if_pos (by omega), w64 (x := i + 1) (by omega) (by omega)]
theorem zq101 (base : Int) (hb : 1 ≤ base) (hb2 : base ≤ 1000) (n : Nat) (hn : n ≤ 1000) : ∀ (d : Nat) (num : Int) (w : List Int), 0 ≤ num → num ≤ 9223372036854775807 → w.length = n → d ≤ n → (∀ x ∈ w, 0 ≤ x ∧ x < base) →
  ∃ r : List Int, r.length = n ∧ (∀ x ∈ r, 0 ≤ x ∧ x < base) ∧ Ev (fun k => spec_trWord.l0 k base num w ((d : Int) - 1)) r
 | 0, num, w, h0, h1, hw, hd, hx => ⟨w, hw, hx, Ev.ret fun k => by rw [spec_trWord.l0, if_neg (by omega)]⟩
 | d + 1, num, w, h0, h1, hw, hd, hx => by
  have hq0 : 0 ≤ Int.tdiv num base := Int.tdiv_nonneg h0 (by omega)
  have hq1 : Int.tdiv num base ≤ num := by
   rw [Int.tdiv_eq_ediv_of_nonneg h0]
   exact Int.ediv_le_self _ h0
  have hm0 : 0 ≤ Int.tmod num base := Int.tmod_nonneg _ h0
  have hm1 : Int.tmod num base < base := Int.tmod_lt_of_pos _ (by omega)
  obtain ⟨r, hr, hx2, ih⟩ := zq101 base hb hb2 n hn d (Int.tdiv num base) (w.set d (Int.tmod num base)) hq0 (by omega) (by simp [hw]) (by omega) (fun x hxm => by
   rcases List.mem_or_eq_of_mem_set hxm with h | h
   ·exact hx x h
   ·rw [h]; exact ⟨hm0, hm1⟩)
  refine ⟨r, hr, hx2, Ev.step (fun k => ?_) ih⟩
  show spec_trWord.l0 (k + 1) base num w (((d + 1 : Nat) : Int) - 1) = _
  rw [spec_trWord.l0, show ((d + 1 : Nat) : Int) - 1 = (d : Int) by omega, if_pos (by omega), if_neg (by omega), if_pos (by omega), if_pos (by omega), w64 (by omega) (by omega), w64 (by omega) (by omega), Int.toNat_natCast]
structure Rch (n : Nat) (reached : List Int) : Prop where
 nd : reached.Nodup
 zero : 0 ∈ reached
 range : ∀ v ∈ reached, 0 ≤ v ∧ v ≤ n
theorem Rch.add {n : Nat} {reached : List Int} (h : Rch n reached) {v : Int} (hv : v ∉ reached) (h0 : 0 ≤ v) (h1 : v ≤ n) : Rch n (reached ++ [v]) := by
 refine ⟨List.nodup_append.2 ⟨h.nd, by simp, ?_⟩, List.mem_append_left _ h.zero, ?_⟩
 ·intro a ha b hb e
  rw [List.mem_singleton] at hb
  exact hv (by rw [← hb, ← e]; exact ha)
 ·intro u hu
  rcases List.mem_append.1 hu with h2 | h2
  ·exact h.range u h2
  ·rw [List.mem_singleton] at h2; omega
theorem zq102 (n : Nat) (hn : n ≤ 1000) (E O : List Int) (hE : E.length = n) (hO : O.length = n) (rE : ∀ x ∈ E, 1 ≤ x ∧ x ≤ n) (rO : ∀ x ∈ O, 0 ≤ x ∧ x ≤ n) (k9 : Nat) (hk9 : k9 ≤ 2000) : ∀ (d i : Nat) (par reached : List Int), i + d = n → par.length = n → Rch n reached → k9 < reached.length →
  (∀ (p2 r2 : List Int), p2.length = n → Rch n r2 → k9 < r2.length → ∃ r : List Int, r.length = n ∧ Ev (fun k => spec_trEdges.l0 k E O p2 r2 ((k9 : Int) + 1)) r) →
  ∃ r : List Int, r.length = n ∧ Ev (fun k => spec_trEdges.l1 k E O par reached (k9 : Int) (n : Int) (i : Int)) r
 | 0, i, par, reached, hd, hp, hr, hk, H => by
  obtain ⟨r, h1, h2⟩ := H par reached hp hr hk
  refine ⟨r, h1, Ev.step (fun k => ?_) h2⟩
  show spec_trEdges.l1 (k + 1) E O par reached (k9 : Int) (n : Int) (i : Int) = _
  rw [spec_trEdges.l1, if_neg (by omega), w64 (by omega) (by omega)]
 | d + 1, i, par, reached, hd, hp, hr, hk, H => by
  have he := rE (rd E i) (rd_mem E i (by omega) (by omega))
  have ho := rO (rd O i) (rd_mem O i (by omega) (by omega))
  have hlen := zq49 n reached hr.nd hr.range
  have e1 : ((i + 1 : Nat) : Int) = (i : Int) + 1 := by omega
  have stay := zq102 n hn E O hE hO rE rO k9 hk9 d (i + 1) par reached (by omega) hp hr hk H
  have grow := fun (v a : Int) (hv : v ∉ reached) (h0 : 0 ≤ v) (h1 : v ≤ n) => zq102 n hn E O hE hO rE rO k9 hk9 d (i + 1) (par.set (v - 1).toNat a) (reached ++ [v]) (by omega) (by simp [hp]) (hr.add hv h0 h1) (by simp; omega) H
  rw [e1] at stay grow
  by_cases c : rd O i = rd reached k9
  ·by_cases g : rd E i ∈ reached
   ·obtain ⟨r, h1, h2⟩ := stay
    refine ⟨r, h1, Ev.step (f := fun k => (spec_l1Has.f k reached (rd E i)).bind fun t => if t = true then spec_trEdges.l1 k E O par reached (k9 : Int) (n : Int) ((i : Int) + 1) else (if 0 ≤ (wrap64 ((rd E i) - 1)) then (if (wrap64 ((rd E i) - 1)) < (par.length : Int) then (if reached.length < 17592186044416 then (spec_trEdges.l1 k E O (par.set ((wrap64 ((rd E i) - 1)) : Int).toNat (rd O i)) (reached ++ [rd E i]) (k9 : Int) (n : Int) (wrap64 ((i : Int) + 1))) else (none)) else (none)) else (none))) (fun k => ?_) (Ev.bind (zq21 reached _ (by omega)) ?_)⟩
    ·rw [spec_trEdges.l1, if_pos (by omega), if_pos (by omega), if_pos (by omega), if_pos (by omega), if_pos (by omega), if_pos (by omega), if_pos c, w64 (x := (i : Int) + 1) (by omega) (by omega)]
    ·exact Ev.congr (fun k => by rw [if_pos (by simpa using g)]) h2
   ·obtain ⟨r, h1, h2⟩ := grow (rd E i) (rd O i) g (by omega) he.2
    refine ⟨r, h1, Ev.step (f := fun k => (spec_l1Has.f k reached (rd E i)).bind fun t => if t = true then spec_trEdges.l1 k E O par reached (k9 : Int) (n : Int) ((i : Int) + 1) else (if 0 ≤ (rd E i) - 1 then (if (rd E i) - 1 < (par.length : Int) then (if reached.length < 17592186044416 then (spec_trEdges.l1 k E O (par.set ((rd E i) - 1).toNat (rd O i)) (reached ++ [rd E i]) (k9 : Int) (n : Int) ((i : Int) + 1)) else (none)) else (none)) else (none))) (fun k => ?_) (Ev.bind (zq21 reached _ (by omega)) ?_)⟩
    ·rw [spec_trEdges.l1, if_pos (by omega), if_pos (by omega), if_pos (by omega), if_pos (by omega), if_pos (by omega), if_pos (by omega), if_pos c, w64 (x := (i : Int) + 1) (by omega) (by omega), w64 (by omega) (by omega)]
    ·exact Ev.congr (fun k => by rw [if_neg (by simpa using g), if_pos (by omega), if_pos (by omega), if_pos (by omega)]) h2
  ·by_cases c2 : rd E i = rd reached k9
   ·by_cases g : rd O i ∈ reached
    ·obtain ⟨r, h1, h2⟩ := stay
     refine ⟨r, h1, Ev.step (f := fun k => (spec_l1Has.f k reached (rd O i)).bind fun t => if t = true then spec_trEdges.l1 k E O par reached (k9 : Int) (n : Int) ((i : Int) + 1) else (if 0 ≤ (wrap64 ((rd O i) - 1)) then (if (wrap64 ((rd O i) - 1)) < (par.length : Int) then (if reached.length < 17592186044416 then (spec_trEdges.l1 k E O (par.set ((wrap64 ((rd O i) - 1)) : Int).toNat (rd E i)) (reached ++ [rd O i]) (k9 : Int) (n : Int) (wrap64 ((i : Int) + 1))) else (none)) else (none)) else (none))) (fun k => ?_) (Ev.bind (zq21 reached _ (by omega)) ?_)⟩
     ·rw [spec_trEdges.l1, if_pos (by omega), if_pos (by omega), if_pos (by omega), if_pos (by omega), if_pos (by omega), if_pos (by omega), if_neg c, if_pos c2, w64 (x := (i : Int) + 1) (by omega) (by omega)]
     ·exact Ev.congr (fun k => by rw [if_pos (by simpa using g)]) h2
    ·have hne : rd O i ≠ 0 := fun e => g (by rw [e]; exact hr.zero)
     obtain ⟨r, h1, h2⟩ := grow (rd O i) (rd E i) g (by omega) ho.2
     refine ⟨r, h1, Ev.step (f := fun k => (spec_l1Has.f k reached (rd O i)).bind fun t => if t = true then spec_trEdges.l1 k E O par reached (k9 : Int) (n : Int) ((i : Int) + 1) else (if 0 ≤ (rd O i) - 1 then (if (rd O i) - 1 < (par.length : Int) then (if reached.length < 17592186044416 then (spec_trEdges.l1 k E O (par.set ((rd O i) - 1).toNat (rd E i)) (reached ++ [rd O i]) (k9 : Int) (n : Int) ((i : Int) + 1)) else (none)) else (none)) else (none))) (fun k => ?_) (Ev.bind (zq21 reached _ (by omega)) ?_)⟩
     ·rw [spec_trEdges.l1, if_pos (by omega), if_pos (by omega), if_pos (by omega), if_pos (by omega), if_pos (by omega), if_pos (by omega), if_neg c, if_pos c2, w64 (x := (i : Int) + 1) (by omega) (by omega), w64 (by omega) (by omega)]
     ·exact Ev.congr (fun k => by rw [if_neg (by simpa using g), if_pos (by omega), if_pos (by omega), if_pos (by omega)]) h2
   ·obtain ⟨r, h1, h2⟩ := stay
    refine ⟨r, h1, Ev.step (fun k => ?_) h2⟩
    show spec_trEdges.l1 (k + 1) E O par reached (k9 : Int) (n : Int) (i : Int) = _
    rw [spec_trEdges.l1, if_pos (by omega), if_pos (by omega), if_pos (by omega), if_pos (by omega), if_pos (by omega), if_pos (by omega), if_neg c, if_neg c2, w64 (x := (i : Int) + 1) (by omega) (by omega)]
theorem zq103 (n : Nat) (hn : n ≤ 1000) (E O : List Int) (hE : E.length = n) (hO : O.length = n) (rE : ∀ x ∈ E, 1 ≤ x ∧ x ≤ n) (rO : ∀ x ∈ O, 0 ≤ x ∧ x ≤ n) : ∀ (d k9 : Nat) (par reached : List Int), k9 + d = n + 1 → par.length = n → Rch n reached →
  ∃ r : List Int, r.length = n ∧ Ev (fun k => spec_trEdges.l0 k E O par reached (k9 : Int)) r
 | 0, k9, par, reached, hd, hp, hr => by
  have hlen := zq49 n reached hr.nd hr.range
  exact ⟨par, hp, Ev.ret fun k => by rw [spec_trEdges.l0, if_neg (by omega)]⟩
 | d + 1, k9, par, reached, hd, hp, hr => by
  have hlen := zq49 n reached hr.nd hr.range
  by_cases c : k9 < reached.length
  ·obtain ⟨r, h1, h2⟩ := zq102 n hn E O hE hO rE rO k9 (by omega) n 0 par reached (by omega) hp hr c (fun p2 r2 h3 h4 _ => by
    have := zq103 n hn E O hE hO rE rO d (k9 + 1) p2 r2 (by omega) h3 h4
    rw [show ((k9 + 1 : Nat) : Int) = (k9 : Int) + 1 by omega] at this
    exact this)
   refine ⟨r, h1, Ev.step (fun k => ?_) h2⟩
   show spec_trEdges.l0 (k + 1) E O par reached (k9 : Int) = _
   rw [spec_trEdges.l0, if_pos (by omega), hE]
   rfl
  ·exact ⟨par, hp, Ev.ret fun k => by rw [spec_trEdges.l0, if_neg (by omega)]⟩
theorem zq104 (n : Nat) (hn : n ≤ 1000) (E O : List Int) (hE : E.length = n) (hO : O.length = n) (rE : ∀ x ∈ E, 1 ≤ x ∧ x ≤ n) (rO : ∀ x ∈ O, 0 ≤ x ∧ x ≤ n) : ∃ r : List Int, r.length = n ∧ Ev (fun k => spec_trEdges.f k (n : Int) E O) r := by
 obtain ⟨r, h1, h2⟩ := zq103 n hn E O hE hO rE rO (n + 1) 0 (List.replicate n 0) [0] (by omega) (by simp) ⟨by simp, by simp, by simp⟩
 exact ⟨r, h1, Ev.congr (fun k => by rw [spec_trEdges.f, if_pos (by omega), if_pos (by omega)]; rfl) h2⟩

theorem trOf_l1 (n : Nat) (hn : n ≤ 1000) (word gone others : List Int) (k : Nat) (x : Int) (L : List Int) (m : Int) (hk : k ≤ word.length) (hw : word.length ≤ 1000) (hg : gone.length ≤ 1000) (ho : others.length ≤ 1000)
  (P : List Int → Prop) (H : ∀ v : Int, 1 ≤ v → v ≤ n → v ∉ gone → ∃ r, P r ∧ Ev (fun kk => spec_trOf.l0 kk word (n : Int) (gone ++ [v]) (others ++ [x]) L m ((k : Int) + 1)) r) (u : Int) (h1 : 1 ≤ u) (hu : u ∉ gone ∧ u ∉ word.drop k) : ∀ d : Nat, u ≤ d → d ≤ n →
  ∃ r, P r ∧ Ev (fun kk => spec_trOf.l1 kk word (n : Int) gone others (k : Int) x (d : Int) L m (k : Int)) r
 | 0, h, _ => by omega
 | d + 1, h, hd => by
  have ed : ((d + 1 : Nat) : Int) = (d : Int) + 1 := by omega
  rw [ed]
  have less : ((d : Int) + 1 ∈ gone ∨ (d : Int) + 1 ∈ word.drop k) → u ≤ d := fun hm => by
   refine Classical.byContradiction fun h2 => ?_
   have e : u = (d : Int) + 1 := by omega
   rw [e] at hu
   rcases hm with h3 | h3
   ·exact hu.1 h3
   ·exact hu.2 h3
  have ih := fun c => trOf_l1 n hn word gone others k x L m hk hw hg ho P H u h1 hu d c (by omega)
  by_cases g : (d : Int) + 1 ∈ gone
  ·obtain ⟨r, hp, h2⟩ := ih (less (.inl g))
   refine ⟨r, hp, Ev.step (fun kk => by rw [spec_trOf.l1, w64 (x := (d : Int) + 1 - 1) (by omega) (by omega), show (d : Int) + 1 - 1 = (d : Int) by omega]) (Ev.bind (zq21 gone _ (by omega)) ?_)⟩
   exact Ev.congr (fun kk => by rw [if_pos (by simpa using g)]) h2
  ·by_cases g2 : (d : Int) + 1 ∈ word.drop k
   ·obtain ⟨r, hp, h2⟩ := ih (less (.inr g2))
    refine ⟨r, hp, Ev.step (fun kk => by rw [spec_trOf.l1, w64 (x := (d : Int) + 1 - 1) (by omega) (by omega), show (d : Int) + 1 - 1 = (d : Int) by omega]) (Ev.bind (zq21 gone _ (by omega)) ?_)⟩
    refine Ev.congr (fun kk => by rw [if_neg (by simpa using g), if_pos (by omega), if_pos (by omega), Int.toNat_natCast]) (Ev.bind (zq21 (word.drop k) _ (by simp; omega)) ?_)
    exact Ev.congr (fun kk => by rw [if_pos (by simpa using g2)]) h2
   ·obtain ⟨r, hp, h2⟩ := H ((d : Int) + 1) (by omega) (by omega) g
    refine ⟨r, hp, Ev.step (fun kk => by rw [spec_trOf.l1]) (Ev.bind (zq21 gone _ (by omega)) ?_)⟩
    refine Ev.congr (fun kk => by rw [if_neg (by simpa using g), if_pos (by omega), if_pos (by omega), Int.toNat_natCast]) (Ev.bind (zq21 (word.drop k) _ (by simp; omega)) ?_)
    exact Ev.congr (fun kk => by rw [if_neg (by simpa using g2), if_pos (by omega), if_pos (by omega), w64 (by omega) (by omega)]) h2
structure Tkn (n : Nat) (gone others : List Int) : Prop where
 nd : gone.Nodup
 range : ∀ v ∈ gone, 1 ≤ v ∧ v ≤ n
 len : others.length = gone.length
 other : ∀ v ∈ others, 0 ≤ v ∧ v ≤ n
theorem Tkn.add {n : Nat} {gone others : List Int} (h : Tkn n gone others) {v x : Int} (hv : v ∉ gone) (h0 : 1 ≤ v) (h1 : v ≤ n) (hx : 0 ≤ x ∧ x ≤ n) : Tkn n (gone ++ [v]) (others ++ [x]) := by
 refine ⟨List.nodup_append.2 ⟨h.nd, by simp, ?_⟩, ?_, by simp [h.len], ?_⟩
 ·intro a ha b hb e
  rw [List.mem_singleton] at hb
  exact hv (by rw [← hb, ← e]; exact ha)
 ·intro u hu
  rcases List.mem_append.1 hu with h2 | h2
  ·exact h.range u h2
  ·rw [List.mem_singleton] at h2; omega
 ·intro u hu
  rcases List.mem_append.1 hu with h2 | h2
  ·exact h.other u h2
  ·rw [List.mem_singleton] at h2; rw [h2]; exact hx
theorem trOf_l2 (n : Nat) (hn : n ≤ 1000) (gone others : List Int) (h : Tkn n gone others) (hlen : gone.length + 1 = n) (u : Int) (h1 : 1 ≤ u) (hu : u ≤ n) (hug : u ∉ gone) : ∀ (d : Nat) (v : Int), 1 ≤ v → v + d = u →
  ∃ r : List Int, r.length = n ∧ Ev (fun kk => spec_trOf.l2 kk (n : Int) gone others v) r
 | d, v, hv, hd => by
  have hol := h.len
  by_cases g : v ∈ gone
  ·match d, hd with
   | 0, hd => exact absurd (by rw [show u = v by omega]; exact g) hug
   | d + 1, hd =>
    obtain ⟨r, h2, h3⟩ := trOf_l2 n hn gone others h hlen u h1 hu hug d (v + 1) (by omega) (by omega)
    refine ⟨r, h2, Ev.step (fun kk => by rw [spec_trOf.l2, if_pos (by omega), w64 (x := v + 1) (by omega) (by omega)]) (Ev.bind (zq21 gone _ (by omega)) ?_)⟩
    exact Ev.congr (fun kk => by rw [if_pos (by simpa using g)]) h3
  ·have ha := h.add g hv (by omega) (x := 0) ⟨by omega, by omega⟩
   obtain ⟨r, h2, h3⟩ := zq104 n hn (gone ++ [v]) (others ++ [0]) (by simp [hlen]) (by simp; omega) ha.range ha.other
   refine ⟨r, h2, Ev.step (fun kk => by rw [spec_trOf.l2, if_pos (by omega)]) (Ev.bind (zq21 gone _ (by omega)) ?_)⟩
   exact Ev.congr (fun kk => by rw [if_neg (by simpa using g), if_pos (by omega), if_pos (by omega)]) (Ev.bind h3 (Ev.now r))
theorem zq105 (n : Nat) (l : List Int) (h : l.length < n) : ∃ u : Int, 1 ≤ u ∧ u ≤ n ∧ u ∉ l := by
 refine Classical.byContradiction fun hn => ?_
 have := all_in n l fun v h0 h1 => Classical.byContradiction fun h2 => hn ⟨v, h0, h1, h2⟩
 omega
theorem trOf_l0 (n : Nat) (hn : n ≤ 1000) (word : List Int) (hw : word.length + 1 = n) (hx : ∀ x ∈ word, 0 ≤ x ∧ x ≤ n) : ∀ (d k : Nat) (gone others : List Int), k + d = word.length → gone.length = k → Tkn n gone others →
  ∃ r : List Int, r.length = n ∧ Ev (fun kk => spec_trOf.l0 kk word (n : Int) gone others word (word.length : Int) (k : Int)) r
 | 0, k, gone, others, hd, hg, h => by
  obtain ⟨u, h1, h2, h3⟩ := zq105 n gone (by omega)
  obtain ⟨r, h4, h5⟩ := trOf_l2 n hn gone others h (by omega) u h1 h2 h3 (u - 1).toNat 1 (by omega) (by omega)
  exact ⟨r, h4, Ev.step (fun kk => by rw [spec_trOf.l0, if_neg (by omega)]) h5⟩
 | d + 1, k, gone, others, hd, hg, h => by
  have hol := h.len
  have hxk := hx (rd word k) (rd_mem word k (by omega) (by omega))
  obtain ⟨u, h1, h2, h3⟩ := zq105 n (gone ++ word.drop k) (by simp; omega)
  rw [List.mem_append, not_or] at h3
  obtain ⟨r, h4, h5⟩ := trOf_l1 n hn word gone others k (rd word k) word (word.length : Int) (by omega) (by omega) (by omega) (by omega) (fun r => r.length = n) (fun v g0 g1 g2 => by
   have := trOf_l0 n hn word hw hx d (k + 1) (gone ++ [v]) (others ++ [rd word k]) (by omega) (by simp [hg]) (h.add g2 g0 g1 hxk)
   rw [show ((k + 1 : Nat) : Int) = (k : Int) + 1 by omega] at this
   exact this) u h1 h3 n h2 (Nat.le_refl _)
  exact ⟨r, h4, Ev.step (fun kk => by rw [spec_trOf.l0, if_pos (by omega), if_pos (by omega), if_pos (by omega)]) h5⟩
theorem zq106 (n : Nat) (hn : n ≤ 1000) (word : List Int) (hw : word.length + 1 = n) (hx : ∀ x ∈ word, 0 ≤ x ∧ x ≤ n) : ∃ r : List Int, r.length = n ∧ Ev (fun kk => spec_trOf.f kk word) r := by
 obtain ⟨r, h1, h2⟩ := trOf_l0 n hn word hw hx word.length 0 [] [] (by omega) rfl ⟨by simp, by simp, rfl, by simp⟩
 exact ⟨r, h1, Ev.congr (fun kk => by rw [spec_trOf.f, w64 (by omega) (by omega), show (word.length : Int) + 1 = (n : Int) by omega]; rfl) h2⟩
theorem zq107 (code : List Int) (hc : ∀ x ∈ code, 0 ≤ x ∧ x ≤ 255) (at_ seed : Int) (most : Nat) (hm : most ≤ 100) (b : Int) (h : Rdy at_ b) (hb : b ≤ 1000000) :
  ∃ (r : List Int) (a s : Int), r.length ≤ 200 ∧ Rdy a (b + 10) ∧ Ev (fun kk => spec_l1Cur_tree.f kk code at_ seed (most : Int)) (r, a, s) := by
 obtain ⟨n, a1, s1, e1, n0, n1, r1⟩ := zq96 code hc at_ seed ((most : Int) + 1) b h (by omega)
 by_cases c : n = 0
 ·refine ⟨[], a1, s1, by simp, r1.mono (by omega), Ev.congr (fun kk => ?_) (Ev.now _)⟩
  show spec_l1Cur_tree.f kk code at_ seed (most : Int) = _
  rw [spec_l1Cur_tree.f, w64 (by omega) (by omega), e1, Option.bind_some, if_pos c]
 ·have hn1 : 1 ≤ n := by omega
  have hn2 : n ≤ most := by omega
  obtain ⟨cnt, hcnt, hC⟩ := zq100 n (by omega) (n - 1).toNat 1 1 (by omega) (by omega) (by omega)
  obtain ⟨num, a2, s2, e2, m0, m1, r2⟩ := zq96 code hc a1 s1 cnt (b + 2) r1 (by omega)
  obtain ⟨word, hwl, hwx, hW⟩ := zq101 (n + 1) (by omega) (by omega) (n - 1).toNat (by omega) (n - 1).toNat num (List.replicate (n - 1).toNat 0) m0 (by omega) (by simp) (Nat.le_refl _) (fun x hx => by have := (List.mem_replicate.1 hx).2; omega)
  obtain ⟨tr, htl, hT⟩ := zq106 n.toNat (by omega) word (by omega) (fun x hx => by have := hwx x hx; omega)
  obtain ⟨w3, a3, s3, e3, q0, q1, r3⟩ := zq96 code hc a2 s2 14 (b + 2 + 2) r2 (by omega)
  refine Exists.elim (show ∃ q : List Int × Int × Int, q.1.length ≤ 200 ∧ Rdy q.2.1 (b + 10) ∧ (if w3 = 0 then (spec_l1Cur_pick.f code a3 s3 n).bind fun bt276 => (spec_l1Cur_pick.f code bt276.2.1 bt276.2.2 (wrap64 (n + 3))).bind fun bt279 => if 0 ≤ bt276.1 then (if bt276.1 < (tr.length : Int) then some (tr.set bt276.1.toNat (wrap64 (bt279.1 - 1)), bt279.2.1, bt279.2.2) else none) else none
    else if w3 = 1 then (spec_l1Cur_among.f code a3 s3 [-1, 0, wrap64 (n + 1)]).bind fun bt286 => if tr.length < 17592186044416 then some (tr ++ [bt286.1], bt286.2.1, bt286.2.2) else none
    else if w3 = 2 then (spec_l1Cur_pick.f code a3 s3 2).bind fun bt292 => if 0 ≤ wrap64 (8 + bt292.1) then (if (wrap64 (8 + bt292.1)).toNat ≤ 35184372088832 then some (List.replicate (wrap64 (8 + bt292.1)).toNat 0, bt292.2.1, bt292.2.2) else none) else none
    else some (tr, a3, s3)) = some q from ?_) ?_
  ·by_cases w0 : w3 = 0
   ·obtain ⟨x, a4, s4, e4, x0, x1, r4⟩ := zq96 code hc a3 s3 n (b + 2 + 2 + 2) r3 (by omega)
    obtain ⟨y, a5, s5, e5, y0, y1, r5⟩ := zq96 code hc a4 s4 (wrap64 (n + 3)) (b + 2 + 2 + 2 + 2) r4 (by omega)
    refine ⟨(tr.set x.toNat (wrap64 (y - 1)), a5, s5), by simp; omega, r5.mono (by omega), ?_⟩
    rw [if_pos w0, e4, Option.bind_some]
    simp only [e5, Option.bind_some]
    rw [if_pos x0, if_pos (by omega)]
   ·rw [if_neg w0]
    by_cases w1 : w3 = 1
    ·obtain ⟨x, a4, s4, e4, x0, r4⟩ := zq97 code hc a3 s3 [-1, 0, wrap64 (n + 1)] (by simp) (b + 2 + 2 + 2) r3 (by omega)
     refine ⟨(tr ++ [x], a4, s4), by simp; omega, r4.mono (by omega), ?_⟩
     rw [if_pos w1, e4, Option.bind_some, if_pos (by omega)]
    ·rw [if_neg w1]
     by_cases w2 : w3 = 2
     ·obtain ⟨x, a4, s4, e4, x0, x1, r4⟩ := zq96 code hc a3 s3 2 (b + 2 + 2 + 2) r3 (by omega)
      have e8 : wrap64 (8 + x) = 8 + x := w64 (by omega) (by omega)
      refine ⟨(List.replicate (8 + x).toNat 0, a4, s4), by simp; omega, r4.mono (by omega), ?_⟩
      rw [if_pos w2, e4, Option.bind_some]
      simp only [e8]
      rw [if_pos (by omega), if_pos (by omega)]
     ·rw [if_neg w2]
      exact ⟨(tr, a3, s3), by show tr.length ≤ 200; omega, r3.mono (by omega), rfl⟩
  ·rintro ⟨r, a, s⟩ ⟨q1, q2, q3⟩
   refine ⟨r, a, s, q1, q2, ?_⟩
   refine Ev.congr (fun kk => by rw [spec_l1Cur_tree.f, w64 (x := (most : Int) + 1) (by omega) (by omega), e1, Option.bind_some, if_neg c]) ?_
   refine Ev.bind (show Ev (fun kk => spec_trCount.f kk n) cnt from hC) ?_
   refine Ev.congr (fun kk => by rw [e2, Option.bind_some]) ?_
   have hW' : Ev (fun kk => spec_trWord.f kk (wrap64 (n - 1)) (wrap64 (n + 1)) num) word := by
    have en : (((n - 1).toNat : Nat) : Int) = n - 1 := by omega
    rw [en] at hW
    refine Ev.congr (fun kk => by rw [w64 (x := n - 1) (by omega) (by omega), w64 (x := n + 1) (by omega) (by omega), spec_trWord.f, if_pos (by omega), if_pos (by omega), w64 (x := n - 1 - 1) (by omega) (by omega)]) hW
   refine Ev.bind hW' (Ev.bind hT ?_)
   refine Ev.congr (fun kk => by rw [e3, Option.bind_some]) ?_
   exact Ev.congr (fun kk => q3) (Ev.now _)

theorem zq108 (par : List Int) (n : Int) (hn : n = par.length) (hn8 : par.length ≤ 8) (hp : ∀ x ∈ par, 0 ≤ x ∧ x ≤ par.length) (w i : Int) (r : Bool) (r' : Bool) : ∀ (m : Nat) (a s : Int), 0 ≤ a → a ≤ n → 0 ≤ s → s + m = n →
  Ev (fun k => spec_trGood.l0 k par n w (wrap64 (i + 1))) r → (r' = (climb par m a && r)) → Ev (fun k => spec_trGood.l1 k par n a s w i) r'
 | 0, a, s, h0, h1, hs, hm, h, e => by
  subst e
  simp only [climb]
  by_cases c : a > 0
  ·rw [decide_eq_false (by omega), Bool.false_and]
   refine Ev.ret fun k => ?_
   rw [spec_trGood.l1, if_pos c, if_pos (by omega)]
  ·rw [decide_eq_true (by omega), Bool.true_and]
   refine Ev.step (fun k => ?_) h
   show spec_trGood.l1 (k + 1) par n a s w i = _
   rw [spec_trGood.l1, if_neg c]
 | m + 1, a, s, h0, h1, hs, hm, h, e => by
  subst e
  by_cases c : a > 0
  ·rw [climb, if_pos c]
   have hr : rd par (a - 1) ∈ par := by
    unfold rd
    rw [List.getD_eq_getElem?_getD, List.getElem?_eq_getElem (by omega)]
    exact List.getElem_mem _
   have hb := hp _ hr
   refine Ev.step (fun k => ?_) (zq108 par n hn hn8 hp w i r _ m (rd par (a - 1)) (s + 1) hb.1 (by omega) (by omega) (by omega) h rfl)
   show spec_trGood.l1 (k + 1) par n a s w i = _
   rw [spec_trGood.l1, if_pos c, if_neg (by omega), w64 (x := a - 1) (by omega) (by omega), if_pos (by omega), if_pos (by omega), w64 (by omega) (by omega)]
  ·rw [climb, if_neg c, Bool.true_and]
   refine Ev.step (fun k => ?_) h
   show spec_trGood.l1 (k + 1) par n a s w i = _
   rw [spec_trGood.l1, if_neg c]
theorem zq109 (par : List Int) (hn8 : par.length ≤ 8) (hp : ∀ x ∈ par, 0 ≤ x ∧ x ≤ par.length) : ∀ (d i : Nat), i + d = par.length →
  Ev (fun k => spec_trGood.l0 k par (par.length : Int) (par.length : Int) (i : Int)) ((List.range' i d).all fun j => climb par par.length ((j : Int) + 1))
 | 0, i, hi => by
  refine Ev.ret fun k => ?_
  rw [spec_trGood.l0, if_neg (by omega)]
  rfl
 | d + 1, i, hi => by
  have ih := zq109 par hn8 hp d (i + 1) (by omega)
  refine Ev.step (fun k => ?_) (zq108 par (par.length : Int) rfl hn8 hp (par.length : Int) (i : Int) ((List.range' (i + 1) d).all fun j => climb par par.length ((j : Int) + 1)) _ par.length ((i : Int) + 1) 0 (by omega) (by omega) (by omega) (by omega) ?_ ?_)
  ·show spec_trGood.l0 (k + 1) par (par.length : Int) (par.length : Int) (i : Int) = _
   rw [spec_trGood.l0, if_pos (by omega), w64 (by omega) (by omega)]
  ·rw [w64 (by omega) (by omega)]
   exact ih
  ·rw [List.range'_succ, List.all_cons]
theorem zq110 (par : List Int) (hl : par.length ≤ 35184372088832) : Ev (fun k => spec_trGood.f k par) (isTr par) := by
 by_cases c8 : par.length ≤ 8
 ·cases c : inAll 0 par.length par with
  | false =>
   have e : isTr par = false := by simp [isTr, c]
   rw [e]
   refine Ev.congr (fun k => by rw [spec_trGood.f, if_neg (by omega)]) ?_
   refine Ev.bind (zq27 par 0 par.length hl) ?_
   rw [c]
   exact Ev.ret fun k => by rw [spec_trGood.j0]; rfl
  | true =>
   have hp := (zq6 _ _ _).1 c
   have e : isTr par = (List.range' 0 par.length).all fun j => climb par par.length ((j : Int) + 1) := by
    simp [isTr, c, c8, List.range_eq_range']
   rw [e]
   refine Ev.congr (fun k => by rw [spec_trGood.f, if_neg (by omega)]) ?_
   refine Ev.bind (zq27 par 0 par.length hl) ?_
   rw [c]
   refine Ev.step (fun k => by rw [spec_trGood.j0, if_neg (by simp)]) ?_
   exact zq109 par c8 hp par.length 0 (by omega)
 ·have e : isTr par = false := by simp [isTr, c8]
  rw [e]
  refine Ev.congr (fun k => by rw [spec_trGood.f, if_pos (by omega)]) ?_
  exact Ev.ret fun k => by rw [spec_trGood.j0, if_pos rfl]

theorem zq111 (a : Int) : impl_isCars.f a = some (decide (0 ≤ a) && decide (a ≤ 8)) := by
 unfold impl_isCars.f
 rw [zq34]
 rfl

theorem zq112 (par : List Int) (n : Int) (hn : n = par.length) (hn8 : par.length ≤ 8) (hp : ∀ x ∈ par, 0 ≤ x ∧ x ≤ par.length) (w i : Int) (r : Bool) (r' : Bool) : ∀ (m : Nat) (a s : Int), 0 ≤ a → a ≤ n → 0 ≤ s → s + m = n + 1 →
  Ev (fun k => impl_isTree.l0 k par n w (wrap64 (i + 1))) r → (r' = (climb par m a && r)) → Ev (fun k => impl_isTree.l1 k par n a s w i) r'
 | 0, a, s, h0, h1, hs, hm, h, e => by
  subst e
  simp only [climb]
  by_cases c : a > 0
  ·rw [decide_eq_false (by omega), Bool.false_and]
   refine Ev.ret fun k => ?_
   rw [impl_isTree.l1, if_pos c, if_pos (by omega)]
  ·rw [decide_eq_true (by omega), Bool.true_and]
   refine Ev.step (fun k => ?_) h
   show impl_isTree.l1 (k + 1) par n a s w i = _
   rw [impl_isTree.l1, if_neg c]
 | m + 1, a, s, h0, h1, hs, hm, h, e => by
  subst e
  by_cases c : a > 0
  ·rw [climb, if_pos c]
   have hr : rd par (a - 1) ∈ par := by
    unfold rd
    rw [List.getD_eq_getElem?_getD, List.getElem?_eq_getElem (by omega)]
    exact List.getElem_mem _
   have hb := hp _ hr
   refine Ev.step (fun k => ?_) (zq112 par n hn hn8 hp w i r _ m (rd par (a - 1)) (s + 1) hb.1 (by omega) (by omega) (by omega) h rfl)
   show impl_isTree.l1 (k + 1) par n a s w i = _
   rw [impl_isTree.l1, if_pos c, if_neg (by omega), w64 (x := a - 1) (by omega) (by omega), if_pos (by omega), if_pos (by omega), w64 (by omega) (by omega)]
  ·rw [climb, if_neg c, Bool.true_and]
   refine Ev.step (fun k => ?_) h
   show impl_isTree.l1 (k + 1) par n a s w i = _
   rw [impl_isTree.l1, if_neg c]
theorem zq113 (par : List Int) (hn8 : par.length ≤ 8) (hp : ∀ x ∈ par, 0 ≤ x ∧ x ≤ par.length) : ∀ (d i : Nat), i + d = par.length →
  Ev (fun k => impl_isTree.l0 k par (par.length : Int) (par.length : Int) (i : Int)) ((List.range' i d).all fun j => climb par par.length ((j : Int) + 1))
 | 0, i, hi => by
  refine Ev.ret fun k => ?_
  rw [impl_isTree.l0, if_neg (by omega)]
  rfl
 | d + 1, i, hi => by
  have ih := zq113 par hn8 hp d (i + 1) (by omega)
  refine Ev.step (fun k => ?_) (zq112 par (par.length : Int) rfl hn8 hp (par.length : Int) (i : Int) ((List.range' (i + 1) d).all fun j => climb par par.length ((j : Int) + 1)) _ (par.length + 1) ((i : Int) + 1) 0 (by omega) (by omega) (by omega) (by omega) ?_ ?_)
  ·show impl_isTree.l0 (k + 1) par (par.length : Int) (par.length : Int) (i : Int) = _
   rw [impl_isTree.l0, if_pos (by omega), w64 (by omega) (by omega)]
  ·rw [w64 (by omega) (by omega)]
   exact ih
  ·rw [List.range'_succ, List.all_cons]
   congr 1
   rw [Bool.eq_iff_iff]
   exact ⟨zq11 par _ _, zq14 par hp _ (by omega) (by omega)⟩
theorem zq114 (par : List Int) (hl : par.length ≤ 35184372088832) : Ev (fun k => impl_isTree.f k par) (isTr par) := by
 by_cases c8 : par.length ≤ 8
 ·have d8 : (decide ((0 : Int) ≤ par.length) && decide ((par.length : Int) ≤ 8)) = true := by
   rw [Bool.and_eq_true, decide_eq_true_eq, decide_eq_true_eq]; omega
  cases c : inAll 0 par.length par with
  | false =>
   have e : isTr par = false := by simp [isTr, c]
   rw [e]
   refine Ev.congr (fun k => by rw [impl_isTree.f, zq111, d8, Option.bind_some, if_pos rfl]) ?_
   refine Ev.bind (zq35 par 0 par.length hl) ?_
   rw [c]
   exact Ev.ret fun k => by rw [impl_isTree.j0]; rfl
  | true =>
   have hp := (zq6 _ _ _).1 c
   have e : isTr par = (List.range' 0 par.length).all fun j => climb par par.length ((j : Int) + 1) := by
    simp [isTr, c, c8, List.range_eq_range']
   rw [e]
   refine Ev.congr (fun k => by rw [impl_isTree.f, zq111, d8, Option.bind_some, if_pos rfl]) ?_
   refine Ev.bind (zq35 par 0 par.length hl) ?_
   rw [c]
   refine Ev.step (fun k => by rw [impl_isTree.j0, if_neg (by simp)]) ?_
   exact zq113 par c8 hp par.length 0 (by omega)
 ·have e : isTr par = false := by simp [isTr, c8]
  have d8 : (decide ((0 : Int) ≤ par.length) && decide ((par.length : Int) ≤ 8)) = false := by
   rw [Bool.and_eq_false_iff]; right; exact decide_eq_false (by omega)
  rw [e]
  refine Ev.congr (fun k => by rw [impl_isTree.f, zq111, d8, Option.bind_some, if_neg (by simp)]) ?_
  exact Ev.ret fun k => by rw [impl_isTree.j0, if_pos rfl]

theorem zq115 (par : List Int) (x4 : Nat) (hx : x4 ≤ 1000) (v : Int) (r : List Int) : ∀ (t p ord : List Int), p.length + t.length ≤ 100 → ord.length ≤ 200 + p.length → (x4 : Int) < ord.length → rd ord x4 = v →
  Ev (fun k => spec_trBreadth.l0 k par (ord ++ (places (fun q => decide (q = v)) t p.length).map (· + 1)) ((x4 : Int) + 1)) r →
  Ev (fun k => spec_trBreadth.l1 k par ord (x4 : Int) (p ++ t) ((p ++ t).length : Int) (p.length : Int)) r
 | [], p, ord, hn, ho, hk, hv, H => by
  refine Ev.step (fun k => ?_) H
  show spec_trBreadth.l1 (k + 1) par ord (x4 : Int) (p ++ []) ((p ++ []).length : Int) (p.length : Int) = _
  rw [spec_trBreadth.l1, if_neg (by simp), w64 (by omega) (by omega)]
  simp [places]
 | h :: t, p, ord, hn, ho, hk, hv, H => by
  have hn' : p.length + t.length + 1 ≤ 100 := by simpa [Nat.add_assoc] using hn
  have hm := len_mid p h t
  by_cases c : h = v
  ·rw [places, if_pos (by simpa using c)] at H
   have e : ord ++ ((p.length : Int) :: places (fun q => decide (q = v)) t (p.length + 1)).map (· + 1) = (ord ++ [(p.length : Int) + 1]) ++ (places (fun q => decide (q = v)) t (p.length + 1)).map (· + 1) := by simp
   rw [e] at H
   have ih := zq115 par x4 hx v r t (p ++ [h]) (ord ++ [(p.length : Int) + 1]) (by simp; omega) (by simp; omega) (by simp; omega) (by rw [zq2 _ _ _ (by omega) hk]; exact hv)
   rw [zq1 p h t, zq0 p h] at ih
   refine Ev.step (fun k => ?_) (ih H)
   show spec_trBreadth.l1 (k + 1) par ord (x4 : Int) (p ++ h :: t) ((p ++ h :: t).length : Int) (p.length : Int) = _
   rw [spec_trBreadth.l1, if_pos (by omega), if_pos (by omega), if_pos (by omega), if_pos (by omega), if_pos hk, rd_mid, hv, if_pos c, if_pos (by omega), w64 (by omega) (by omega)]
  ·rw [places, if_neg (by simpa using c)] at H
   have ih := zq115 par x4 hx v r t (p ++ [h]) ord (by simp; omega) (by simp; omega) hk hv
   rw [zq1 p h t, zq0 p h] at ih
   refine Ev.step (fun k => ?_) (ih H)
   show spec_trBreadth.l1 (k + 1) par ord (x4 : Int) (p ++ h :: t) ((p ++ h :: t).length : Int) (p.length : Int) = _
   rw [spec_trBreadth.l1, if_pos (by omega), if_pos (by omega), if_pos (by omega), if_pos (by omega), if_pos hk, rd_mid, hv, if_neg c, w64 (by omega) (by omega)]
theorem zq116 (par : List Int) (hp : par.length ≤ 8) : ∀ (d : Nat) (ord : List Int) (k : Nat), InB par ord k → par.length + 1 ≤ k + d → k ≤ 100 →
  Ev (fun kk => spec_trBreadth.l0 kk par ord (k : Int)) (bfs par d ord k)
 | 0, ord, k, h, hd, hk => by
  have h1 := h.length
  refine Ev.ret fun kk => ?_
  rw [spec_trBreadth.l0, if_neg (by omega)]
  rfl
 | d + 1, ord, k, h, hd, hk => by
  rw [bfs]
  have h1 := h.length
  by_cases c : k < ord.length
  ·rw [if_pos c]
   have ih := zq116 par hp d _ (k + 1) (h.step c) (by omega) (by omega)
   rw [show ((k + 1 : Nat) : Int) = (k : Int) + 1 by omega] at ih
   refine Ev.step (f := fun kk => spec_trBreadth.l1 kk par ord (k : Int) par (par.length : Int) 0) (fun kk => ?_) ?_
   ·rw [spec_trBreadth.l0, if_pos (by omega)]
   ·exact zq115 par k (by omega) (rd ord k) _ par [] ord (by simp; omega) (by simp; omega) (by omega) rfl ih
  ·rw [if_neg c]
   refine Ev.ret fun kk => ?_
   rw [spec_trBreadth.l0, if_neg (by omega)]
theorem zq117 (par : List Int) (hp : par.length ≤ 8) : Ev (fun k => spec_trBreadth.f k par) (breadthS par) :=
 zq116 par hp (par.length + 1) [0] 0 (InB.first par) (by omega) (by omega)

theorem zq118 : ∀ (t p out : List Int), p.length + t.length ≤ 1000000 → out.length ≤ p.length → (∀ x ∈ t, 0 ≤ x ∧ x ≤ 4611686018427387904) →
  Ev (fun k => impl_children.l0 k out (p ++ t) ((p ++ t).length : Int) (p.length : Int)) (out ++ t.map (· + 1))
 | [], p, out, _, _, _ => by
  refine Ev.ret fun k => ?_
  rw [impl_children.l0, if_neg (by simp)]
  simp
 | h :: t, p, out, hn, ho, hx => by
  have hn' : p.length + t.length + 1 ≤ 1000000 := by simpa [Nat.add_assoc] using hn
  have hm := len_mid p h t
  have hh := hx h (by simp)
  have ih := zq118 t (p ++ [h]) (out ++ [h + 1]) (by simp; omega) (by simp; omega) (fun x h1 => hx x (by simp [h1]))
  rw [zq1, zq0] at ih
  have e : out ++ (h :: t).map (· + 1) = out ++ [h + 1] ++ t.map (· + 1) := by simp
  rw [e]
  refine Ev.step (fun k => ?_) ih
  show impl_children.l0 (k + 1) out (p ++ h :: t) ((p ++ h :: t).length : Int) (p.length : Int) = _
  rw [impl_children.l0, if_pos (by omega), if_pos (by omega), if_pos (by omega), rd_mid, if_pos (by omega), w64 (by omega) (by omega), w64 (by omega) (by omega)]
theorem zq119 (par : List Int) (v : Int) (hl : par.length ≤ 1000000) : Ev (fun k => impl_children.f k par v) (kids par v) := by
 have h1 : Ev (fun k => impl_children_1.f k par v) (places (fun p => decide (p = v)) par 0) := zq42 (impl_children_1.p v) par hl
 refine Ev.congr (fun k => rfl) (Ev.bind h1 ?_)
 have hlen : (places (fun p => decide (p = v)) par 0).length ≤ 1000000 := by
  have a := zq38 (fun p => decide (p = v)) par 0
  have b := zq9 (fun p => decide (p = v)) par
  omega
 refine zq118 (places (fun p => decide (p = v)) par 0) [] [] (by simpa using hlen) (by simp) fun x hx => ?_
 obtain ⟨j, w, h2, _, e⟩ := (zq39 _ _ _ _).1 hx
 have := (List.getElem?_eq_some_iff.1 h2).1
 omega

theorem zq120 (par : List Int) (hp : par.length ≤ 8) : ∀ (d : Nat) (ord : List Int) (k : Nat), InB par ord k → par.length + 1 ≤ k + d → k ≤ 100 →
  Ev (fun kk => impl_breadth.l0 kk par ord (k : Int)) (bfs par d ord k)
 | 0, ord, k, h, hd, hk => by
  have h1 := h.length
  refine Ev.ret fun kk => ?_
  rw [impl_breadth.l0, if_neg (by omega)]
  rfl
 | d + 1, ord, k, h, hd, hk => by
  rw [bfs]
  have h1 := h.length
  by_cases c : k < ord.length
  ·rw [if_pos c]
   have h2 := (h.step c).length
   rw [List.length_append] at h2
   have ih := zq120 par hp d _ (k + 1) (h.step c) (by omega) (by omega)
   rw [show ((k + 1 : Nat) : Int) = (k : Int) + 1 by omega] at ih
   refine Ev.step (f := fun kk => (impl_children.f kk par (rd ord k)).bind fun t => if ord.length + t.length < 17592186044416 then impl_breadth.l0 kk par (ord ++ t) (wrap64 ((k : Int) + 1)) else none) (fun kk => ?_) ?_
   ·rw [impl_breadth.l0, if_pos (by omega), if_pos (by omega)]
   ·refine Ev.bind (zq119 par _ (by omega)) ?_
    refine Ev.congr (fun kk => by rw [if_pos (by omega), w64 (by omega) (by omega)]) ih
  ·rw [if_neg c]
   refine Ev.ret fun kk => ?_
   rw [impl_breadth.l0, if_neg (by omega)]
theorem zq121 (par : List Int) (hp : par.length ≤ 8) : Ev (fun k => impl_breadth.f k par) (breadthS par) :=
 zq120 par hp (par.length + 1) [0] 0 (InB.first par) (by omega) (by omega)


theorem zq122 (x : Int) : ∀ (t p : List Int), p.length + t.length ≤ 35184372088832 → x ∈ t →
  Ev (fun k => spec_trPlace.l0 k (p ++ t) x (p.length : Int)) (idxOf x t p.length)
 | [], p, _, hx => by simp at hx
 | h :: t, p, hn, hx => by
  have hn' : p.length + t.length + 1 ≤ 35184372088832 := by simpa [Nat.add_assoc] using hn
  have hm := len_mid p h t
  by_cases c : x = h
  ·rw [idxOf, if_pos c]
   refine Ev.ret fun k => ?_
   rw [spec_trPlace.l0, if_pos (by omega), if_pos (by omega), rd_mid, if_pos c.symm]
  ·have ih := zq122 x t (p ++ [h]) (by simp; omega) (by simpa [c] using hx)
   rw [zq1 p h t, zq0 p h] at ih
   rw [idxOf, if_neg c]
   refine Ev.step (fun k => ?_) ih
   show spec_trPlace.l0 (k + 1) (p ++ h :: t) x (p.length : Int) = _
   rw [spec_trPlace.l0, if_pos (by omega), if_pos (by omega), rd_mid, if_neg (fun e => c e.symm), w64 (by omega) (by omega)]
theorem zq123 (l : List Int) (x : Int) (hl : l.length ≤ 35184372088832) (hx : x ∈ l) : Ev (fun k => spec_trPlace.f k l x) (idxOf x l 0) :=
 zq122 x l [] (by simpa using hl) hx

theorem zq124 (ord : List Int) (ho : ord.length ≤ 1000) : ∀ (t p out : List Int), p.length + t.length ≤ 1000 → out.length ≤ p.length → (∀ x ∈ t, x ∈ ord) →
  Ev (fun k => spec_ParkingOfTree.l0 k ord out (p ++ t) ((p ++ t).length : Int) (p.length : Int)) (out ++ t.map (fun x => idxOf x ord 0), true)
 | [], p, out, _, _, _ => by
  refine Ev.ret fun k => ?_
  rw [spec_ParkingOfTree.l0, if_neg (by simp)]
  simp
 | h :: t, p, out, hn, hol, hx => by
  have hn' : p.length + t.length + 1 ≤ 1000 := by simpa [Nat.add_assoc] using hn
  have hm := len_mid p h t
  have ih := zq124 ord ho t (p ++ [h]) (out ++ [idxOf h ord 0]) (by simp; omega) (by simp; omega) (fun x h1 => hx x (by simp [h1]))
  rw [zq1 p h t, zq0 p h] at ih
  have e : out ++ (h :: t).map (fun x => idxOf x ord 0) = out ++ [idxOf h ord 0] ++ t.map (fun x => idxOf x ord 0) := by simp
  rw [e]
  refine Ev.step (f := fun k => (spec_trPlace.f k ord h).bind fun t1 => if out.length < 17592186044416 then spec_ParkingOfTree.l0 k ord (out ++ [t1]) (p ++ h :: t) ((p ++ h :: t).length : Int) (wrap64 ((p.length : Int) + 1)) else none) (fun k => ?_) ?_
  ·rw [spec_ParkingOfTree.l0, if_pos (by omega), if_pos (by omega), if_pos (by omega), rd_mid]
  ·refine Ev.bind (zq123 ord h (by omega) (hx h (by simp))) ?_
   exact Ev.congr (fun k => by rw [if_pos (by omega), w64 (by omega) (by omega)]) ih
theorem zq125 (ord : List Int) (ho : ord.length ≤ 1000) : ∀ (t p out : List Int), p.length + t.length ≤ 1000 → out.length ≤ p.length →
  Ev (fun k => impl_ParkingOfTree.l0 k ord out (p ++ t) ((p ++ t).length : Int) (p.length : Int)) (out ++ t.map (fun x => idxOf x ord 0), true)
 | [], p, out, _, _ => by
  refine Ev.ret fun k => ?_
  rw [impl_ParkingOfTree.l0, if_neg (by simp)]
  simp
 | h :: t, p, out, hn, hol => by
  have hn' : p.length + t.length + 1 ≤ 1000 := by simpa [Nat.add_assoc] using hn
  have hm := len_mid p h t
  have ih := zq125 ord ho t (p ++ [h]) (out ++ [idxOf h ord 0]) (by simp; omega) (by simp; omega)
  rw [zq1 p h t, zq0 p h] at ih
  have e : out ++ (h :: t).map (fun x => idxOf x ord 0) = out ++ [idxOf h ord 0] ++ t.map (fun x => idxOf x ord 0) := by simp
  rw [e]
  refine Ev.step (f := fun k => (slices_Index_int_int.f k ord h).bind fun t1 => if out.length < 17592186044416 then impl_ParkingOfTree.l0 k ord (out ++ [t1]) (p ++ h :: t) ((p ++ h :: t).length : Int) (wrap64 ((p.length : Int) + 1)) else none) (fun k => ?_) ?_
  ·rw [impl_ParkingOfTree.l0, if_pos (by omega), if_pos (by omega), if_pos (by omega), rd_mid]
  ·refine Ev.bind (zq59 ord h (by omega)) ?_
   exact Ev.congr (fun k => by rw [if_pos (by omega), w64 (by omega) (by omega)]) ih
theorem zq126 (L : List Int) (hl : L.length ≤ 1000000) : ∀ (d i : Nat), i + d = L.length → Ev (fun k => laws_wSame.l0 k L L (L.length : Int) (i : Int)) true
 | 0, i, hd => Ev.ret fun k => by rw [laws_wSame.l0, if_neg (by omega)]
 | d + 1, i, hd => by
  have ih := zq126 L hl d (i + 1) (by omega)
  rw [show ((i + 1 : Nat) : Int) = (i : Int) + 1 by omega] at ih
  refine Ev.step (fun k => ?_) ih
  show laws_wSame.l0 (k + 1) L L (L.length : Int) (i : Int) = _
  rw [laws_wSame.l0, if_pos (by omega), if_pos (by omega), if_pos (by omega), if_pos (by omega), if_pos rfl, w64 (by omega) (by omega)]
theorem zq127 (L : List Int) (hl : L.length ≤ 1000000) : Ev (fun k => laws_wSame.f k L L) true :=
 Ev.congr (fun k => by rw [laws_wSame.f, if_pos rfl]; rfl) (zq126 L hl L.length 0 (by omega))

theorem zq128 (l : List Int) (hl : l.length ≤ 35184372088832) : Ev (fun k => laws_wParking.f k l) (pf l) := by
 have hi : Ev (fun k => impl_IsParking.f k l) (if (decide (l.length ≤ 8) && inAll 0 99 l) = true then (pf l, true) else (false, false)) := by
  refine Ev.congr (fun k => rfl) (Ev.bind (zq36 l hl) ?_)
  cases c : decide (l.length ≤ 8) && inAll 0 99 l with
  | false => exact Ev.now _
  | true => exact Ev.congr (fun k => by rw [if_pos rfl]) (Ev.bind (zq37 l hl) (Ev.now _))
 refine Ev.bind hi ?_
 cases c : decide (l.length ≤ 8) && inAll 0 99 l with
 | true => exact Ev.now _
 | false =>
  have hf : pf l = false := by
   refine Bool.eq_false_iff.2 fun h => ?_
   obtain ⟨h8, h2, _⟩ := (pf_iff l).1 h
   rw [decide_eq_true h8, Bool.true_and, (zq6 0 99 l).2 fun x hx => by have := h2 x hx; omega] at c
   cases c
  rw [hf]
  exact Ev.now _
theorem zq129 (l : List Int) (hl : l.length ≤ 35184372088832) : Ev (fun k => spec_ParkingOfTree.f k l) (if isTr l = true then (favT l, true) else ([], false)) ∧ Ev (fun k => impl_ParkingOfTree.f k l) (if isTr l = true then (favT l, true) else ([], false)) := by
 cases c : isTr l with
 | false =>
  refine ⟨?_, ?_⟩
  ·refine Ev.congr (fun k => rfl) (Ev.bind (zq110 l hl) ?_)
   rw [c]; exact Ev.now _
  ·refine Ev.congr (fun k => rfl) (Ev.bind (zq114 l hl) ?_)
   rw [c]; exact Ev.now _
 | true =>
  obtain ⟨h8, h2, _⟩ := (zq47 l).1 c
  have hb := zq52 l
  refine ⟨?_, ?_⟩
  ·refine Ev.congr (fun k => rfl) (Ev.bind (zq110 l hl) ?_)
   rw [c]
   refine Ev.congr (fun k => by rw [if_pos rfl]) (Ev.bind (zq117 l h8) ?_)
   exact zq124 (breadthS l) (by omega) l [] [] (by simp; omega) (by simp) (fun x hx => zq60 l c x (h2 x hx).1 (h2 x hx).2)
  ·refine Ev.congr (fun k => rfl) (Ev.bind (zq114 l hl) ?_)
   rw [c]
   refine Ev.congr (fun k => by rw [if_pos rfl]) (Ev.bind (zq121 l h8) ?_)
   exact zq125 (breadthS l) (by omega) l [] [] (by simp; omega) (by simp)
def degS (par : List Int) : Nat → Nat → List Int
 | 0, _ => []
 | d + 1, i => ((kids par i).length + (if (i : Int) > 0 then 1 else 0) : Int) :: degS par d (i + 1)
theorem zq130 (par : List Int) : ∀ (d i : Nat), (degS par d i).length = d
 | 0, _ => rfl
 | d + 1, i => by rw [degS, List.length_cons, zq130 par d]
theorem zq131 (par : List Int) : ∀ (d i j : Nat), j < d → (degS par d i).getD j 0 = ((kids par ((i + j : Nat) : Int)).length + (if ((i + j : Nat) : Int) > 0 then 1 else 0) : Int)
 | 0, i, j, h => by omega
 | d + 1, i, j, h => by
  rw [degS]
  cases j with
  | zero => rfl
  | succ j => rw [List.getD_cons_succ, zq131 par d (i + 1) j (by omega), show i + 1 + j = i + (j + 1) by omega]
theorem zq132 (par : List Int) (h8 : par.length ≤ 8) : ∀ (d i : Nat) (out : List Int), i + d = par.length + 1 → out.length ≤ i →
  Ev (fun k => impl_DegreesOf.l0 k par out ((par.length : Int) + 1) (i : Int)) (out ++ degS par d i, true)
 | 0, i, out, hi, ho => Ev.ret fun k => by rw [impl_DegreesOf.l0, if_neg (by omega), degS, List.append_nil]
 | d + 1, i, out, hi, ho => by
  have hk := zq46 par (i : Int)
  have hr := zq9 (fun p => decide (p = (i : Int))) par
  have ih := zq132 par h8 d (i + 1) (out ++ [((kids par i).length + (if (i : Int) > 0 then 1 else 0) : Int)]) (by omega) (by simp; omega)
  rw [show ((i + 1 : Nat) : Int) = (i : Int) + 1 by omega] at ih
  have e : out ++ degS par (d + 1) i = out ++ [((kids par i).length + (if (i : Int) > 0 then 1 else 0) : Int)] ++ degS par d (i + 1) := by rw [degS]; simp
  rw [e]
  have hm : mn (i : Int) 1 = if (i : Int) > 0 then 1 else 0 := by
   unfold mn
   split <;> split <;> omega
  have e2 : wrap64 (((kids par (i : Int)).length : Int) + mn (i : Int) 1) = ((kids par i).length + (if (i : Int) > 0 then 1 else 0) : Int) := by
   rw [hm, w64]
   ·split <;> omega
   ·split <;> omega
  refine Ev.step (fun k => by rw [impl_DegreesOf.l0, if_pos (by omega)]) (Ev.bind (zq119 par (i : Int) (by omega)) ?_)
  exact Ev.congr (fun k => by rw [if_pos (by omega), e2, w64 (by omega) (by omega)]) ih
def fv (l : List Int) (x : Int) : Int := if x = 0 then -1 else rd l (x - 1)
theorem ordP_up (l : List Int) (hl : ∀ x ∈ l, 0 ≤ x) : ∀ k : Nat, (ordP l k).Pairwise fun a b => fv l a ≤ fv l b
 | 0 => by simp [ordP]
 | k + 1 => by
  have hk : ∀ b ∈ kids l k, fv l b = k := fun b hb => by
   obtain ⟨h1, h2, h3⟩ := (zq50 l k b).1 hb
   rw [fv, if_neg (by omega), h3]
  rw [ordP]
  refine List.pairwise_append.2 ⟨ordP_up l hl k, (zq51 l k).imp_of_mem fun ha hb _ => by rw [hk _ ha, hk _ hb]; exact Int.le_refl _, fun a ha b hb => ?_⟩
  rw [hk b hb, fv]
  split
  ·omega
  ·rcases (zq63 l hl a k).1 ha with h | ⟨_, _, h⟩
   ·contradiction
   ·omega
theorem law_l1 (l : List Int) (hpf : pf l = true) (kq : Nat) (hkq : kq ≤ l.length) (r : Bool)
  (H : Ev (fun k => laws_FnParkingIsTrees.l0 k l (ordP l l.length) (degS (parP l) (l.length + 1) 0) (ordP l l.length) ((ordP l l.length).length : Int) ((kq : Int) + 1)) r) : ∀ (t p : List Int) (c : Int), p ++ t = l → c = cnt (fun x => decide (x = (kq : Int))) p →
  Ev (fun k => laws_FnParkingIsTrees.l1 k l (ordP l l.length) (degS (parP l) (l.length + 1) 0) (kq : Int) (rd (ordP l l.length) kq) c (ordP l l.length) ((ordP l l.length).length : Int) (kq : Int) l (l.length : Int) (p.length : Int)) r
 | [], p, c, hp, hc => by
  obtain ⟨h8, h2, _⟩ := (pf_iff l).1 hpf
  have h0 : ∀ x ∈ l, 0 ≤ x := fun x hx => (h2 x hx).1
  rw [List.append_nil] at hp
  subst hp
  have hl := zq71 p hpf
  have hdl := zq130 (parP p) (p.length + 1) 0
  have hnode : 0 ≤ rd (ordP p p.length) kq ∧ rd (ordP p p.length) kq ≤ p.length := by
   rcases (zq63 p h0 _ p.length).1 (rd_mem (ordP p p.length) kq (by omega) (by omega)) with e | ⟨h3, h4, _⟩ <;> omega
  have hdeg : rd (degS (parP p) (p.length + 1) 0) (rd (ordP p p.length) kq) = c + (if rd (ordP p p.length) kq > 0 then 1 else 0) := by
   have h := zq131 (parP p) (p.length + 1) 0 (rd (ordP p p.length) kq).toNat (by omega)
   rw [show (((0 + (rd (ordP p p.length) kq).toNat : Nat)) : Int) = rd (ordP p p.length) kq by omega] at h
   have hk := zq73 p hpf kq hkq
   rw [← rd_ordP p hpf kq hkq] at hk
   have h5 := zq46 p (kq : Int)
   rw [hk, h5, ← hc] at h
   exact h
  have hcr := zq9 (fun x => decide (x = (kq : Int))) p
  have hz : rd (ordP p p.length) ((0 : Nat) : Int) = 0 := by rw [rd_ordP p hpf 0 (by omega)]; rfl
  have hpos : ∀ j : Nat, 1 ≤ j → j ≤ p.length → rd (ordP p p.length) j ≠ 0 := fun j h1 h3 e => by
   have := rd_inj (zq64 p h0 p.length) (i := (j : Int)) (j := ((0 : Nat) : Int)) (by omega) (by omega) (by omega) (by omega) (by rw [hz, e])
   omega
  have last : ∀ k, (if (kq : Int) > 1 then (if 0 ≤ (wrap64 (rd (ordP p p.length) kq - 1)) then (if (wrap64 (rd (ordP p p.length) kq - 1)) < (p.length : Int) then (if 0 ≤ (wrap64 ((kq : Int) - 1)) then (if (wrap64 ((kq : Int) - 1)) < ((ordP p p.length).length : Int) then (if 0 ≤ (wrap64 ((rd (ordP p p.length) (wrap64 ((kq : Int) - 1))) - 1)) then (if (wrap64 ((rd (ordP p p.length) (wrap64 ((kq : Int) - 1))) - 1)) < (p.length : Int) then (if (rd p (wrap64 (rd (ordP p p.length) kq - 1))) < (rd p (wrap64 ((rd (ordP p p.length) (wrap64 ((kq : Int) - 1))) - 1))) then (some false) else (laws_FnParkingIsTrees.l0 k p (ordP p p.length) (degS (parP p) (p.length + 1) 0) (ordP p p.length) ((ordP p p.length).length : Int) (wrap64 ((kq : Int) + 1)))) else (none)) else (none)) else (none)) else (none)) else (none)) else (none)) else (laws_FnParkingIsTrees.l0 k p (ordP p p.length) (degS (parP p) (p.length + 1) 0) (ordP p p.length) ((ordP p p.length).length : Int) (wrap64 ((kq : Int) + 1)))) = laws_FnParkingIsTrees.l0 k p (ordP p p.length) (degS (parP p) (p.length + 1) 0) (ordP p p.length) ((ordP p p.length).length : Int) ((kq : Int) + 1) := fun k => by
   rw [w64 (x := (kq : Int) + 1) (by omega) (by omega)]
   by_cases c1 : (kq : Int) > 1
   ·have e9 : ((kq - 1 : Nat) : Int) = (kq : Int) - 1 := by omega
    have n1 := hpos kq (by omega) hkq
    have n2 := hpos (kq - 1) (by omega) (by omega)
    rw [e9] at n2
    have hn2 : 0 ≤ rd (ordP p p.length) ((kq : Int) - 1) ∧ rd (ordP p p.length) ((kq : Int) - 1) ≤ p.length := by
     rcases (zq63 p h0 _ p.length).1 (rd_mem (ordP p p.length) ((kq : Int) - 1) (by omega) (by omega)) with e | ⟨h3, h4, _⟩ <;> omega
    have hup := List.pairwise_iff_getElem.1 (ordP_up p h0 p.length) (kq - 1) kq (by omega) (by omega) (by omega)
    have g1 : rd (ordP p p.length) kq = (ordP p p.length)[kq] := by rw [rd_nat, List.getD_eq_getElem?_getD, List.getElem?_eq_getElem (by omega)]; rfl
    have g2 : rd (ordP p p.length) ((kq : Int) - 1) = (ordP p p.length)[kq - 1] := by rw [← e9, rd_nat, List.getD_eq_getElem?_getD, List.getElem?_eq_getElem (by omega)]; rfl
    rw [← g1, ← g2, fv, fv, if_neg n1, if_neg n2] at hup
    rw [if_pos c1, w64 (x := (kq : Int) - 1) (by omega) (by omega), w64 (x := rd (ordP p p.length) kq - 1) (by omega) (by omega), w64 (x := rd (ordP p p.length) ((kq : Int) - 1) - 1) (by omega) (by omega), if_pos (by omega), if_pos (by omega), if_pos (by omega), if_pos (by omega), if_pos (by omega), if_pos (by omega), if_neg (by omega)]
   ·rw [if_neg c1]
  refine Ev.step (fun k => ?_) H
  show laws_FnParkingIsTrees.l1 (k + 1) p (ordP p p.length) (degS (parP p) (p.length + 1) 0) (kq : Int) (rd (ordP p p.length) kq) c (ordP p p.length) ((ordP p p.length).length : Int) (kq : Int) p (p.length : Int) (p.length : Int) = _
  rw [laws_FnParkingIsTrees.l1, if_neg (by omega), if_pos hnode.1, if_pos (by omega), hdeg]
  by_cases d : rd (ordP p p.length) kq > 0
  ·rw [if_pos d, if_pos d, w64 (x := c + 1 - 1) (by omega) (by omega), if_pos (by omega)]
   exact last k
  ·rw [if_neg d, if_neg d, if_pos (by omega)]
   exact last k
 | x :: t, p, c, hp, hc => by
  have hlen : (l.length : Int) = (p.length : Int) + t.length + 1 := by rw [← hp]; simp; omega
  obtain ⟨h8, h2, _⟩ := (pf_iff l).1 hpf
  have hx : rd l (p.length : Int) = x := by rw [← hp]; exact rd_mid p x t
  have hcr := zq9 (fun x => decide (x = (kq : Int))) p
  by_cases e : x = (kq : Int)
  ·have ih := law_l1 l hpf kq hkq r H t (p ++ [x]) (c + 1) (by rw [← hp]; simp) (by rw [zq10, cnt, if_pos (by simpa using e), cnt, hc]; omega)
   rw [zq0 p x] at ih
   refine Ev.step (fun k => ?_) ih
   show laws_FnParkingIsTrees.l1 (k + 1) l (ordP l l.length) (degS (parP l) (l.length + 1) 0) (kq : Int) (rd (ordP l l.length) kq) c (ordP l l.length) ((ordP l l.length).length : Int) (kq : Int) l (l.length : Int) (p.length : Int) = _
   rw [laws_FnParkingIsTrees.l1, if_pos (by omega), if_pos (by omega), if_pos (by omega), hx, if_pos e, w64 (x := c + 1) (by omega) (by omega), w64 (by omega) (by omega)]
  ·have ih := law_l1 l hpf kq hkq r H t (p ++ [x]) c (by rw [← hp]; simp) (by rw [zq10, cnt, if_neg (by simpa using e), cnt, hc]; omega)
   rw [zq0 p x] at ih
   refine Ev.step (fun k => ?_) ih
   show laws_FnParkingIsTrees.l1 (k + 1) l (ordP l l.length) (degS (parP l) (l.length + 1) 0) (kq : Int) (rd (ordP l l.length) kq) c (ordP l l.length) ((ordP l l.length).length : Int) (kq : Int) l (l.length : Int) (p.length : Int) = _
   rw [laws_FnParkingIsTrees.l1, if_pos (by omega), if_pos (by omega), if_pos (by omega), hx, if_neg e, w64 (by omega) (by omega)]
theorem law_l0 (l : List Int) (hpf : pf l = true) : ∀ (d kq : Nat), kq + d = l.length + 1 → Ev (fun k => laws_FnParkingIsTrees.l0 k l (ordP l l.length) (degS (parP l) (l.length + 1) 0) (ordP l l.length) ((ordP l l.length).length : Int) (kq : Int)) true
 | 0, kq, hd => by
  have hl := zq71 l hpf
  exact Ev.ret fun k => by rw [laws_FnParkingIsTrees.l0, if_neg (by omega)]
 | d + 1, kq, hd => by
  have hl := zq71 l hpf
  have ih := law_l0 l hpf d (kq + 1) (by omega)
  rw [show ((kq + 1 : Nat) : Int) = (kq : Int) + 1 by omega] at ih
  refine Ev.step (fun k => ?_) (law_l1 l hpf kq (by omega) true ih l [] 0 rfl rfl)
  show laws_FnParkingIsTrees.l0 (k + 1) l (ordP l l.length) (degS (parP l) (l.length + 1) 0) (ordP l l.length) ((ordP l l.length).length : Int) (kq : Int) = _
  rw [laws_FnParkingIsTrees.l0, if_pos (by omega), if_pos (by omega), if_pos (by omega)]
  rfl
theorem law_j2 (l : List Int) (b : Bool) (hb : b = pf l) (hl : l.length ≤ 1000) : Ev (fun k => laws_FnParkingIsTrees.j2 k l (if pf l = true then parP l else []) b) true := by
 subst hb
 cases c : pf l with
 | false => exact Ev.ret fun k => by rw [laws_FnParkingIsTrees.j2, if_neg (by simp)]
 | true =>
  obtain ⟨h8, h2, _⟩ := (pf_iff l).1 c
  rw [if_pos rfl]
  have ht := zq78 l c
  have hpl : (parP l).length = l.length := by simp [parP]
  have hp := (zq129 (parP l) (by omega)).2
  rw [if_pos ht, show favT (parP l) = l from zq76 l c] at hp
  have hi := zq114 (parP l) (by omega)
  rw [ht] at hi
  have eb : Ev (fun k => impl_BreadthOrder.f k (parP l)) (ordP l l.length, true) := by
   have h := zq121 (parP l) (by omega)
   rw [zq75 l c] at h
   exact Ev.congr (fun k => rfl) (Ev.bind hi (Ev.congr (fun k => if_pos rfl) (Ev.bind h (Ev.now _))))
  have ed : Ev (fun k => impl_DegreesOf.f k (parP l)) (degS (parP l) (l.length + 1) 0, true) := by
   have h := zq132 (parP l) (by omega) (l.length + 1) 0 [] (by omega) (by simp)
   refine Ev.congr (fun k => rfl) (Ev.bind hi (Ev.congr (fun k => ?_) h))
   show (if true = true then _ else _) = _
   rw [if_pos rfl, w64 (by omega) (by omega)]
   rfl
  have hol := zq71 l c
  have hz : rd (ordP l l.length) 0 = 0 := by have := rd_ordP l c 0 (by omega); exact this
  refine Ev.step (fun k => by rw [laws_FnParkingIsTrees.j2, if_pos rfl]) ?_
  refine Ev.bind hp (Ev.bind eb (Ev.bind ed ?_))
  refine Ev.congr (fun k => by rw [if_pos rfl, if_pos rfl, if_pos rfl]) (Ev.bind (zq127 l (by omega)) ?_)
  refine Ev.congr (fun k => by rw [if_pos rfl]) (Ev.bind (show Ev (fun k => impl_IsTree.f k (parP l)) true from Ev.bind hi (Ev.now _)) ?_)
  refine Ev.congr (fun k => by rw [if_pos rfl, w64 (by omega) (by omega), if_pos (show ((ordP l l.length).length : Int) = (l.length : Int) + 1 by omega), if_pos (show (0 : Int) < ((ordP l l.length).length : Int) by omega)]) ?_
  refine Ev.step (fun k => by rw [laws_FnParkingIsTrees.j3, if_neg (by show ¬ (rd (ordP l l.length) 0 != 0) = true; rw [hz]; simp)]) ?_
  exact law_l0 l c (l.length + 1) 0 (by omega)
theorem FnParkingIsTrees : laws_FnParkingIsTrees.Pure := by
 intro l0 l1 hm0 _ hw0 hm1 _ hw1
 have hbig : ∃ b, laws_big.f l0 l1 = some b := by
  unfold laws_big.f
  by_cases c : (l0.length : Int) > 1048576
  ·rw [if_pos c]; exact ⟨true, rfl⟩
  ·rw [if_neg c]; exact ⟨_, rfl⟩
 obtain ⟨b, hb⟩ := hbig
 cases b with
 | true => exact ⟨0, by rw [laws_FnParkingIsTrees.f, hb]; rfl⟩
 | false =>
  have hc0 : ∀ x ∈ l0, 0 ≤ x ∧ x ≤ 255 := fun x hx => by
   have := hw0 x hx
   simpa [Lit.wf, IntKind.min, IntKind.max, IntKind.signed, IntKind.bits] using this
  have hc1 : ∀ x ∈ l1, 0 ≤ x ∧ x ≤ 255 := fun x hx => by
   have := hw1 x hx
   simpa [Lit.wf, IntKind.min, IntKind.max, IntKind.signed, IntKind.bits] using this
  obtain ⟨l, a_, s_, hpl, _, hT⟩ := zq99 l0 hc0 0 0 8 (by omega) 0 ⟨by omega, by omega⟩ (by omega)
  have hD : Ev (fun k => spec_DrawTreeOfParking.f k l0) l := Ev.bind hT (Ev.now _)
  obtain ⟨t, a2_, s2_, htl, _, hT2⟩ := zq107 l1 hc1 0 0 8 (by omega) 0 ⟨by omega, by omega⟩ (by omega)
  have hD2 : Ev (fun k => spec_DrawParkingOfTree.f k l1) t := Ev.bind hT2 (Ev.now _)
  refine Ev.rounds ?_
  refine Ev.congr (fun k => by rw [laws_FnParkingIsTrees.f, hb, Option.bind_some, if_neg (by simp)]) ?_
  refine Ev.bind hD ?_
  obtain ⟨e2, e1⟩ := zq83 l (by omega)
  refine Ev.bind e1 (Ev.bind e2 ?_)
  have hfst : (if pf l = true then (parP l, true) else (([] : List Int), false)).1 = if pf l = true then parP l else [] := by split <;> rfl
  have hsnd : (if pf l = true then (parP l, true) else (([] : List Int), false)).2 = pf l := by cases pf l <;> rfl
  have hlen : (if pf l = true then parP l else []).length ≤ 1000000 := by
   split
   ·simp [parP]; omega
   ·simp
  simp only [hfst, hsnd]
  refine Ev.congr (fun k => by rw [bne_self_eq_false, if_neg (by simp)]) (Ev.bind (zq127 _ hlen) ?_)
  refine Ev.congr (fun k => by rw [if_pos rfl]) (Ev.bind (zq128 l (by omega)) ?_)
  refine Ev.step (fun k => by rw [laws_FnParkingIsTrees.j0, bne_self_eq_false, if_neg (by simp)]) ?_
  refine Ev.bind hD2 ?_
  obtain ⟨f2, f1⟩ := zq129 t (by omega)
  refine Ev.bind f1 (Ev.bind f2 ?_)
  have hfst2 : (if isTr t = true then (favT t, true) else (([] : List Int), false)).1 = if isTr t = true then favT t else [] := by split <;> rfl
  have hsnd2 : (if isTr t = true then (favT t, true) else (([] : List Int), false)).2 = isTr t := by cases isTr t <;> rfl
  have hlen2 : (if isTr t = true then favT t else []).length ≤ 1000000 := by
   split
   ·rw [zq89]; omega
   ·simp
  simp only [hfst2, hsnd2]
  refine Ev.congr (fun k => by rw [bne_self_eq_false, if_neg (by simp)]) (Ev.bind (zq127 _ hlen2) ?_)
  refine Ev.congr (fun k => by rw [if_pos rfl]) (Ev.bind (show Ev (fun k => impl_IsTree.f k t) (isTr t) from Ev.bind (zq114 t (by omega)) (Ev.now _)) ?_)
  refine Ev.step (fun k => by rw [laws_FnParkingIsTrees.j1, bne_self_eq_false, if_neg (by simp)]) ?_
  cases c : isTr t with
  | false => exact Ev.congr (fun k => by rw [if_neg (by simp)]) (law_j2 l _ rfl (by omega))
  | true =>
   have hg := (zq83 (favT t) (by rw [zq89]; omega)).2
   rw [pf_favT t c, if_pos rfl, zq94 t c] at hg
   have hp := zq128 (favT t) (by rw [zq89]; omega)
   rw [pf_favT t c] at hp
   refine Ev.congr (fun k => by rw [if_pos rfl, if_pos rfl]) (Ev.bind hg ?_)
   refine Ev.congr (fun k => by rw [if_pos rfl]) (Ev.bind (zq127 t (by omega)) ?_)
   refine Ev.congr (fun k => by rw [if_pos rfl]) (Ev.bind hp ?_)
   exact Ev.congr (fun k => by rw [if_pos rfl]) (law_j2 l _ rfl (by omega))

end Go.Proofs.Ytclmhdoecbjppaa.Pure
