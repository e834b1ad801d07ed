/- ParseWalk of the program and of the reference agree on every text, and nothing is shared. -/
import Derived.Test.YtlknoidcopkmfaaGreatDoorVFnExactParseWalkSized
import Derived.Test.YtlknoidcopkmfaaGreatDoorPFnExactParseWalkx
import Derived.Lib.AtoiAllCases
import Derived.Lib.CountLaws
import Derived.Lib.IndexMore
import Derived.Lib.SplitLaws
import Derived.Lib.Strings
namespace Go.Proofs.YtlknoidcopkmfaaGreatDoor.PrintWords
set_option linter.defProp false in
def sized_ints := @Go.Proofs.YtlknoidcopkmfaaGreatDoorW.PrintWords.sized_ints
end Go.Proofs.YtlknoidcopkmfaaGreatDoor.PrintWords
namespace Go.Proofs.YtlknoidcopkmfaaGreatDoor.Pure
open Go.RowKit Go.Proofs.YtlknoidcopkmfaaGreatDoor.PFnExactParseWalk Go.Proofs.YtlknoidcopkmfaaGreatDoorW.PrintWords Go.Proofs.YtlknoidcopkmfaaGreatDoorW.PrintLast
set_option linter.unusedVariables false
set_option linter.unusedSimpArgs false

theorem w64 {x : Int} (h0 : -9223372036854775808 ≤ x) (h1 : x ≤ 9223372036854775807) : wrap64 x = x := by
 unfold wrap64
 omega
theorem rd_mid (p : List Int) (h : Int) (t : List Int) : rd (p ++ h :: t) (p.length : Int) = h := by
 unfold rd
 simp
theorem rd_nat (l : List Int) (i : Nat) : rd l (i : Int) = l.getD i 0 := by
 unfold rd
 simp
theorem Ev.ret {α : Type} {g : Nat → Option α} {r : α} (h : ∀ k, g (k + 1) = some r) : Ev g r :=
 Ev.step (f := fun _ => some r) h (Ev.now r)

theorem zq0 : ∀ (t p : List Int), p.length + t.length ≤ 35184372088832 →
  Ev (fun k => laws_eqIntS.l0 k (p ++ t) (p ++ t) (p.length : Int)) true
 | [], p, _ => by
  refine Ev.ret fun k => ?_
  rw [laws_eqIntS.l0, if_neg (by simp)]
 | h :: t, p, hn => by
  have hn' : p.length + t.length + 1 ≤ 35184372088832 := by simpa [Nat.add_assoc] using hn
  have ih := zq0 t (p ++ [h]) (by simp; omega)
  have e1 : (p ++ [h]) ++ t = p ++ h :: t := by simp
  have e2 : (((p ++ [h]).length : Nat) : Int) = (p.length : Int) + 1 := by simp
  rw [e1, e2] at ih
  refine Ev.step (fun k => ?_) ih
  show laws_eqIntS.l0 (k + 1) (p ++ h :: t) (p ++ h :: t) (p.length : Int) = _
  rw [laws_eqIntS.l0, if_pos (by simp; omega), if_pos (by omega), if_pos (by simp; omega), rd_mid, if_pos rfl, w64 (by omega) (by omega)]
theorem zq1 (l : List Int) (h : l.length ≤ 35184372088832) : Ev (fun k => laws_eqIntS.f k l l) true := by
 have z := zq0 l [] (by simpa using h)
 refine Ev.congr (fun k => ?_) z
 show laws_eqIntS.f k l l = _
 rw [laws_eqIntS.f, if_pos rfl]
 rfl

theorem zq2 (a b : List Int) (ha : a.length ≤ 35184372088832) (hb : b.length ≤ 35184372088832) : Ev (fun k => laws_eqWalk.f k a b a b) true :=
 Ev.congr (fun k => rfl) (Ev.bind (zq1 a ha) (Ev.congr (fun k => if_pos rfl) (Ev.bind (zq1 b hb) (Ev.congr (fun k => if_pos rfl) (Ev.now true)))))

def marks (k : Int) : Nat → List Int
 | 0 => []
 | n + 1 => k :: marks (k + 1) n
theorem zq3 : ∀ (t p : List Int) (k : Int), 0 ≤ k → k + t.length ≤ 4611686018427387904 → p.length + t.length ≤ 35184372088832 →
  Ev (fun n => laws_markIntS.l0 n (p ++ t) k (p.length : Int)) (k + t.length, p ++ marks k t.length)
 | [], p, k, _, _, _ => by
  refine Ev.ret fun n => ?_
  rw [laws_markIntS.l0, if_neg (by simp)]
  simp [marks]
 | h :: t, p, k, h0, hk, hn => by
  have hn' : p.length + t.length + 1 ≤ 35184372088832 := by simpa [Nat.add_assoc] using hn
  have hk' : k + (t.length : Int) + 1 ≤ 4611686018427387904 := by simp at hk; omega
  have ih := zq3 t (p ++ [k]) (k + 1) (by omega) (by omega) (by simp; omega)
  have e1 : (p ++ [k]) ++ t = p ++ k :: t := by simp
  have e2 : (((p ++ [k]).length : Nat) : Int) = (p.length : Int) + 1 := by simp
  rw [e1, e2] at ih
  have e3 : ((k + ((h :: t).length : Int), p ++ marks k (h :: t).length) : Int × List Int) = (k + 1 + (t.length : Int), p ++ [k] ++ marks (k + 1) t.length) := by
   simp [marks]; omega
  rw [e3]
  refine Ev.step (fun n => ?_) ih
  show laws_markIntS.l0 (n + 1) (p ++ h :: t) k (p.length : Int) = _
  rw [laws_markIntS.l0, if_pos (by simp; omega), if_pos (by omega), w64 (by omega) (by omega), w64 (by omega) (by omega)]
  congr 1
  simp [List.set_append]
theorem zq4 (l : List Int) (k : Int) (h0 : 0 ≤ k) (hk : k ≤ 4000000000000000000) (hl : l.length ≤ 35184372088832) : Ev (fun n => laws_markIntS.f n l k) (k + l.length, marks k l.length) :=
 zq3 l [] k h0 (by omega) (by simpa using hl)
theorem zq5 : ∀ (m : Nat) (p : List Int) (k : Int), 0 ≤ k → k + m ≤ 4611686018427387904 → p.length + m ≤ 35184372088832 →
  Ev (fun n => laws_heldIntS.l0 n (p ++ marks k m) k (p.length : Int)) (k + m)
 | 0, p, k, _, _, _ => by
  refine Ev.ret fun n => ?_
  rw [laws_heldIntS.l0, if_neg (by simp [marks])]
  simp
 | m + 1, p, k, h0, hk, hn => by
  have ih := zq5 m (p ++ [k]) (k + 1) (by omega) (by omega) (by simp; omega)
  have e1 : (p ++ [k]) ++ marks (k + 1) m = p ++ k :: marks (k + 1) m := by simp
  have e2 : (((p ++ [k]).length : Nat) : Int) = (p.length : Int) + 1 := by simp
  rw [e1, e2] at ih
  have e3 : k + ((m + 1 : Nat) : Int) = k + 1 + (m : Int) := by omega
  rw [e3]
  refine Ev.step (fun n => ?_) ih
  show laws_heldIntS.l0 (n + 1) (p ++ k :: marks (k + 1) m) k (p.length : Int) = _
  rw [laws_heldIntS.l0, if_pos (by simp; omega), if_pos (by omega), rd_mid, if_pos rfl, w64 (by omega) (by omega), w64 (by omega) (by omega)]
theorem zq6 (k : Int) (m : Nat) (h0 : 0 ≤ k) (hk : k ≤ 4000000000000000000) (hm : m ≤ 35184372088832) : Ev (fun n => laws_heldIntS.f n (marks k m) k) (k + m) :=
 zq5 m [] k h0 (by omega) (by simpa using hm)

theorem zq7 (a b : List Int) (ha : a.length ≤ 35184372088832) (hb : b.length ≤ 35184372088832) :
  Ev (fun k => laws_markWalk.f k a b 1) ((1 + (a.length : Int)) + (b.length : Int), marks 1 a.length, marks (1 + (a.length : Int)) b.length) :=
 Ev.congr (fun k => rfl) (Ev.bind (zq4 a 1 (by omega) (by omega) ha) (Ev.bind (zq4 b (1 + (a.length : Int)) (by omega) (by omega) hb) (Ev.now _)))

theorem zq8 (a b : List Int) (ha : a.length ≤ 35184372088832) (hb : b.length ≤ 35184372088832) :
  Ev (fun k => laws_heldWalk.f k (marks 1 a.length) (marks (1 + (a.length : Int)) b.length) 1) ((1 + (a.length : Int)) + (b.length : Int)) := by
 refine Ev.congr (fun k => rfl) (Ev.bind (zq6 1 a.length (by omega) (by omega) ha) ?_)
 refine Ev.congr (fun k => by rw [if_neg (by omega)]) ?_
 refine Ev.bind (zq6 (1 + (a.length : Int)) b.length (by omega) (by omega) hb) ?_
 exact Ev.congr (fun k => by rw [if_neg (by omega)]) (Ev.now _)

theorem zq9 (p : List Int) (h : Int) : (((p ++ [h]).length : Nat) : Int) = (p.length : Int) + 1 := by simp
theorem zq10 (p : List Int) (h : Int) (t : List Int) : (p ++ [h]) ++ t = p ++ h :: t := by simp
theorem len_mid (p : List Int) (h : Int) (t : List Int) : ((p ++ h :: t).length : Int) = (p.length : Int) + t.length + 1 := by simp; omega

def spl (b : UInt8) : List UInt8 → List (List UInt8)
 | [] => [[]]
 | c :: t => if c = b then [] :: spl b t else match spl b t with
  | [] => [[c]]
  | h :: r => (c :: h) :: r
theorem spl_ne (b : UInt8) : ∀ s, spl b s ≠ []
 | [] => by simp [spl]
 | c :: t => by
  rw [spl]
  split
  ·simp
  ·split <;> simp
theorem spl_len (b : UInt8) : ∀ s, (∀ w ∈ spl b s, w.length ≤ s.length) ∧ (spl b s).length ≤ s.length + 1
 | [] => by simp [spl]
 | c :: t => by
  obtain ⟨h1, h2⟩ := spl_len b t
  rw [spl]
  split
  ·refine ⟨fun w hw => ?_, by simp; omega⟩
   rcases List.mem_cons.1 hw with e | e
   ·subst e; simp
   ·have := h1 w e; simp; omega
  ·split
   ·rename_i e; exact absurd e (spl_ne b t)
   ·rename_i h r e
    rw [e] at h1 h2
    refine ⟨fun w hw => ?_, by simp at h2 ⊢; omega⟩
    rcases List.mem_cons.1 hw with e2 | e2
    ·subst e2; have := h1 h (by simp); simp; omega
    ·have := h1 w (by simp [e2]); simp; omega
theorem zq11 (b : UInt8) : ∀ s : List UInt8, Go.Lib.splitK [b] 0 (Go.Lib.count s [b]) s = spl b s
 | [] => by
  have h : Go.Lib.count [] [b] = 0 := by rw [Go.Lib.count_one]; rfl
  rw [h, Go.Lib.splitK, spl]
 | c :: t => by
  have ih := zq11 b t
  by_cases e : c = b
  ·subst e
   have hix : Go.Lib.index (c :: t) [c] = 0 := by rw [Go.Lib.index]; simp [List.isPrefixOf]
   rw [Go.Lib.count_cons_eq, Nat.add_comm, Go.Lib.splitK, hix, spl, if_pos rfl, ← ih]
   simp
  ·have hp : ([b] : List UInt8).isPrefixOf (c :: t) = false := by simp [List.isPrefixOf, Ne.symm e]
   have hix : Go.Lib.index (c :: t) [b] = if Go.Lib.index t [b] == -1 then -1 else Go.Lib.index t [b] + 1 := by rw [Go.Lib.index, hp]; simp
   rw [Go.Lib.count_cons_ne c b t e, spl, if_neg e, ← ih]
   cases hk : Go.Lib.count t [b] with
   | zero => simp [Go.Lib.splitK]
   | succ k =>
    have hge := Go.Lib.index_ge t [b]
    by_cases hm : Go.Lib.index t [b] = -1
    ·have := Go.Lib.count_miss hm
     omega
    ·obtain ⟨j, hj⟩ : ∃ j : Nat, Go.Lib.index t [b] = j := ⟨(Go.Lib.index t [b]).toNat, by omega⟩
     have hj1 : Go.Lib.index (c :: t) [b] = ((j + 1 : Nat) : Int) := by rw [hix, if_neg (fun e => hm (beq_iff_eq.1 e)), hj]; omega
     rw [Go.Lib.splitK, Go.Lib.splitK, hj1, hj, if_neg (by simp; omega), if_neg (by simp)]
     simp
def toB (l : List (List UInt8)) : List ByteArray := l.map fun w => ⟨w.toArray⟩
theorem ba_ext' {a b : ByteArray} (h : a.data.toList = b.data.toList) : a = b := by
 cases a; cases b
 simpa using h
theorem toB_of {l : List ByteArray} {r : List (List UInt8)} (h : l.map (·.data.toList) = r) : l = toB r := by
 rw [← h, toB, List.map_map]
 refine (List.map_id' l).symm.trans (List.map_congr_left fun x _ => ba_ext' ?_)
 simp
theorem zq12 (s : ByteArray) (h : s.size ≤ 2000000) : strings_Split.f s ⟨#[44]⟩ = some (toB (spl 44 s.data.toList)) := by
 rw [strings_Split.f, if_pos ⟨h, by decide⟩]
 refine congrArg some (toB_of ?_)
 rw [Go.Lib.splitB_data]
 exact zq11 44 s.data.toList
theorem zq13 (s : ByteArray) (a b : Nat) : (s.extract a b).data.toList = (s.data.toList.drop a).take (b - a) := by
 rw [ByteArray.data_extract, Array.toList_extract, List.extract_eq_take_drop]
def glue (w : List UInt8) : List (List UInt8) → List (List UInt8)
 | [] => [w]
 | h :: r => (w ++ h) :: r
theorem zq14 {l : List UInt8} {i : Nat} {c : UInt8} {t : List UInt8} (h : l.drop i = c :: t) : ∃ hi : i < l.length, l[i] = c ∧ l.drop (i + 1) = t := by
 have hi : i < l.length := by
  refine Classical.byContradiction fun hn => ?_
  rw [List.drop_eq_nil_of_le (by omega)] at h
  cases h
 rw [List.drop_eq_getElem_cons hi] at h
 exact ⟨hi, (List.cons.inj h).1, (List.cons.inj h).2⟩
theorem bt_get (s : ByteArray) (i : Nat) (c : UInt8) (t : List UInt8) (h : s.data.toList.drop i = c :: t) : bt s (i : Int) = (c.toNat : Int) := by
 obtain ⟨hi, hc, _⟩ := zq14 h
 have hi' : i < s.size := by rw [show s.size = s.data.toList.length from (Array.length_toList).symm]; exact hi
 unfold bt
 rw [Int.toNat_natCast, dif_pos hi', ← hc]
 rfl
theorem zq15 (s : ByteArray) (b : UInt8) (hs : s.size ≤ 2000000) : ∀ (d i fr : Nat) (out : List ByteArray), i + d = s.size → fr ≤ i → out.length ≤ i →
  Ev (fun k => spec_l1Split.l0 k s (b.toNat : Int) out (fr : Int) (i : Int)) (out ++ toB (glue ((s.data.toList.drop fr).take (i - fr)) (spl b (s.data.toList.drop i))))
 | 0, i, fr, out, hd, hf, ho => by
  have hl : s.data.toList.length = s.size := Array.length_toList
  refine Ev.ret fun k => ?_
  rw [spec_l1Split.l0, if_neg (by omega), if_pos (by omega), if_pos (by omega), if_pos (by omega), show s.data.toList.drop i = [] from List.drop_eq_nil_of_le (by omega), spl, glue, List.append_nil, toB, List.map_cons, List.map_nil, Int.toNat_natCast]
  refine congrArg some (congrArg (out ++ [·]) (ba_ext' ?_))
  rw [zq13, show s.size - fr = i - fr by omega]
 | d + 1, i, fr, out, hd, hf, ho => by
  have hl : s.data.toList.length = s.size := Array.length_toList
  obtain ⟨c, t, hct⟩ : ∃ c t, s.data.toList.drop i = c :: t := by
   cases hx : s.data.toList.drop i with
   | nil =>
    have := List.drop_eq_nil_iff.1 hx
    omega
   | cons c t => exact ⟨c, t, rfl⟩
  have hb := bt_get s i c t hct
  obtain ⟨hi, hc, ht⟩ := zq14 hct
  rw [hct, spl]
  by_cases e : c = b
  ·subst e
   rw [if_pos rfl]
   have ih := zq15 s c hs d (i + 1) (i + 1) (out ++ [s.extract fr i]) (by omega) (Nat.le_refl _) (by simp; omega)
   rw [ht, Nat.sub_self, List.take_zero] at ih
   have eg : glue [] (spl c t) = spl c t := by
    cases hx : spl c t with
    | nil => exact absurd hx (spl_ne c t)
    | cons h r => rfl
   rw [eg] at ih
   have er : out ++ toB (glue ((s.data.toList.drop fr).take (i - fr)) ([] :: spl c t)) = (out ++ [s.extract fr i]) ++ toB (spl c t) := by
    rw [glue, List.append_nil, toB, List.map_cons, List.append_assoc]
    refine congrArg (out ++ ·) (congrArg (· :: toB (spl c t)) (ba_ext' ?_))
    rw [zq13]
   rw [er]
   refine Ev.step (fun k => ?_) ih
   show spec_l1Split.l0 (k + 1) s (c.toNat : Int) out (fr : Int) (i : Int) = _
   rw [spec_l1Split.l0, if_pos (by omega), if_pos (by omega), if_pos hb, if_pos (by omega), if_pos (by omega), if_pos (by omega), if_pos (by omega), w64 (by omega) (by omega), Int.toNat_natCast, Int.toNat_natCast, show (i : Int) + 1 = ((i + 1 : Nat) : Int) by omega]
  ·rw [if_neg e]
   have ih := zq15 s b hs d (i + 1) fr out (by omega) (by omega) (by omega)
   rw [ht] at ih
   have hw : (s.data.toList.drop fr).take (i + 1 - fr) = (s.data.toList.drop fr).take (i - fr) ++ [c] := by
    rw [show i + 1 - fr = (i - fr) + 1 by omega, List.take_add_one, List.getElem?_drop, show fr + (i - fr) = i by omega]
    have : s.data.toList[i]? = some c := by rw [List.getElem?_eq_getElem hi, hc]
    rw [this]; rfl
   have eg : glue ((s.data.toList.drop fr).take (i + 1 - fr)) (spl b t) = glue ((s.data.toList.drop fr).take (i - fr)) (match spl b t with | [] => [[c]] | h :: r => (c :: h) :: r) := by
    rw [hw]
    cases hx : spl b t with
    | nil => exact absurd hx (spl_ne b t)
    | cons h r => simp [glue]
   rw [eg] at ih
   refine Ev.step (fun k => ?_) ih
   show spec_l1Split.l0 (k + 1) s (b.toNat : Int) out (fr : Int) (i : Int) = _
   rw [spec_l1Split.l0, if_pos (by omega), if_pos (by omega), if_neg (by rw [hb]; intro h; exact e (UInt8.toNat_inj.1 (by omega))), w64 (by omega) (by omega), show (i : Int) + 1 = ((i + 1 : Nat) : Int) by omega]
theorem zq16 (s : ByteArray) (b : UInt8) (hs : s.size ≤ 2000000) : Ev (fun k => spec_l1Split.f k s (b.toNat : Int)) (toB (spl b s.data.toList)) := by
 have h := zq15 s b hs s.size 0 0 [] (by omega) (Nat.le_refl _) (by simp)
 rw [List.nil_append, Nat.sub_self, List.take_zero, List.drop_zero] at h
 have eg : glue [] (spl b s.data.toList) = spl b s.data.toList := by
  cases hx : spl b s.data.toList with
  | nil => exact absurd hx (spl_ne b _)
  | cons h r => rfl
 rw [eg] at h
 exact h

def digB (x : Int) : List UInt8 := [UInt8.ofNat (48 + x.toNat)]
theorem zq17 : (List.range 10).all (fun x => decide (Lib.decDigits x = digB (x : Int))) = true := by decide +kernel

def rdS (w : List UInt8) : Int := (spec_l1Read.f 20 ⟨w.toArray⟩).getD (-1)
theorem zq18 (s : ByteArray) (hs : s.size ≤ 6) : ∀ (d i acc k : Nat), i + d = s.size → acc < 10 ^ i →
  ∃ v : Int, spec_l1Read.l0 (k + d + 1) s (acc : Int) (i : Int) = some v ∧ (v = -1 ∨ (acc : Int) * (10 ^ d : Nat) ≤ v)
 | 0, i, acc, k, hd, ha => ⟨acc, by rw [spec_l1Read.l0, if_neg (by omega)], .inr (by simp)⟩
 | d + 1, i, acc, k, hd, ha => by
  have hi : i ≤ 5 := by omega
  have hp : 10 ^ i ≤ 100000 := Nat.le_trans (Nat.pow_le_pow_right (by omega) hi) (by decide)
  have hb := bt_range s (i : Int)
  rw [show k + (d + 1) + 1 = (k + d + 1) + 1 by omega, spec_l1Read.l0, if_pos (by omega), if_pos (by omega)]
  by_cases c : bt s (i : Int) < 48
  ·exact ⟨-1, by rw [if_pos c], .inl rfl⟩
  ·by_cases c2 : bt s (i : Int) > 57
   ·exact ⟨-1, by rw [if_neg c, if_pos c2], .inl rfl⟩
   ·obtain ⟨q, hq⟩ : ∃ q : Nat, bt s (i : Int) = 48 + (q : Int) := ⟨(bt s (i : Int) - 48).toNat, by omega⟩
    have hm : (48 + (q : Int) - 48) % 256 = (q : Int) := by omega
    obtain ⟨v, e, h⟩ := zq18 s hs d (i + 1) (10 * acc + q) k (by omega) (by rw [Nat.pow_succ]; omega)
    refine ⟨v, ?_, ?_⟩
    ·rw [if_neg c, if_neg c2, hq, hm, w64 (x := 10 * (acc : Int)) (by omega) (by omega), w64 (by omega) (by omega), w64 (by omega) (by omega), show 10 * (acc : Int) + (q : Int) = ((10 * acc + q : Nat) : Int) by omega, show (i : Int) + 1 = ((i + 1 : Nat) : Int) by omega]
     exact e
    ·rcases h with h | h
     ·exact .inl h
     ·refine .inr (Int.le_trans ?_ h)
      rw [Nat.pow_succ]
      have : ((acc * (10 ^ d * 10) : Nat) : Int) ≤ (((10 * acc + q) * 10 ^ d : Nat) : Int) := by
       refine Int.ofNat_le.2 ?_
       rw [Nat.add_mul, Nat.mul_comm (10 ^ d) 10, ← Nat.mul_assoc, Nat.mul_comm acc 10]
       exact Nat.le_add_right _ _
      simpa using this
theorem digB_of (a : UInt8) (h0 : 48 ≤ a.toNat) (h1 : a.toNat ≤ 57) : [a] = digB ((a.toNat : Int) - 48) := by
 unfold digB
 rw [show 48 + ((a.toNat : Int) - 48).toNat = a.toNat by omega, UInt8.ofNat_toNat]
theorem rdS_ok (w : List UInt8) : spec_l1Read.f 20 ⟨w.toArray⟩ = some (rdS w) ∧ (0 ≤ rdS w → rdS w ≤ 9 → w = digB (rdS w)) := by
 have hsz : (⟨w.toArray⟩ : ByteArray).size = w.length := rfl
 have key : ∃ v, spec_l1Read.f 20 ⟨w.toArray⟩ = some v ∧ (0 ≤ v → v ≤ 9 → w = digB v) := by
  by_cases hl : 1 ≤ w.length ∧ w.length ≤ 6
  ·have e1 : spec_l1In.f ((⟨w.toArray⟩ : ByteArray).size : Int) 1 6 = some true := by rw [hsz, spec_l1In.f, if_pos (by omega), decide_eq_true (by omega)]
   match w, hl with
   | [a], _ =>
    have hb : bt ⟨[a].toArray⟩ 0 = (a.toNat : Int) := bt_get ⟨[a].toArray⟩ 0 a [] rfl
    have hlt := a.toNat_lt
    have h0 : spec_l1Read.f 20 ⟨[a].toArray⟩ = spec_l1Read.l0 19 ⟨[a].toArray⟩ 0 0 := by
     rw [spec_l1Read.f, e1, Option.bind_some, if_pos rfl, if_pos (by rw [hsz]; simp)]
     split
     ·rw [spec_l1Read.j0, if_neg (by rw [hsz]; simp)]
     ·rw [spec_l1Read.j0, if_neg (by simp)]
    rw [h0, spec_l1Read.l0, if_pos (by rw [hsz]; simp), if_pos (by omega), hb]
    by_cases c : (a.toNat : Int) < 48
    ·exact ⟨-1, by rw [if_pos c], fun h => by omega⟩
    ·by_cases c2 : (a.toNat : Int) > 57
     ·exact ⟨-1, by rw [if_neg c, if_pos c2], fun h => by omega⟩
     ·refine ⟨(a.toNat : Int) - 48, ?_, fun _ _ => digB_of a (by omega) (by omega)⟩
      rw [if_neg c, if_neg c2, w64 (x := (0 : Int) + 1) (by omega) (by omega), spec_l1Read.l0, if_neg (by rw [hsz]; simp), show wrap64 (10 * 0) = 0 from by decide +kernel, Int.zero_add, show ((a.toNat : Int) - 48) % 256 = (a.toNat : Int) - 48 by omega, w64 (by omega) (by omega)]
   | a :: b :: t, hl =>
    have hb : bt ⟨(a :: b :: t).toArray⟩ 0 = (a.toNat : Int) := bt_get ⟨(a :: b :: t).toArray⟩ 0 a (b :: t) rfl
    by_cases c48 : (a.toNat : Int) = 48
    ·refine ⟨-1, ?_, fun h => by omega⟩
     rw [spec_l1Read.f, e1, Option.bind_some, if_pos rfl, if_pos (by rw [hsz]; simp; omega), hb, if_pos c48, spec_l1Read.j0, if_pos (by rw [hsz]; simp; omega)]
    ·have h0 : spec_l1Read.f 20 ⟨(a :: b :: t).toArray⟩ = spec_l1Read.l0 19 ⟨(a :: b :: t).toArray⟩ 0 0 := by
      rw [spec_l1Read.f, e1, Option.bind_some, if_pos rfl, if_pos (by rw [hsz]; simp; omega), hb, if_neg c48, spec_l1Read.j0, if_neg (by simp)]
     rw [h0]
     have hln : t.length ≤ 4 := by simp at hl; omega
     by_cases c : (a.toNat : Int) < 48
     ·exact ⟨-1, by rw [spec_l1Read.l0, if_pos (by rw [hsz]; simp; omega), if_pos (by omega), hb, if_pos c], fun h => by omega⟩
     ·by_cases c2 : (a.toNat : Int) > 57
      ·exact ⟨-1, by rw [spec_l1Read.l0, if_pos (by rw [hsz]; simp; omega), if_pos (by omega), hb, if_neg c, if_pos c2], fun h => by omega⟩
      ·obtain ⟨q, hq⟩ : ∃ q : Nat, (a.toNat : Int) = 48 + (q : Int) := ⟨((a.toNat : Int) - 48).toNat, by omega⟩
       obtain ⟨v, e, h⟩ := zq18 ⟨(a :: b :: t).toArray⟩ (by rw [hsz]; simp; omega) (t.length + 1) 1 q (18 - (t.length + 2)) (by rw [hsz]; simp; omega) (by omega)
       refine ⟨v, ?_, fun h0 h9 => ?_⟩
       ·rw [spec_l1Read.l0, if_pos (by rw [hsz]; simp; omega), if_pos (by omega), hb, if_neg c, if_neg c2, w64 (x := (0 : Int) + 1) (by omega) (by omega), show wrap64 (10 * 0) = 0 from by decide +kernel, Int.zero_add, hq, show (48 + (q : Int) - 48) % 256 = (q : Int) by omega, w64 (x := (q : Int)) (by omega) (by omega)]
        rw [show 18 - (t.length + 2) + (t.length + 1) + 1 = 18 by omega] at e
        exact e
       ·rcases h with h | h
        ·omega
        ·have hp : 10 ≤ 10 ^ (t.length + 1) := by rw [Nat.pow_succ]; have := Nat.pow_pos (n := t.length) (show 0 < 10 by decide); omega
         have hq1 : 1 ≤ q := by omega
         have : ((1 * 10 : Nat) : Int) ≤ ((q * 10 ^ (t.length + 1) : Nat) : Int) := Int.ofNat_le.2 (Nat.mul_le_mul hq1 hp)
         have h2 : ((q * 10 ^ (t.length + 1) : Nat) : Int) ≤ v := by simpa using h
         omega
  ·have e1 : ∃ b, spec_l1In.f ((⟨w.toArray⟩ : ByteArray).size : Int) 1 6 = some b ∧ b = false := by
    rw [hsz]
    unfold spec_l1In.f
    by_cases d : (w.length : Int) ≥ 1
    ·rw [if_pos d]; exact ⟨_, rfl, decide_eq_false (by omega)⟩
    ·rw [if_neg d]; exact ⟨_, rfl, rfl⟩
   obtain ⟨b, e1, rfl⟩ := e1
   exact ⟨-1, by rw [spec_l1Read.f, e1, Option.bind_some, if_neg (by simp), spec_l1Read.j0, if_pos rfl], fun h => by omega⟩
 obtain ⟨v, e, h⟩ := key
 have : rdS w = v := by rw [rdS, e]; rfl
 rw [this]
 exact ⟨e, h⟩
theorem zq19 : (List.range 10).all (fun x => decide (rdS (digB (x : Int)) = (x : Int)) && decide (impl_readNumber.f ⟨(digB (x : Int)).toArray⟩ = some ((x : Int), true))) = true := by decide +kernel
theorem zq20 (w : List UInt8) (hl : w.length ≤ 2000000) : ∃ n b, impl_readNumber.f ⟨w.toArray⟩ = some (n, b) ∧ (b = true → 0 ≤ n → n ≤ 9 → w = digB n) := by
 rw [impl_readNumber.f, if_pos (show (⟨w.toArray⟩ : ByteArray).size ≤ 2000000 from hl)]
 refine ⟨_, _, rfl, ?_⟩
 have hd : (⟨w.toArray⟩ : ByteArray).data.toList = w := rfl
 rw [hd]
 cases Lib.atoiAll w with
 | ok v =>
  intro hb h0_ h9_
  have h0 : 0 ≤ v := h0_
  have h9 : v ≤ 9 := h9_
  clear h0_ h9_
  show w = digB v
  have hb' : Lib.itoa v = w := by
   have := beq_iff_eq.1 hb
   rw [Go.ByteArray.toList_eq] at this
   exact this
  have hd9 : Lib.decDigits v.toNat = digB v := by
   have h := List.all_eq_true.1 zq17 v.toNat (List.mem_range.2 (by omega))
   rw [show ((v.toNat : Nat) : Int) = v by omega, decide_eq_true_eq] at h
   exact h
  rw [← hb', Lib.itoa, if_neg (by omega), hd9]
 | range => intro hb; cases hb
 | _ => intro hb; cases hb

theorem rdOf_at (l : List ByteArray) (p : List ByteArray) (x : ByteArray) (t : List ByteArray) : rdOf ByteArray.empty (p ++ x :: t) (p.length : Int) = x := by
 unfold rdOf
 simp
theorem zq21 (w : List UInt8) (r : List (List UInt8)) : toB (w :: r) = ⟨w.toArray⟩ :: toB r := rfl
theorem zq22 (w : List UInt8) : Ev (fun k => spec_l1Read.f k ⟨w.toArray⟩) (rdS w) := Ev.of (fun k => spec_l1Read.mono _ k) (rdS_ok w).1
def rdI (w : List UInt8) : Int × Bool := (impl_readNumber.f ⟨w.toArray⟩).getD (0, false)
theorem rdI_ok (w : List UInt8) (hl : w.length ≤ 2000000) : impl_readNumber.f ⟨w.toArray⟩ = some (rdI w) ∧ ((rdI w).2 = true → 0 ≤ (rdI w).1 → (rdI w).1 ≤ 9 → w = digB (rdI w).1) := by
 obtain ⟨n, b, e, h⟩ := zq20 w hl
 have : rdI w = (n, b) := by rw [rdI, e]; rfl
 rw [this]
 exact ⟨e, h⟩
theorem zq23 : ∀ (t : List (List UInt8)) (p : List ByteArray) (out : List Int), (∀ w ∈ t, w.length ≤ 2000000) → out.length = p.length → p.length + t.length ≤ 3000000 →
  Ev (fun k => impl_readNumbers.l0 k out (p ++ toB t) ((p ++ toB t).length : Int) (p.length : Int)) (if (t.all fun w => (rdI w).2) = true then (out ++ t.map (fun w => (rdI w).1), true) else ([], false))
 | [], p, out, _, ho, hn => by
  refine Ev.ret fun k => ?_
  rw [impl_readNumbers.l0, if_neg (by simp [toB]), List.map_nil, List.append_nil]
  rfl
 | w :: t, p, out, hw, ho, hn => by
  have hn' : p.length + t.length + 1 ≤ 3000000 := by simpa [Nat.add_assoc] using hn
  have ea : (p ++ [⟨w.toArray⟩]) ++ toB t = p ++ toB (w :: t) := by simp [toB]
  have el : (((p ++ [(⟨w.toArray⟩ : ByteArray)]).length : Nat) : Int) = (p.length : Int) + 1 := by simp
  have hm : ((p ++ toB (w :: t)).length : Int) = (p.length : Int) + t.length + 1 := by simp [toB]; omega
  obtain ⟨e1, _⟩ := rdI_ok w (hw w (List.mem_cons_self ..))
  rw [List.all_cons]
  cases c : (rdI w).2 with
  | false =>
   rw [Bool.false_and, if_neg (by simp)]
   refine Ev.ret fun k => ?_
   rw [impl_readNumbers.l0, if_pos (by omega), if_pos (by omega), if_pos (by omega), zq21, rdOf_at (toB t), e1, Option.bind_some, if_neg (by rw [c]; simp)]
  | true =>
   have ih := zq23 t (p ++ [⟨w.toArray⟩]) (out ++ [(rdI w).1]) (fun x hx => hw x (List.mem_cons_of_mem _ hx)) (by simp; omega) (by simp; omega)
   rw [ea, el] at ih
   have em : (out ++ [(rdI w).1]) ++ t.map (fun w => (rdI w).1) = out ++ (w :: t).map (fun w => (rdI w).1) := by simp
   rw [em] at ih
   rw [Bool.true_and]
   refine Ev.step (fun k => ?_) ih
   show impl_readNumbers.l0 (k + 1) out (p ++ toB (w :: t)) ((p ++ toB (w :: t)).length : Int) (p.length : Int) = _
   rw [impl_readNumbers.l0, if_pos (by omega), if_pos (by omega), if_pos (by omega), zq21, rdOf_at (toB t), e1, Option.bind_some, if_pos c, if_pos (by omega), w64 (by omega) (by omega)]
theorem zq24 (x : Int) (h0 : 0 ≤ x) (h9 : x ≤ 9) : rdS (digB x) = x ∧ rdI (digB x) = (x, true) := by
 have h := List.all_eq_true.1 zq19 x.toNat (List.mem_range.2 (by omega))
 rw [show ((x.toNat : Nat) : Int) = x by omega] at h
 simp only [Bool.and_eq_true, decide_eq_true_eq] at h
 exact ⟨h.1, by rw [rdI, h.2]; rfl⟩

def txtL : List Int → List UInt8
 | [] => []
 | x :: t => digB x ++ t.flatMap fun y => 44 :: digB y
theorem zq25 : (List.range 10).all (fun x => decide (strOfNums [(wrap64 (48 + (x : Int))) % 256] = ⟨(digB (x : Int)).toArray⟩) && decide (Lib.decDigits x = digB (x : Int))) = true := by decide +kernel
theorem zq26 (k : Nat) (x : Int) (h0 : 0 ≤ x) (h1 : x < 10) : spec_l1Num.f (k + 1) x = some ⟨(digB x).toArray⟩ := by
 have h := List.all_eq_true.1 zq25 x.toNat (List.mem_range.2 (by omega))
 rw [show ((x.toNat : Nat) : Int) = x by omega] at h
 simp only [Bool.and_eq_true, decide_eq_true_eq] at h
 rw [spec_l1Num.f, if_pos (by omega), h.1]
theorem ba_ext {a b : ByteArray} (h : a.data.toList = b.data.toList) : a = b := by
 cases a; cases b
 simpa using h
theorem ba_app (a b : ByteArray) : (a ++ b).data.toList = a.data.toList ++ b.data.toList := by
 rw [ByteArray.data_append, Array.toList_append]
theorem ba_size (a : ByteArray) : a.size = a.data.toList.length := (Array.length_toList).symm
theorem zq27 : ∀ (t : List Int), (t.flatMap fun y => 44 :: digB y).length = 2 * t.length
 | [] => rfl
 | x :: t => by
  have := zq27 t
  rw [List.flatMap_cons, List.length_append, this]
  simp [digB]
  omega
theorem zq28 : ∀ (t p : List Int) (acc : ByteArray), 0 < p.length → p.length + t.length ≤ 1000 → acc.size ≤ 2 * p.length → (∀ x ∈ t, 0 ≤ x ∧ x < 10) →
  Ev (fun k => spec_trText.l0 k acc (p ++ t) ((p ++ t).length : Int) (p.length : Int)) ⟨(acc.data.toList ++ t.flatMap fun y => 44 :: digB y).toArray⟩
 | [], p, acc, _, _, _, _ => by
  refine Ev.ret fun k => ?_
  rw [spec_trText.l0, if_neg (by simp)]
  exact congrArg some (ba_ext (by rw [List.flatMap_nil, List.append_nil]))
 | x :: t, p, acc, hp, hn, ha, hx => by
  have hn' : p.length + t.length + 1 ≤ 1000 := by simpa [Nat.add_assoc] using hn
  have hm := len_mid p x t
  obtain ⟨x0, x1⟩ := hx x (List.mem_cons_self ..)
  have hs1 : (acc ++ (⟨#[44]⟩ : ByteArray)).size = acc.size + 1 := by rw [ba_size, ba_app, List.length_append, ← ba_size]; rfl
  have hs2 : (⟨(digB x).toArray⟩ : ByteArray).size = 1 := rfl
  have hs3 : ((acc ++ (⟨#[44]⟩ : ByteArray)) ++ (⟨(digB x).toArray⟩ : ByteArray)).size = acc.size + 2 := by rw [ba_size, ba_app, List.length_append, ← ba_size, hs1]; rfl
  have ih := zq28 t (p ++ [x]) ((acc ++ (⟨#[44]⟩ : ByteArray)) ++ (⟨(digB x).toArray⟩ : ByteArray)) (by simp) (by simp; omega) (by rw [hs3]; simp; omega) (fun y hy => hx y (List.mem_cons_of_mem _ hy))
  rw [zq10, zq9] at ih
  have e : (((acc ++ (⟨#[44]⟩ : ByteArray)) ++ (⟨(digB x).toArray⟩ : ByteArray)).data.toList ++ t.flatMap fun y => 44 :: digB y) = acc.data.toList ++ (x :: t).flatMap fun y => 44 :: digB y := by
   rw [ba_app, ba_app, List.flatMap_cons]
   simp
  rw [e] at ih
  refine Ev.step (f := fun k => (spec_l1Num.f k x).bind fun t113 => if (acc ++ (⟨#[44]⟩ : ByteArray)).size + t113.size ≤ 9223372036854775807 then spec_trText.l0 k ((acc ++ (⟨#[44]⟩ : ByteArray)) ++ t113) (p ++ x :: t) ((p ++ x :: t).length : Int) (wrap64 ((p.length : Int) + 1)) else none) (fun k => by rw [spec_trText.l0, if_pos (by omega), if_pos (by omega), if_pos (by omega), if_pos (by omega), if_pos (by omega), rd_mid]) ?_
  refine Ev.bind (Ev.ret (fun k => zq26 k x x0 x1)) ?_
  exact Ev.congr (fun k => by rw [if_pos (by rw [hs1, hs2]; omega), w64 (by omega) (by omega)]) ih
theorem zq29 (l : List Int) (hl : l.length ≤ 8) (hx : ∀ x ∈ l, 0 ≤ x ∧ x < 10) : Ev (fun k => spec_trText.f k l) (if l.length = 0 then ⟨#[45]⟩ else ⟨(txtL l).toArray⟩) := by
 cases l with
 | nil =>
  rw [if_pos (by rfl)]
  exact Ev.congr (fun k => by rw [spec_trText.f, if_pos (by simp)]) (Ev.now _)
 | cons x t =>
  obtain ⟨x0, x1⟩ := hx x (List.mem_cons_self ..)
  rw [if_neg (by simp)]
  refine Ev.congr (fun k => by rw [spec_trText.f, if_neg (by simp; omega)]) ?_
  have ih := zq28 t [x] ((⟨#[]⟩ : ByteArray) ++ (⟨(digB x).toArray⟩ : ByteArray)) (by simp) (by simp at hl ⊢; omega) (by rw [ba_size, ba_app]; simp [digB]) (fun y hy => hx y (List.mem_cons_of_mem _ hy))
  have e : (((⟨#[]⟩ : ByteArray) ++ (⟨(digB x).toArray⟩ : ByteArray)).data.toList ++ t.flatMap fun y => 44 :: digB y) = txtL (x :: t) := by
   rw [ba_app, txtL]
   simp
  rw [e] at ih
  have hm : ((x :: t).length : Int) = t.length + 1 := by simp
  refine Ev.step (f := fun k => (spec_l1Num.f k x).bind fun t114 => if (⟨#[]⟩ : ByteArray).size + t114.size ≤ 9223372036854775807 then spec_trText.l0 k ((⟨#[]⟩ : ByteArray) ++ t114) (x :: t) ((x :: t).length : Int) (wrap64 ((0 : Int) + 1)) else none) (fun k => by rw [spec_trText.l0, if_pos (by omega), if_pos (by omega), if_pos (by omega), if_neg (by omega)]; rfl) ?_
  refine Ev.bind (Ev.ret (fun k => zq26 k x x0 x1)) ?_
  exact Ev.congr (fun k => by rw [if_pos (Nat.le_trans (Nat.le_of_eq (show (⟨#[]⟩ : ByteArray).size + (⟨(digB x).toArray⟩ : ByteArray).size = 1 from rfl)) (by decide)), w64 (by omega) (by omega)]; rfl) ih
def dashB (l : List Int) : ByteArray := if l.length = 0 then ⟨#[45]⟩ else ⟨(txtL l).toArray⟩
theorem zq30 (l : List Int) (h8 : l.length ≤ 8) : (dashB l).size ≤ 100 := by
 unfold dashB
 split
 ·decide
 ·rw [ba_size]
  cases l with
  | nil => simp [txtL]
  | cons x t =>
   rw [txtL, List.toList_toArray, List.length_append, zq27]
   simp [digB] at h8 ⊢
   omega

def inAll (lo hi : Int) (l : List Int) : Bool := l.all fun n => decide (lo ≤ n) && decide (n ≤ hi)
theorem zq31 (lo hi : Int) (l : List Int) : inAll lo hi l = true ↔ ∀ x ∈ l, lo ≤ x ∧ x ≤ hi := by
 simp [inAll, List.all_eq_true]
theorem zq32 (lo hi x : Int) (l : List Int) : inAll lo hi (x :: l) = ((decide (lo ≤ x) && decide (x ≤ hi)) && inAll lo hi l) := by
 simp [inAll]

theorem zq33 : ∀ (n : Nat) (f : Nat → Int), (∀ i, i ≤ n → 1 ≤ f i ∧ f i ≤ n) → ∃ i j, i < j ∧ j ≤ n ∧ f i = f j
 | 0, f, h => by have := h 0 (by omega); omega
 | n + 1, f, h => by
  by_cases c : ∃ i, i ≤ n ∧ f i = f (n + 1)
  ·obtain ⟨i, hi, e⟩ := c
   exact ⟨i, n + 1, by omega, by omega, e⟩
  · -- the last one's value is left out
   let g : Nat → Int := fun i => if f i > f (n + 1) then f i - 1 else f i
   have hg : ∀ i, i ≤ n → 1 ≤ g i ∧ g i ≤ n := by
    intro i hi
    have h1 := h i (by omega)
    have h2 := h (n + 1) (by omega)
    have h3 : f i ≠ f (n + 1) := fun e => c ⟨i, hi, e⟩
    show 1 ≤ (if f i > f (n + 1) then f i - 1 else f i) ∧ (if f i > f (n + 1) then f i - 1 else f i) ≤ n
    split <;> omega
   obtain ⟨i, j, hij, hj, e⟩ := zq33 n g hg
   have h3 : f i ≠ f (n + 1) := fun e => c ⟨i, by omega, e⟩
   have h4 : f j ≠ f (n + 1) := fun e => c ⟨j, by omega, e⟩
   refine ⟨i, j, hij, by omega, ?_⟩
   have e' : (if f i > f (n + 1) then f i - 1 else f i) = (if f j > f (n + 1) then f j - 1 else f j) := e
   split at e' <;> split at e' <;> omega
theorem zq34 {l : List Int} (h : l.Nodup) {i j : Nat} (hi : i < j) (hj : j < l.length) : l[i]'(by omega) ≠ l[j] :=
 List.pairwise_iff_getElem.1 h i j (by omega) hj hi
theorem zq35 (n : Nat) (l : List Int) (h : l.Nodup) (hr : ∀ v ∈ l, 0 ≤ v ∧ v ≤ n) : l.length ≤ n + 1 := by
 refine Classical.byContradiction fun c => ?_
 obtain ⟨i, j, hij, hj, e⟩ := zq33 (n + 1) (fun i => l.getD i 0 + 1) (fun i hi => by
  have hm : l.getD i 0 ∈ l := by
   rw [List.getD_eq_getElem?_getD, List.getElem?_eq_getElem (by omega)]
   exact List.getElem_mem _
  have := hr _ hm
  show 1 ≤ l.getD i 0 + 1 ∧ l.getD i 0 + 1 ≤ ((n + 1 : Nat) : Int)
  omega)
 have e2 : l.getD i 0 + 1 = l.getD j 0 + 1 := e
 rw [List.getD_eq_getElem?_getD, List.getD_eq_getElem?_getD, List.getElem?_eq_getElem (by omega), List.getElem?_eq_getElem (by omega)] at e2
 simp only [Option.getD_some] at e2
 exact zq34 h hij (by omega) (by omega)

def Up (l : List Int) : Prop := l.Pairwise (· ≤ ·)
def put (x : Int) : List Int → List Int
 | [] => [x]
 | h :: t => if x ≤ h then x :: h :: t else h :: put x t
def srt : List Int → List Int
 | [] => []
 | h :: t => put h (srt t)
theorem zq36 (x : Int) : ∀ l : List Int, (put x l).Perm (x :: l)
 | [] => .refl _
 | h :: t => by
  rw [put]
  split
  ·exact .refl _
  ·exact ((zq36 x t).cons h).trans (.swap x h t)
theorem put_up (x : Int) : ∀ l : List Int, Up l → Up (put x l)
 | [], _ => by simp [put, Up]
 | h :: t, hl => by
  have h1 := List.pairwise_cons.1 hl
  rw [put]
  split
  ·refine List.pairwise_cons.2 ⟨fun y hy => ?_, hl⟩
   rcases List.mem_cons.1 hy with e | e
   ·omega
   ·have := h1.1 y e; omega
  ·refine List.pairwise_cons.2 ⟨fun y hy => ?_, put_up x t h1.2⟩
   rcases List.mem_cons.1 ((zq36 x t).mem_iff.1 hy) with e | e
   ·omega
   ·exact h1.1 y e
theorem zq37 : ∀ l : List Int, (srt l).Perm l
 | [] => .refl _
 | h :: t => (zq36 h (srt t)).trans ((zq37 t).cons h)
theorem srt_up : ∀ l : List Int, Up (srt l)
 | [] => by simp [srt, Up]
 | h :: t => put_up h _ (srt_up t)
theorem zq38 : ∀ (a b : List Int), Up a → Up b → a.Perm b → a = b
 | [], b, _, _, h => by simpa using h.length_eq.symm
 | x :: a, [], _, _, h => by simpa using h.length_eq
 | x :: a, y :: b, ha, hb, h => by
  have h1 := List.pairwise_cons.1 ha
  have h2 := List.pairwise_cons.1 hb
  have e : x = y := by
   have hx : x ∈ y :: b := h.mem_iff.1 (by simp)
   have hy : y ∈ x :: a := h.mem_iff.2 (by simp)
   rcases List.mem_cons.1 hx with e | e
   ·exact e
   ·rcases List.mem_cons.1 hy with e' | e'
    ·exact e'.symm
    ·have := h1.1 y e'
     have := h2.1 x e
     omega
  subst e
  rw [zq38 a b h1.2 h2.2 (List.perm_cons x |>.1 h)]

theorem zq39 : ∀ (a b : List Int), a.Pairwise (· < ·) → b.Pairwise (· < ·) → (∀ x, x ∈ a ↔ x ∈ b) → a = b
 | [], [], _, _, _ => rfl
 | [], y :: b, _, _, h => by have := (h y).2 (by simp); simp at this
 | x :: a, [], _, _, h => by have := (h x).1 (by simp); simp at this
 | x :: a, y :: b, ha, hb, h => by
  have h1 := List.pairwise_cons.1 ha
  have h2 := List.pairwise_cons.1 hb
  have e : x = y := by
   rcases List.mem_cons.1 ((h x).1 (by simp)) with e | e
   ·exact e
   ·rcases List.mem_cons.1 ((h y).2 (by simp)) with e' | e'
    ·exact e'.symm
    ·have := h1.1 y e'
     have := h2.1 x e
     omega
  subst e
  rw [zq39 a b h1.2 h2.2 fun z => ?_]
  constructor
  ·intro hz
   rcases List.mem_cons.1 ((h z).1 (by simp [hz])) with e | e
   ·have := h1.1 z hz; omega
   ·exact e
  ·intro hz
   rcases List.mem_cons.1 ((h z).2 (by simp [hz])) with e | e
   ·have := h2.1 z hz; omega
   ·exact e
theorem zq40 (l : List Int) (h : l.Nodup) : (srt l).Pairwise (· < ·) := by
 have h1 := srt_up l
 have h2 : (srt l).Nodup := (zq37 l).nodup_iff.2 h
 refine List.pairwise_iff_getElem.2 fun i j hi hj hij => ?_
 have h3 := List.pairwise_iff_getElem.1 h1 i j hi hj hij
 have h4 := List.pairwise_iff_getElem.1 h2 i j hi hj hij
 omega

def hts (last : Int) : List Int → Bool
 | [] => true
 | h :: t => decide (0 ≤ h) && decide (h ≤ last + 1) && hts h t
theorem hts_mem : ∀ (l : List Int) (last : Int), hts last l = true → ∀ x ∈ l, 0 ≤ x ∧ x ≤ last + l.length
 | [], _, _, x, hx => by cases hx
 | h :: t, last, hh, x, hx => by
  simp only [hts, Bool.and_eq_true, decide_eq_true_eq] at hh
  have e : ((h :: t).length : Int) = (t.length : Int) + 1 := by simp
  rw [e]
  cases hx with
  | head => omega
  | tail _ hx =>
   have := hts_mem t h hh.2 x hx
   omega
theorem rd_prev (q : List Int) (x : Int) (t : List Int) : rd ((q ++ [x]) ++ t) (((q ++ [x]).length : Int) - 1) = x := by
 unfold rd
 have : (((q ++ [x]).length : Int) - 1).toNat = q.length := by simp
 rw [this]
 simp

theorem rd_mem (l : List Int) (i : Int) (h0 : 0 ≤ i) (h1 : i < l.length) : rd l i ∈ l := by
 unfold rd
 rw [List.getD_eq_getElem?_getD, List.getElem?_eq_getElem (by omega)]
 exact List.getElem_mem _
def iota : Nat → Int → List Int
 | 0, _ => []
 | n + 1, i => i :: iota n (i + 1)
theorem zq41 (x : Int) : ∀ (n : Nat) (i : Int), x ∈ iota n i ↔ i ≤ x ∧ x < i + n
 | 0, i => by
  simp only [iota, List.not_mem_nil, false_iff]
  omega
 | n + 1, i => by
  rw [iota, List.mem_cons, zq41 x n (i + 1)]
  omega
theorem zq42 : ∀ (n : Nat) (i : Int), (iota n i).Pairwise (· < ·)
 | 0, i => by simp [iota]
 | n + 1, i => List.pairwise_cons.2 ⟨fun x hx => by have := (zq41 x n (i + 1)).1 hx; omega, zq42 n (i + 1)⟩
theorem zq43 {l : List Int} (h : l.Pairwise (· < ·)) : l.Nodup := h.imp fun hab => by omega
def isUp : List Int → Int → Bool
 | [], _ => true
 | h :: t, i => decide (h = i) && isUp t (i + 1)
theorem zq44 : ∀ (l : List Int) (i : Int), isUp l i = true ↔ l = iota l.length i
 | [], i => by simp [isUp, iota]
 | h :: t, i => by
  rw [isUp, Bool.and_eq_true, decide_eq_true_eq, zq44 t (i + 1), List.length_cons, iota]
  constructor
  ·rintro ⟨h1, h2⟩
   rw [h1, ← h2]
  ·intro e
   injection e with h1 h2
   exact ⟨h1, h2⟩
theorem zq45 (l : List Int) : isUp (srt l) 0 = true ↔ inAll 0 ((l.length : Int) - 1) l = true ∧ l.Nodup := by
 rw [zq44, (zq37 l).length_eq, zq31]
 constructor
 ·intro e
  have hm : ∀ x, x ∈ l ↔ 0 ≤ x ∧ x < 0 + (l.length : Int) := fun x => by
   rw [← zq41 x l.length 0, ← e]
   exact (zq37 l).mem_iff.symm
  refine ⟨fun x hx => by have := (hm x).1 hx; omega, ?_⟩
  rw [← (zq37 l).nodup_iff, e]
  exact zq43 (zq42 _ _)
 ·rintro ⟨h1, h2⟩
  refine zq39 _ _ (zq40 l h2) (zq42 _ _) fun x => ?_
  rw [(zq37 l).mem_iff, zq41]
  constructor
  ·intro hx
   have := h1 x hx
   omega
  ·intro hx
   refine Classical.byContradiction fun hn => ?_
   have hc : (x :: l).Nodup := List.nodup_cons.2 ⟨hn, h2⟩
   have := zq35 (l.length - 1) (x :: l) hc fun v hv => by
    rcases List.mem_cons.1 hv with e | e
    ·omega
    ·have := h1 v e; omega
   rw [List.length_cons] at this
   omega
def labsFrom (H L : List Int) : Nat → Nat → Bool
 | 0, _ => true
 | d + 1, i => if rd H i = rd H ((i : Int) - 1) + 1 ∧ rd L ((i : Int) - 1) > rd L i then false else labsFrom H L d (i + 1)
theorem zq46 (H L : List Int) : ∀ (d i : Nat), labsFrom H L d i = true ↔ ∀ j : Nat, i ≤ j → j < i + d → rd H j = rd H ((j : Int) - 1) + 1 → rd L ((j : Int) - 1) ≤ rd L j
 | 0, i => by
  simp only [labsFrom, true_iff]
  intro j h1 h2
  omega
 | d + 1, i => by
  rw [labsFrom]
  have ih := zq46 H L d (i + 1)
  by_cases c : rd H i = rd H ((i : Int) - 1) + 1 ∧ rd L ((i : Int) - 1) > rd L i
  ·rw [if_pos c]
   constructor
   ·intro h; cases h
   ·intro h
    have := h i (Nat.le_refl _) (by omega) c.1
    omega
  ·rw [if_neg c, ih]
   constructor
   ·intro h j h1 h2 h3
    by_cases e : j = i
    ·subst e
     refine Classical.byContradiction fun h4 => c ⟨h3, by omega⟩
    ·exact h j (by omega) (by omega) h3
   ·intro h j h1 h2 h3
    exact h j (by omega) (by omega) h3
def bothFrom (H L : List Int) : Nat → Nat → Bool
 | 0, _ => true
 | d + 1, i => if rd L i ∈ L.take i then false else if 0 < i ∧ rd H i = rd H ((i : Int) - 1) + 1 ∧ rd L ((i : Int) - 1) > rd L i then false else bothFrom H L d (i + 1)
theorem zq47 (H L : List Int) : ∀ (d i : Nat), bothFrom H L d i = true ↔ ∀ j : Nat, i ≤ j → j < i + d → rd L j ∉ L.take j ∧ (0 < j → rd H j = rd H ((j : Int) - 1) + 1 → rd L ((j : Int) - 1) ≤ rd L j)
 | 0, i => by
  simp only [bothFrom, true_iff]
  intro j h1 h2
  omega
 | d + 1, i => by
  rw [bothFrom]
  have ih := zq47 H L d (i + 1)
  by_cases g : rd L i ∈ L.take i
  ·rw [if_pos g]
   constructor
   ·intro h; cases h
   ·intro h
    exact absurd g (h i (Nat.le_refl _) (by omega)).1
  ·rw [if_neg g]
   by_cases c : 0 < i ∧ rd H i = rd H ((i : Int) - 1) + 1 ∧ rd L ((i : Int) - 1) > rd L i
   ·rw [if_pos c]
    constructor
    ·intro h; cases h
    ·intro h
     have := (h i (Nat.le_refl _) (by omega)).2 c.1 c.2.1
     omega
   ·rw [if_neg c, ih]
    constructor
    ·intro h j h1 h2
     by_cases e : j = i
     ·subst e
      exact ⟨g, fun h3 h4 => Classical.byContradiction fun h5 => c ⟨h3, h4, by omega⟩⟩
     ·exact h j (by omega) (by omega)
    ·intro h j h1 h2
     exact h j (by omega) (by omega)
theorem zq48 (L : List Int) : L.Nodup ↔ ∀ j : Nat, j < L.length → rd L j ∉ L.take j := by
 constructor
 ·intro h j hj hm
  obtain ⟨i, hi, e⟩ := List.mem_iff_getElem.1 hm
  rw [List.getElem_take] at e
  have hij : i < j := by simp at hi; omega
  rw [rd_nat, List.getD_eq_getElem?_getD, List.getElem?_eq_getElem hj] at e
  exact zq34 h hij hj e
 ·intro h
  refine List.pairwise_iff_getElem.2 fun i j hi hj hij e => h j hj ?_
  rw [rd_nat, List.getD_eq_getElem?_getD, List.getElem?_eq_getElem hj]
  refine List.mem_iff_getElem.2 ⟨i, by simp; omega, ?_⟩
  rw [List.getElem_take]
  exact e
theorem zq49 (H L : List Int) : bothFrom H L L.length 0 = (decide L.Nodup && labsFrom H L (L.length - 1) 1) := by
 rw [Bool.eq_iff_iff, Bool.and_eq_true, decide_eq_true_eq, zq47, zq46, zq48]
 constructor
 ·intro h
  exact ⟨fun j hj => (h j (by omega) (by omega)).1, fun j h1 h2 => (h j (by omega) (by omega)).2 (by omega)⟩
 ·rintro ⟨h1, h2⟩ j _ h3
  exact ⟨h1 j (by omega), fun h4 => h2 j (by omega) (by omega)⟩
def goodW (H L : List Int) : Bool := (decide (H.length ≤ 8) && hts (-1) H) && (decide ((L.length : Int) = (H.length : Int)) && (inAll 0 ((H.length : Int) - 1) L && (decide L.Nodup && labsFrom H L (L.length - 1) 1)))
theorem zq50 (H L : List Int) : goodW H L = true ↔ (H.length ≤ 8 ∧ hts (-1) H = true) ∧ L.length = H.length ∧ (∀ x ∈ L, 0 ≤ x ∧ x ≤ (H.length : Int) - 1) ∧ L.Nodup ∧ labsFrom H L (L.length - 1) 1 = true := by
 simp only [goodW, Bool.and_eq_true, decide_eq_true_eq, zq31]
 constructor
 ·rintro ⟨h1, h2, h3⟩
  exact ⟨h1, by omega, h3⟩
 ·rintro ⟨h1, h2, h3⟩
  exact ⟨h1, by omega, h3⟩
theorem hts_rd {H : List Int} (h8 : H.length ≤ 8) (h : hts (-1) H = true) (i : Int) (h0 : 0 ≤ i) (h1 : i < H.length) : 0 ≤ rd H i ∧ rd H i ≤ 8 := by
 have := hts_mem H (-1) h _ (rd_mem H i h0 h1)
 omega

theorem zq51 (a b c : Int) : spec_l1In.f a b c = some (decide (b ≤ a) && decide (a ≤ c)) := by
 unfold spec_l1In.f
 by_cases h : a ≥ b
 ·rw [if_pos h]; simp [show b ≤ a from h]
 ·rw [if_neg h]; simp [show ¬ b ≤ a from h]

theorem zq52 : ∀ (t p : List Int) (last : Int), -1 ≤ last → last ≤ p.length → p.length + t.length ≤ 8 →
  Ev (fun k => spec_waHeights.l0 k last (p ++ t) ((p ++ t).length : Int) (p.length : Int)) (hts last t)
 | [], p, last, _, _, _ => by
  refine Ev.ret fun k => ?_
  rw [spec_waHeights.l0, if_neg (by simp)]
  rfl
 | h :: t, p, last, h0, h1, hn => by
  have hn' : p.length + t.length + 1 ≤ 8 := by simpa [Nat.add_assoc] using hn
  have e1 : (p ++ [h]) ++ t = p ++ h :: t := by simp
  have e2 : (((p ++ [h]).length : Nat) : Int) = (p.length : Int) + 1 := by simp
  by_cases c : 0 ≤ h ∧ h ≤ last + 1
  ·have ih := zq52 t (p ++ [h]) h (by omega) (by omega) (by simp; omega)
   rw [e1, e2] at ih
   have er : hts last (h :: t) = hts h t := by simp [hts, c]
   rw [er]
   refine Ev.step (fun k => ?_) ih
   show spec_waHeights.l0 (k + 1) last (p ++ h :: t) ((p ++ h :: t).length : Int) (p.length : Int) = _
   rw [spec_waHeights.l0, if_pos (by simp; omega), if_pos (by omega), if_pos (by simp; omega), rd_mid, zq51, w64 (by omega) (by omega), w64 (by omega) (by omega)]
   simp [c]
  ·have er : hts last (h :: t) = false := by
    simp only [hts, Bool.and_eq_false_iff, decide_eq_false_iff_not]
    omega
   rw [er]
   refine Ev.ret fun k => ?_
   rw [spec_waHeights.l0, if_pos (by simp; omega), if_pos (by omega), if_pos (by simp; omega), rd_mid, zq51, w64 (by omega) (by omega)]
   have : (decide (0 ≤ h) && decide (h ≤ last + 1)) = false := by
    simp only [Bool.and_eq_false_iff, decide_eq_false_iff_not]
    omega
   rw [this]
   rfl
theorem zq53 (l : List Int) : Ev (fun k => spec_waHeights.f k l) (decide (l.length ≤ 8) && hts (-1) l) := by
 by_cases c : l.length ≤ 8
 ·have z := zq52 l [] (-1) (by omega) (by simp) (by simpa using c)
  rw [decide_eq_true c, Bool.true_and]
  refine Ev.congr (fun k => ?_) z
  show spec_waHeights.f k l = _
  rw [spec_waHeights.f, if_neg (by omega)]
  rfl
 ·rw [decide_eq_false c, Bool.false_and]
  refine Ev.congr (fun k => ?_) (Ev.now false)
  show spec_waHeights.f k l = _
  rw [spec_waHeights.f, if_pos (by omega)]

theorem zq54 (lo hi : Int) : ∀ (t p : List Int), p.length + t.length ≤ 35184372088832 →
  Ev (fun k => spec_l1All.l0 k lo hi (p ++ t) ((p ++ t).length : Int) (p.length : Int)) (inAll lo hi t)
 | [], p, _ => by
  refine Ev.ret fun k => ?_
  rw [spec_l1All.l0, if_neg (by simp)]
  rfl
 | h :: t, p, hn => by
  have hn' : p.length + t.length + 1 ≤ 35184372088832 := by simpa [Nat.add_assoc] using hn
  have hm := len_mid p h t
  rw [zq32]
  cases c : decide (lo ≤ h) && decide (h ≤ hi) with
  | true =>
   have ih := zq54 lo hi t (p ++ [h]) (by simp; omega)
   rw [zq10, zq9] at ih
   rw [Bool.true_and]
   refine Ev.step (fun k => ?_) ih
   show spec_l1All.l0 (k + 1) lo hi (p ++ h :: t) ((p ++ h :: t).length : Int) (p.length : Int) = _
   rw [spec_l1All.l0, if_pos (by omega), if_pos (by omega), if_pos (by omega), rd_mid, zq51, c, Option.bind_some, if_pos rfl, w64 (by omega) (by omega)]
  | false =>
   rw [Bool.false_and]
   refine Ev.ret fun k => ?_
   rw [spec_l1All.l0, if_pos (by omega), if_pos (by omega), if_pos (by omega), rd_mid, zq51, c]
   rfl
theorem zq55 (l : List Int) (lo hi : Int) (hl : l.length ≤ 35184372088832) : Ev (fun k => spec_l1All.f k l lo hi) (inAll lo hi l) :=
 zq54 lo hi l [] (by simpa using hl)

theorem zq56 (x : Int) : ∀ (t p : List Int), p.length + t.length ≤ 35184372088832 →
  Ev (fun k => spec_l1Has.l0 k x (p ++ t) ((p ++ t).length : Int) (p.length : Int)) (decide (x ∈ t))
 | [], p, _ => by
  refine Ev.ret fun k => ?_
  rw [spec_l1Has.l0, if_neg (by simp)]
  simp
 | h :: t, p, hn => by
  have hn' : p.length + t.length + 1 ≤ 35184372088832 := by simpa [Nat.add_assoc] using hn
  have hm := len_mid p h t
  by_cases c : h = x
  ·rw [decide_eq_true (by simp [c] : x ∈ h :: t)]
   refine Ev.ret fun k => ?_
   rw [spec_l1Has.l0, if_pos (by omega), if_pos (by omega), if_pos (by omega), rd_mid, if_pos c]
  ·have ih := zq56 x t (p ++ [h]) (by simp; omega)
   rw [zq10, zq9] at ih
   have e : decide (x ∈ h :: t) = decide (x ∈ t) := decide_eq_decide.2 (by simp [Ne.symm c])
   rw [e]
   refine Ev.step (fun k => ?_) ih
   show spec_l1Has.l0 (k + 1) x (p ++ h :: t) ((p ++ h :: t).length : Int) (p.length : Int) = _
   rw [spec_l1Has.l0, if_pos (by omega), if_pos (by omega), if_pos (by omega), rd_mid, if_neg c, w64 (by omega) (by omega)]
theorem zq57 (l : List Int) (x : Int) (hl : l.length ≤ 35184372088832) : Ev (fun k => spec_l1Has.f k l x) (decide (x ∈ l)) :=
 zq56 x l [] (by simpa using hl)

theorem zq58 (H L : List Int) (h8 : H.length ≤ 8) (hh : hts (-1) H = true) (hl : L.length = H.length) : ∀ (d i : Nat), i + d = L.length →
  Ev (fun k => spec_waGood.l0 k L (L.length : Int) (i : Int) H L) (bothFrom H L d i)
 | 0, i, hd => by
  refine Ev.ret fun k => ?_
  rw [spec_waGood.l0, if_neg (by omega), bothFrom]
 | d + 1, i, hd => by
  have ih := zq58 H L h8 hh hl d (i + 1) (by omega)
  rw [show ((i + 1 : Nat) : Int) = (i : Int) + 1 by omega] at ih
  rw [bothFrom]
  refine Ev.step (f := fun k => (spec_l1Has.f k (L.take i) (rd L i)).bind fun t135 => if t135 = true then some false else if (i : Int) > 0 then (if (i : Int) < (H.length : Int) then (if 0 ≤ wrap64 ((i : Int) - 1) then (if wrap64 ((i : Int) - 1) < (H.length : Int) then (if rd H i = wrap64 (rd H (wrap64 ((i : Int) - 1)) + 1) then (if wrap64 ((i : Int) - 1) < (L.length : Int) then (if rd L (wrap64 ((i : Int) - 1)) > rd L i then some false else spec_waGood.l0 k L (L.length : Int) (wrap64 ((i : Int) + 1)) H L) else none) else spec_waGood.l0 k L (L.length : Int) (wrap64 ((i : Int) + 1)) H L) else none) else none) else none) else spec_waGood.l0 k L (L.length : Int) (wrap64 ((i : Int) + 1)) H L) (fun k => ?_) (Ev.bind (zq57 (L.take i) (rd L i) (by simp; omega)) ?_)
  ·rw [spec_waGood.l0, if_pos (by omega), if_pos (by omega), if_pos (by omega), if_pos (by omega), Int.toNat_natCast]
  ·by_cases g : rd L i ∈ L.take i
   ·rw [if_pos g]
    exact Ev.congr (fun k => by rw [if_pos (by simpa using g)]) (Ev.now _)
   ·rw [if_neg g]
    refine Ev.congr (fun k => by rw [if_neg (by simpa using g), w64 (x := (i : Int) - 1) (by omega) (by omega), w64 (x := (i : Int) + 1) (by omega) (by omega)]) ?_
    by_cases c0 : 0 < i
    ·have hr := hts_rd h8 hh ((i : Int) - 1) (by omega) (by omega)
     refine Ev.congr (fun k => by rw [if_pos (by omega), if_pos (by omega), if_pos (by omega), if_pos (by omega), w64 (by omega) (by omega)]) ?_
     by_cases c1 : rd H i = rd H ((i : Int) - 1) + 1
     ·by_cases c2 : rd L ((i : Int) - 1) > rd L i
      ·rw [if_pos ⟨c0, c1, c2⟩]
       exact Ev.congr (fun k => by rw [if_pos c1, if_pos (by omega), if_pos c2]) (Ev.now _)
      ·rw [if_neg (fun h => c2 h.2.2)]
       exact Ev.congr (fun k => by rw [if_pos c1, if_pos (by omega), if_neg c2]) ih
     ·rw [if_neg (fun h => c1 h.2.1)]
      exact Ev.congr (fun k => by rw [if_neg c1]) ih
    ·rw [if_neg (fun h => c0 h.1)]
     exact Ev.congr (fun k => by rw [if_neg (by omega)]) ih
theorem zq59 (H L : List Int) : Ev (fun k => spec_waGood.j0 k true H L) false :=
 Ev.ret fun k => by rw [spec_waGood.j0, if_pos rfl]
theorem zq60 (H L : List Int) (hL : L.length ≤ 35184372088832) : Ev (fun k => spec_waGood.f k H L) (goodW H L) := by
 refine Ev.bind (zq53 H) ?_
 cases c : decide (H.length ≤ 8) && hts (-1) H with
 | false =>
  rw [show goodW H L = false by rw [goodW, c, Bool.false_and]]
  exact Ev.congr (fun k => by rw [if_neg (by simp)]) (zq59 H L)
 | true =>
  have cc : H.length ≤ 8 ∧ hts (-1) H = true := by simpa using c
  refine Ev.congr (fun k => by rw [if_pos rfl]) ?_
  by_cases d : (L.length : Int) = (H.length : Int)
  ·refine Ev.congr (fun k => by rw [if_pos d, w64 (by omega) (by omega)]) ?_
   refine Ev.bind (zq55 L 0 ((H.length : Int) - 1) hL) ?_
   cases e : inAll 0 ((H.length : Int) - 1) L with
   | false =>
    rw [show goodW H L = false by rw [goodW, e, Bool.false_and, Bool.and_false, Bool.and_false]]
    exact Ev.congr (fun k => by rw [Bool.not_false]) (zq59 H L)
   | true =>
    rw [show goodW H L = bothFrom H L L.length 0 by rw [goodW, c, decide_eq_true d, e, Bool.true_and, Bool.true_and, Bool.true_and, zq49]]
    refine Ev.step (fun k => by rw [spec_waGood.j0, if_neg (by simp)]) ?_
    exact zq58 H L cc.1 cc.2 (by omega) L.length 0 (by omega)
  ·rw [show goodW H L = false by rw [goodW, decide_eq_false d, Bool.false_and, Bool.and_false]]
   exact Ev.congr (fun k => by rw [if_neg d]) (zq59 H L)

theorem zq61 (a b c : Int) : impl_between.f a b c = some (decide (b ≤ a) && decide (a ≤ c)) := by
 unfold impl_between.f
 by_cases h : a ≥ b
 ·rw [if_pos h]; simp [show b ≤ a from h]
 ·rw [if_neg h]; simp [show ¬ b ≤ a from h]

theorem zq62 (a : Int) : impl_isCars.f a = some (decide (0 ≤ a) && decide (a ≤ 8)) := by
 unfold impl_isCars.f
 rw [zq61]
 rfl

theorem zq63 : ∀ (t p : List Int) (last : Int), p.length + t.length ≤ 35184372088832 →
  (p = [] ∧ last = -1 ∨ ∃ q, p = q ++ [last]) → -1 ≤ last → last < p.length →
  Ev (fun k => impl_areHeights.l0 k (p ++ t) (p ++ t) ((p ++ t).length : Int) (p.length : Int)) (hts last t && decide ((p ++ t).length ≤ 8))
 | [], p, last, _, _, _, _ => by
  refine Ev.ret fun k => ?_
  rw [impl_areHeights.l0, if_neg (by simp), zq62]
  simp only [hts, Bool.true_and, Option.bind_some, Option.some.injEq]
  rw [Bool.eq_iff_iff]
  simp only [Bool.and_eq_true, decide_eq_true_eq]
  omega
 | h :: t, p, last, hn, hp, h0, h1 => by
  have hn' : p.length + t.length + 1 ≤ 35184372088832 := by simpa [Nat.add_assoc] using hn
  have e1 : (p ++ [h]) ++ t = p ++ h :: t := by simp
  have e2 : (((p ++ [h]).length : Nat) : Int) = (p.length : Int) + 1 := by simp
  by_cases c : 0 ≤ h ∧ h ≤ last + 1
  ·have ih := zq63 t (p ++ [h]) h (by simp; omega) (.inr ⟨p, rfl⟩) (by omega) (by omega)
   rw [e1, e2] at ih
   have er : hts last (h :: t) = hts h t := by simp [hts, c]
   rw [er]
   refine Ev.step (fun k => ?_) ih
   show impl_areHeights.l0 (k + 1) (p ++ h :: t) (p ++ h :: t) ((p ++ h :: t).length : Int) (p.length : Int) = _
   rw [impl_areHeights.l0, if_pos (by simp; omega), if_pos (by omega), if_pos (by simp; omega), rd_mid, if_neg (by omega)]
   rcases hp with ⟨rfl, rfl⟩ | ⟨q, rfl⟩
   ·rw [if_pos (by simp), if_neg (by omega), if_neg (by simp), w64 (by simp) (by simp)]
   ·have hl : ((q ++ [last]).length : Int) = (q.length : Int) + 1 := by simp
    have ep : wrap64 (((q ++ [last]).length : Int) - 1) = ((q ++ [last]).length : Int) - 1 := w64 (by omega) (by omega)
    rw [if_neg (by omega), if_pos (by omega), ep, if_pos (by omega), if_pos (by simp; omega), rd_prev, w64 (by omega) (by omega), if_neg (by omega), w64 (by omega) (by omega)]
  ·have er : hts last (h :: t) = false := by
    simp only [hts, Bool.and_eq_false_iff, decide_eq_false_iff_not]
    omega
   rw [er, Bool.false_and]
   refine Ev.ret fun k => ?_
   rw [impl_areHeights.l0, if_pos (by simp; omega), if_pos (by omega), if_pos (by simp; omega), rd_mid]
   by_cases c0 : h < 0
   ·rw [if_pos c0]
   ·rw [if_neg c0]
    rcases hp with ⟨rfl, rfl⟩ | ⟨q, rfl⟩
    ·rw [if_pos (by simp), if_pos (by omega)]
    ·have hl : ((q ++ [last]).length : Int) = (q.length : Int) + 1 := by simp
     have ep : wrap64 (((q ++ [last]).length : Int) - 1) = ((q ++ [last]).length : Int) - 1 := w64 (by omega) (by omega)
     rw [if_neg (by omega), if_pos (by omega), ep, if_pos (by omega), if_pos (by simp; omega), rd_prev, w64 (by omega) (by omega), if_pos (by omega)]
theorem zq64 (l : List Int) (hl : l.length ≤ 35184372088832) : Ev (fun k => impl_areHeights.f k l) (decide (l.length ≤ 8) && hts (-1) l) := by
 have z := zq63 l [] (-1) (by simpa using hl) (.inl ⟨rfl, rfl⟩) (by omega) (by simp)
 rw [Bool.and_comm]
 exact z

theorem zq65 (l : List Int) : (l.mergeSort fun x y => decide (x ≤ y)) = srt l := by
 refine zq38 _ _ ?_ (srt_up l) ((List.mergeSort_perm l _).trans (zq37 l).symm)
 have h := List.pairwise_mergeSort (le := fun x y : Int => decide (x ≤ y)) (fun a b c h1 h2 => by simp at h1 h2 ⊢; omega) (fun a b => by simp; omega) l
 exact h.imp fun hab => by simpa using hab
theorem zq66 (l : List Int) (hl : l.length ≤ 10000000) : Ev (fun k => impl_sorted.f k l) (srt l) := by
 refine Ev.congr (fun k => ?_) (Ev.now (srt l))
 show impl_sorted.f k l = _
 rw [impl_sorted.f, if_pos hl, slices_Sort_int_int.f, if_pos (by omega), zq65]

theorem zq67 (l : List Int) (hl : l.length ≤ 12) : Ev (fun k => impl_sorted.f k l) (srt l) := zq66 l (by omega)

theorem zq68 (l0 : List Int) : ∀ (t p : List Int), p.length + t.length ≤ 35184372088832 →
  Ev (fun k => impl_isOrder.l0 k l0 (p ++ t) ((p ++ t).length : Int) (p.length : Int)) (isUp t p.length && decide ((l0.length : Int) ≤ 8))
 | [], p, _ => by
  refine Ev.ret fun k => ?_
  rw [impl_isOrder.l0, if_neg (by simp), isUp, Bool.true_and]
 | h :: t, p, hn => by
  have hn' : p.length + t.length + 1 ≤ 35184372088832 := by simpa [Nat.add_assoc] using hn
  have hm := len_mid p h t
  rw [isUp]
  by_cases c : h = (p.length : Int)
  ·have ih := zq68 l0 t (p ++ [h]) (by simp; omega)
   rw [zq10 p h t, zq9 p h] at ih
   rw [decide_eq_true c, Bool.true_and]
   refine Ev.step (fun k => ?_) ih
   show impl_isOrder.l0 (k + 1) l0 (p ++ h :: t) ((p ++ h :: t).length : Int) (p.length : Int) = _
   rw [impl_isOrder.l0, if_pos (by omega), if_pos (by omega), if_pos (by omega), rd_mid, if_pos c, w64 (by omega) (by omega)]
  ·rw [decide_eq_false c, Bool.false_and, Bool.false_and]
   refine Ev.ret fun k => ?_
   rw [impl_isOrder.l0, if_pos (by omega), if_pos (by omega), if_pos (by omega), rd_mid, if_neg c]
theorem zq69 (l : List Int) (hl : l.length ≤ 12) : Ev (fun k => impl_isOrder.f k l) (isUp (srt l) 0 && decide ((l.length : Int) ≤ 8)) := by
 refine Ev.bind (zq67 l hl) ?_
 exact zq68 l (srt l) [] (by have := (zq37 l).length_eq; simp; omega)

theorem zq70 (H L : List Int) (h8 : H.length ≤ 8) (hh : hts (-1) H = true) (hl : L.length = H.length) : ∀ (d i : Nat), 1 ≤ i → i + d = max 1 H.length →
  Ev (fun k => impl_isWalk.l0 k (i : Int) H L) (labsFrom H L d i)
 | 0, i, h1, hd => by
  refine Ev.ret fun k => ?_
  rw [impl_isWalk.l0, if_neg (by omega), labsFrom]
 | d + 1, i, h1, hd => by
  have ih := zq70 H L h8 hh hl d (i + 1) (by omega) (by omega)
  rw [show ((i + 1 : Nat) : Int) = (i : Int) + 1 by omega] at ih
  have hr := hts_rd h8 hh ((i : Int) - 1) (by omega) (by omega)
  rw [labsFrom]
  by_cases c1 : rd H i = rd H ((i : Int) - 1) + 1
  ·by_cases c2 : rd L ((i : Int) - 1) > rd L i
   ·rw [if_pos ⟨c1, c2⟩]
    refine Ev.ret fun k => ?_
    rw [impl_isWalk.l0, w64 (x := (i : Int) - 1) (by omega) (by omega), w64 (x := rd H ((i : Int) - 1) + 1) (by omega) (by omega), if_pos (by omega), if_pos (by omega), if_pos (by omega), if_pos (by omega), if_pos c1, if_pos (by omega), if_pos (by omega), if_pos c2]
   ·rw [if_neg (fun h => c2 h.2)]
    refine Ev.step (fun k => ?_) ih
    show impl_isWalk.l0 (k + 1) (i : Int) H L = _
    rw [impl_isWalk.l0, w64 (x := (i : Int) - 1) (by omega) (by omega), w64 (x := rd H ((i : Int) - 1) + 1) (by omega) (by omega), if_pos (by omega), if_pos (by omega), if_pos (by omega), if_pos (by omega), if_pos c1, if_pos (by omega), if_pos (by omega), if_neg c2, w64 (by omega) (by omega)]
  ·rw [if_neg (fun h => c1 h.1)]
   refine Ev.step (fun k => ?_) ih
   show impl_isWalk.l0 (k + 1) (i : Int) H L = _
   rw [impl_isWalk.l0, w64 (x := (i : Int) - 1) (by omega) (by omega), w64 (x := rd H ((i : Int) - 1) + 1) (by omega) (by omega), if_pos (by omega), if_pos (by omega), if_pos (by omega), if_pos (by omega), if_neg c1, w64 (by omega) (by omega)]
theorem zq71 (H L : List Int) : Ev (fun k => impl_isWalk.j0 k true H L) false :=
 Ev.ret fun k => by rw [impl_isWalk.j0, if_pos rfl]
theorem zq72 (H L : List Int) (hH : H.length ≤ 35184372088832) : Ev (fun k => impl_isWalk.f k H L) (goodW H L) := by
 refine Ev.bind (zq64 H hH) ?_
 cases c : decide (H.length ≤ 8) && hts (-1) H with
 | false =>
  rw [show goodW H L = false by rw [goodW, c, Bool.false_and]]
  exact Ev.congr (fun k => by rw [if_neg (by simp)]) (zq71 H L)
 | true =>
  have cc : H.length ≤ 8 ∧ hts (-1) H = true := by simpa using c
  refine Ev.congr (fun k => by rw [if_pos rfl]) ?_
  by_cases d : (L.length : Int) = (H.length : Int)
  ·refine Ev.congr (fun k => by rw [if_pos d]) ?_
   refine Ev.bind (zq69 L (by omega)) ?_
   have e8 : decide ((L.length : Int) ≤ 8) = true := decide_eq_true (by omega)
   rw [e8, Bool.and_true]
   have ho := zq45 L
   cases e : isUp (srt L) 0 with
   | false =>
    have : goodW H L = false := by
     refine Bool.eq_false_iff.2 fun h => ?_
     obtain ⟨_, _, h3, h4, _⟩ := (zq50 H L).1 h
     have := ho.2 ⟨(zq31 _ _ _).2 fun x hx => by have := h3 x hx; omega, h4⟩
     rw [e] at this
     cases this
    rw [this]
    exact Ev.congr (fun k => by rw [Bool.not_false]) (zq71 H L)
   | true =>
    obtain ⟨h1, h2⟩ := ho.1 e
    rw [d] at h1
    rw [show goodW H L = labsFrom H L (L.length - 1) 1 by rw [goodW, c, decide_eq_true d, h1, decide_eq_true h2, Bool.true_and, Bool.true_and, Bool.true_and, Bool.true_and]]
    refine Ev.step (fun k => by rw [impl_isWalk.j0, if_neg (by simp)]) ?_
    exact zq70 H L cc.1 cc.2 (by omega) (L.length - 1) 1 (by omega) (by omega)
  ·rw [show goodW H L = false by rw [goodW, decide_eq_false d, Bool.false_and, Bool.and_false]]
   exact Ev.congr (fun k => by rw [if_neg d]) (zq71 H L)

def dashL (l : List Int) : List UInt8 := if l.length = 0 then [45] else txtL l
theorem zq73 (l : List Int) : dashB l = ⟨(dashL l).toArray⟩ := by
 unfold dashB dashL
 split <;> rfl
def rod (p : List UInt8) : List Int × Bool :=
 if p = [] then ([], false) else if p = [45] then ([], true) else if p.head? = some 45 then ([], false)
 else if ((spl 44 p).all fun w => (rdI w).2) = true then ((spl 44 p).map (fun w => (rdI w).1), true) else ([], false)
def spR (p : List UInt8) : List Int := if p = [45] then [] else (spl 44 p).map rdS
theorem zq74 (s : ByteArray) (hs : s.size ≤ 1048576) : Ev (fun k => impl_readOrDash.f k s) (rod s.data.toList) := by
 have htl : s.toList = s.data.toList := Go.ByteArray.toList_eq s
 have hsz : s.size = s.data.toList.length := (Array.length_toList).symm
 obtain ⟨hw1, hw2⟩ := spl_len 44 s.data.toList
 have hw : ∀ w ∈ spl 44 s.data.toList, w.length ≤ 2000000 := fun w hm => by have := hw1 w hm; omega
 obtain hx | ⟨a, t, hx⟩ : s.data.toList = [] ∨ ∃ a t, s.data.toList = a :: t := by
  cases s.data.toList with
  | nil => exact .inl rfl
  | cons a t => exact .inr ⟨a, t, rfl⟩
 ·rw [rod, if_pos hx]
  exact Ev.congr (fun k => by rw [impl_readOrDash.f, if_pos (by rw [htl, hx])]) (Ev.ret fun k => by rw [impl_readOrDash.j0, if_pos rfl])
 ·have hne : s.data.toList ≠ [] := by rw [hx]; simp
  rw [rod, if_neg hne]
  by_cases c0 : s.data.toList = [45]
  ·rw [if_pos c0]
   have hp : strings_HasPrefix.f s ⟨#[45]⟩ = some true := by rw [strings_HasPrefix.f, c0]; rfl
   have ht : strings_TrimPrefix.f s ⟨#[45]⟩ = some ⟨#[]⟩ := by rw [strings_TrimPrefix.f, c0]; rfl
   refine Ev.congr (fun k => by rw [impl_readOrDash.f, if_neg (by rw [htl, c0]; simp), hp, Option.bind_some, if_pos rfl, htl, c0]) ?_
   refine Ev.step (fun k => by rw [impl_readOrDash.j0, if_neg (by simp), ht, Option.bind_some]) ?_
   exact Ev.bind (a := (([] : List Int), true)) (Ev.congr (fun k => by rw [impl_readNumbers.f, Option.bind_some, if_pos ((Go.ByteArray.toList_eq _).trans rfl)]) (Ev.now _)) (Ev.now _)
  ·rw [if_neg c0]
   by_cases ca : a = 45
   ·rw [if_pos (by rw [hx, ca]; rfl)]
    have hp : strings_HasPrefix.f s ⟨#[45]⟩ = some true := by rw [strings_HasPrefix.f, hx, ca]; rfl
    refine Ev.congr (fun k => by rw [impl_readOrDash.f, if_neg (by rw [htl, hx]; simp), hp, Option.bind_some, if_pos rfl, htl, bne_iff_ne.2 c0]) ?_
    exact Ev.ret fun k => by rw [impl_readOrDash.j0, if_pos rfl]
   ·rw [if_neg (by rw [hx]; simpa using ca)]
    have hpf : Go.Lib.hasPrefix s.data.toList [45] = false := by
     rw [hx]
     simp [Go.Lib.hasPrefix, List.isPrefixOf, Ne.symm ca]
    have hp : strings_HasPrefix.f s ⟨#[45]⟩ = some false := by rw [strings_HasPrefix.f, hpf]
    have ht : strings_TrimPrefix.f s ⟨#[45]⟩ = some s := by
     rw [strings_TrimPrefix.f, Go.Lib.trimPrefix, hpf, if_neg (by simp)]
    refine Ev.congr (fun k => by rw [impl_readOrDash.f, if_neg (by rw [htl, hx]; simp), hp, Option.bind_some, if_neg (by simp)]) ?_
    refine Ev.step (fun k => by rw [impl_readOrDash.j0, if_neg (by simp), ht, Option.bind_some]) ?_
    refine Ev.bind ?_ (Ev.now _)
    refine Ev.congr (fun k => by rw [impl_readNumbers.f, Option.bind_some, if_neg (by rw [htl, hx]; simp), zq12 s (by omega), Option.bind_some]) ?_
    have h := zq23 (spl 44 s.data.toList) [] [] hw rfl (by simp; omega)
    simp only [List.nil_append] at h
    exact h
theorem rod_len (p : List UInt8) : (rod p).1.length ≤ p.length + 1 := by
 have h := (spl_len 44 p).2
 unfold rod
 split
 ·simp
 ·split
  ·simp
  ·split
   ·simp
   ·split
    ·show (List.map _ _).length ≤ _
     rw [List.length_map]; exact h
    ·simp
theorem spR_len (p : List UInt8) : (spR p).length ≤ p.length + 1 := by
 have h := (spl_len 44 p).2
 unfold spR
 split
 ·simp
 ·rw [List.length_map]; exact h
theorem zq75 : ∀ (t : List (List UInt8)) (p : List ByteArray) (out : List Int), out.length = p.length → p.length + t.length ≤ 3000000 →
  Ev (fun k => spec_waRead.l0 k out (p ++ toB t) ((p ++ toB t).length : Int) (p.length : Int)) (out ++ t.map rdS)
 | [], p, out, ho, hn => by
  rw [List.map_nil, List.append_nil]
  exact Ev.ret fun k => by rw [spec_waRead.l0, if_neg (by simp [toB])]
 | w :: t, p, out, ho, hn => by
  have hn' : p.length + t.length + 1 ≤ 3000000 := by simpa [Nat.add_assoc] using hn
  have ih := zq75 t (p ++ [⟨w.toArray⟩]) (out ++ [rdS w]) (by simp; omega) (by simp; omega)
  have ea : (p ++ [⟨w.toArray⟩]) ++ toB t = p ++ toB (w :: t) := by simp [toB]
  have el : (((p ++ [(⟨w.toArray⟩ : ByteArray)]).length : Nat) : Int) = (p.length : Int) + 1 := by simp
  have em : (out ++ [rdS w]) ++ t.map rdS = out ++ (w :: t).map rdS := by simp
  have hm : ((p ++ toB (w :: t)).length : Int) = (p.length : Int) + t.length + 1 := by simp [toB]; omega
  rw [ea, el, em] at ih
  refine Ev.step (fun k => by rw [spec_waRead.l0, if_pos (by omega), if_pos (by omega), if_pos (by omega), zq21, rdOf_at (toB t)]) (Ev.bind (zq22 w) ?_)
  exact Ev.congr (fun k => by rw [if_pos (by omega), w64 (by omega) (by omega), zq21]) ih
theorem zq76 (s : ByteArray) (hs : s.size ≤ 1048576) : Ev (fun k => spec_waRead.f k s) (spR s.data.toList) := by
 have htl : s.toList = s.data.toList := Go.ByteArray.toList_eq s
 have hsz : s.size = s.data.toList.length := (Array.length_toList).symm
 unfold spR
 by_cases c : s.data.toList = [45]
 ·rw [if_pos c]
  exact Ev.congr (fun k => by rw [spec_waRead.f, if_pos (by rw [htl]; exact c)]) (Ev.now _)
 ·rw [if_neg c]
  have h44 : (((44 : UInt8).toNat : Nat) : Int) = 44 := rfl
  have e44 := zq16 s 44 (by omega)
  rw [h44] at e44
  refine Ev.congr (fun k => by rw [spec_waRead.f, if_neg (by rw [htl]; exact c)]) (Ev.bind e44 ?_)
  have hl := (spl_len 44 s.data.toList).2
  have h := zq75 (spl 44 s.data.toList) [] [] rfl (by simp; omega)
  simp only [List.nil_append] at h
  exact h
theorem zq77 (b : UInt8) : ∀ (s h : List UInt8) (r : List (List UInt8)), spl b s = h :: r → s = h ++ r.flatMap (fun w => b :: w)
 | [], h, r, e => by
  rw [spl] at e
  obtain ⟨rfl, rfl⟩ := List.cons.inj e
  rfl
 | c :: t, h, r, e => by
  rw [spl] at e
  split at e
  ·rename_i hc
   obtain ⟨rfl, rfl⟩ := List.cons.inj e
   cases hs : spl b t with
   | nil => exact absurd hs (spl_ne b t)
   | cons x y =>
    have := zq77 b t x y hs
    rw [List.nil_append, List.flatMap_cons, hc, this]
    rfl
  ·cases hs : spl b t with
   | nil => exact absurd hs (spl_ne b t)
   | cons x y =>
    rw [hs] at e
    obtain ⟨rfl, rfl⟩ := List.cons.inj e
    rw [List.cons_append, ← zq77 b t x _ hs]
theorem zq78 {f g : List UInt8 → List UInt8} : ∀ (y : List (List UInt8)), (∀ w ∈ y, f w = g w) → y.flatMap f = y.flatMap g
 | [], _ => rfl
 | w :: y, h => by rw [List.flatMap_cons, List.flatMap_cons, h w (List.mem_cons_self ..), zq78 y fun x hx => h x (List.mem_cons_of_mem _ hx)]
theorem zq79 (p : List UInt8) (h : ∀ x ∈ spR p, 0 ≤ x ∧ x ≤ 9) : p = dashL (spR p) ∧ rod p = (spR p, true) := by
 by_cases c : p = [45]
 ·have e : spR p = [] := by rw [spR, if_pos c]
  rw [e]
  refine ⟨by rw [c]; rfl, ?_⟩
  rw [rod, if_neg (by rw [c]; simp), if_pos c]
 ·have e : spR p = (spl 44 p).map rdS := by rw [spR, if_neg c]
  rw [e] at h ⊢
  have hr : ∀ w ∈ spl 44 p, w = digB (rdS w) ∧ rdI w = (rdS w, true) := fun w hm => by
   have h1 := h _ (List.mem_map_of_mem hm)
   have e := (rdS_ok w).2 h1.1 h1.2
   have e2 := (zq24 (rdS w) h1.1 h1.2).2
   rw [← e] at e2
   exact ⟨e, e2⟩
  cases hs : spl 44 p with
  | nil => exact absurd hs (spl_ne 44 p)
  | cons x y =>
   have hg := zq77 44 p x y hs
   rw [hs] at h hr
   have hx := hr x (List.mem_cons_self ..)
   have hx0 := h _ (List.mem_map_of_mem (f := rdS) (List.mem_cons_self (a := x) (l := y)))
   have hy : y.flatMap (fun w => (44 : UInt8) :: w) = (y.map rdS).flatMap fun z => 44 :: digB z := by
    rw [List.flatMap_map]
    refine zq78 y fun w hw => ?_
    rw [← (hr w (List.mem_cons_of_mem _ hw)).1]
   have ep : p = dashL ((x :: y).map rdS) := by
    unfold dashL
    rw [if_neg (by simp), List.map_cons, txtL, ← hx.1, ← hy]
    exact hg
   refine ⟨ep, ?_⟩
   have hn : p ≠ [] := by
    rw [hg, hx.1, digB]
    simp
   have h45 : p.head? ≠ some 45 := by
    rw [hg, hx.1, digB]
    simp only [List.cons_append, List.head?_cons]
    intro e
    have e := Option.some.inj e
    have : (UInt8.ofNat (48 + (rdS x).toNat)).toNat = (45 : UInt8).toNat := congrArg UInt8.toNat e
    rw [UInt8.toNat_ofNat_of_lt' (by show 48 + (rdS x).toNat < 256; omega)] at this
    have h45 : (45 : UInt8).toNat = 45 := rfl
    omega
   rw [rod, if_neg hn, if_neg c, if_neg h45, hs, if_pos (List.all_eq_true.2 fun w hm => by rw [(hr w hm).2])]
   refine congrArg (fun l => (l, true)) (List.map_congr_left fun w hm => by rw [(hr w hm).2])
theorem zq80 (p : List UInt8) (h2 : (rod p).2 = true) (h : ∀ x ∈ (rod p).1, 0 ≤ x ∧ x ≤ 9) (hl : p.length ≤ 2000000) : spR p = (rod p).1 := by
 have hw : ∀ w ∈ spl 44 p, w.length ≤ 2000000 := fun w hm => by have := (spl_len 44 p).1 w hm; omega
 unfold rod at h h2 ⊢
 unfold spR
 split at h2
 ·cases h2
 ·rename_i c1
  rw [if_neg c1] at h ⊢
  split at h2
  ·rename_i c2
   rw [if_pos c2, if_pos c2]
  ·rename_i c2
   rw [if_neg c2] at h
   rw [if_neg c2, if_neg c2]
   split at h2
   ·cases h2
   ·rename_i c3
    rw [if_neg c3] at h ⊢
    split at h2
    ·rename_i c4
     rw [if_pos c4] at h ⊢
     refine List.map_congr_left fun w hm => ?_
     have h1 := h _ (List.mem_map_of_mem (f := fun w => (rdI w).1) hm)
     have e := (rdI_ok w (hw w hm)).2 (List.all_eq_true.1 c4 w hm) h1.1 h1.2
     have := (zq24 (rdI w).1 h1.1 h1.2).1
     rw [← e] at this
     exact this
    ·cases h2
theorem cut_spl : ∀ S : List UInt8, (spl 58 S = [S] ∧ Go.Lib.cut S [58] = (S, [], false) ∧ Go.Lib.index S [58] = -1) ∨ ∃ H T, Go.Lib.cut S [58] = (H, T, true) ∧ spl 58 S = H :: spl 58 T ∧ S = H ++ 58 :: T ∧ Go.Lib.index S [58] = (H.length : Int)
 | [] => .inl ⟨rfl, by decide +kernel, by decide +kernel⟩
 | c :: t => by
  by_cases e : c = 58
  ·subst e
   have hix : Go.Lib.index (58 :: t) [58] = 0 := by rw [Go.Lib.index]; simp [List.isPrefixOf]
   refine .inr ⟨[], t, ?_, ?_, rfl, hix⟩
   ·rw [Go.Lib.cut, hix]; rfl
   ·rw [spl, if_pos rfl]
  ·have hp : ([58] : List UInt8).isPrefixOf (c :: t) = false := by simp [List.isPrefixOf, Ne.symm e]
   have hix : Go.Lib.index (c :: t) [58] = if Go.Lib.index t [58] == -1 then -1 else Go.Lib.index t [58] + 1 := by rw [Go.Lib.index, hp]; simp
   rcases cut_spl t with ⟨h1, h2, h3⟩ | ⟨H, T, h1, h2, h3, h4⟩
   ·have : Go.Lib.index (c :: t) [58] = -1 := by rw [hix, h3]; rfl
    refine .inl ⟨?_, ?_, this⟩
    ·rw [spl, if_neg e, h1]
    ·rw [Go.Lib.cut, this]; rfl
   ·have : Go.Lib.index (c :: t) [58] = ((c :: H).length : Int) := by
     rw [hix, if_neg (by rw [h4]; intro h; have := beq_iff_eq.1 h; omega), h4]; simp
    refine .inr ⟨c :: H, T, ?_, ?_, by rw [h3]; rfl, this⟩
    ·rw [Go.Lib.cut, this, if_pos (by omega)]
     have e1 : (((c :: H).length : Nat) : Int).toNat = (c :: H).length := by omega
     have e2 : c :: t = (c :: H) ++ 58 :: T := by rw [h3]; rfl
     rw [e1, e2, List.take_left, List.drop_append, List.drop_eq_nil_of_le (by simp)]
     simp
    ·rw [spl, if_neg e, h2]
theorem digB_no (x : Int) (h0 : 0 ≤ x) (h9 : x ≤ 9) : ∀ b ∈ digB x, b ≠ 58 := fun b hb e => by
 rw [digB, List.mem_singleton] at hb
 have : (UInt8.ofNat (48 + x.toNat)).toNat = (58 : UInt8).toNat := congrArg UInt8.toNat (hb.symm.trans e)
 rw [UInt8.toNat_ofNat_of_lt' (by show 48 + x.toNat < 256; omega)] at this
 have h58 : (58 : UInt8).toNat = 58 := rfl
 omega
theorem zq81 (l : List Int) (h : ∀ x ∈ l, 0 ≤ x ∧ x ≤ 9) : (58 : UInt8) ∉ dashL l := fun hm => by
 unfold dashL at hm
 cases l with
 | nil =>
  rw [if_pos (by rfl)] at hm
  simp at hm
 | cons x t =>
  rw [if_neg (by simp), txtL] at hm
  rcases List.mem_append.1 hm with hm | hm
  ·have h1 := h x (List.mem_cons_self ..)
   exact digB_no x h1.1 h1.2 _ hm rfl
  ·obtain ⟨y, hy, hm⟩ := List.mem_flatMap.1 hm
   have h1 := h y (List.mem_cons_of_mem _ hy)
   rcases List.mem_cons.1 hm with e | hm
   ·exact absurd e (by decide)
   ·exact digB_no y h1.1 h1.2 _ hm rfl
theorem zq82 {l m : List Int} (h : goodW l m = true) : (∀ x ∈ l, 0 ≤ x ∧ x ≤ 9) ∧ (∀ x ∈ m, 0 ≤ x ∧ x ≤ 9) ∧ l.length ≤ 8 ∧ m.length ≤ 8 := by
 obtain ⟨⟨h8, hh⟩, h2, h3, _⟩ := (zq50 l m).1 h
 exact ⟨fun x hx => by have := hts_mem l (-1) hh x hx; omega, fun x hx => by have := h3 x hx; omega, h8, by omega⟩
def pwS (S : List UInt8) : List Int × List Int × Bool := match spl 58 S with
 | [H, T] => if goodW (spR H) (spR T) = true then (spR H, spR T, true) else ([], [], false)
 | _ => ([], [], false)
theorem zq83 (l : List Int) (h8 : l.length ≤ 8) (h : ∀ x ∈ l, 0 ≤ x ∧ x ≤ 9) : Ev (fun k => spec_trText.f k l) (dashB l) := zq29 l h8 fun x hx => by have := h x hx; omega
theorem zq84 (l m : List Int) (h8 : l.length ≤ 8) (g8 : m.length ≤ 8) (h : ∀ x ∈ l, 0 ≤ x ∧ x ≤ 9) (g : ∀ x ∈ m, 0 ≤ x ∧ x ≤ 9) : Ev (fun k => spec_waText.f k l m) ((dashB l ++ (⟨#[58]⟩ : ByteArray)) ++ dashB m) := by
 have s1 := zq30 l h8
 have s2 := zq30 m g8
 have s3 : ((dashB l) ++ (⟨#[58]⟩ : ByteArray)).size ≤ 101 := by
  rw [ba_size, ba_app, List.length_append, ← ba_size]
  exact Nat.add_le_add s1 (Nat.le_refl 1)
 refine Ev.bind (zq83 l h8 h) ?_
 refine Ev.congr (fun k => by rw [if_pos (show (dashB l).size + 1 ≤ 9223372036854775807 by omega)]) ?_
 refine Ev.bind (zq83 m g8 g) ?_
 exact Ev.congr (fun k => by rw [if_pos (show ((dashB l) ++ (⟨#[58]⟩ : ByteArray)).size + (dashB m).size ≤ 9223372036854775807 by omega)]) (Ev.now _)
theorem zq85 (l m : List Int) : ((dashB l ++ (⟨#[58]⟩ : ByteArray)) ++ dashB m).data.toList = dashL l ++ 58 :: dashL m := by
 rw [ba_app, ba_app, zq73, zq73]
 simp
theorem pwS_len (S : List UInt8) : (pwS S).1.length ≤ 8 ∧ (pwS S).2.1.length ≤ 8 := by
 unfold pwS
 split
 ·split
  ·rename_i c
   exact ⟨(zq82 c).2.2.1, (zq82 c).2.2.2⟩
  ·simp
 ·simp
theorem zq86 (s : ByteArray) (hs : s.size ≤ 1048576) : Ev (fun k => spec_ParseWalk.f k s) (pwS s.data.toList) := by
 have htl : s.toList = s.data.toList := Go.ByteArray.toList_eq s
 have hsz : s.size = s.data.toList.length := (Array.length_toList).symm
 have h58 : (((58 : UInt8).toNat : Nat) : Int) = 58 := rfl
 have e58 := zq16 s 58 (by omega)
 rw [h58] at e58
 obtain ⟨hw1, _⟩ := spl_len 58 s.data.toList
 refine Ev.bind e58 ?_
 unfold pwS
 match hx : spl 58 s.data.toList with
 | [] => exact absurd hx (spl_ne _ _)
 | [_] => exact Ev.congr (fun k => by rw [if_neg (by simp [toB])]) (Ev.now _)
 | _ :: _ :: _ :: r => exact Ev.congr (fun k => by rw [if_neg (by simp [toB]; omega)]) (Ev.now _)
 | [H, T] =>
  have hH : H.length ≤ 1048576 := by have := hw1 H (by rw [hx]; simp); omega
  have hT : T.length ≤ 1048576 := by have := hw1 T (by rw [hx]; simp); omega
  have e0 : rdOf ByteArray.empty (toB [H, T]) 0 = ⟨H.toArray⟩ := rfl
  have e1 : rdOf ByteArray.empty (toB [H, T]) 1 = ⟨T.toArray⟩ := rfl
  have n2 : ((toB [H, T]).length : Int) = 2 := rfl
  refine Ev.congr (fun k => by rw [if_pos n2, if_pos (show (0 : Int) < ((toB [H, T]).length : Int) by rw [n2]; omega), e0]) ?_
  refine Ev.bind (zq76 ⟨H.toArray⟩ hH) ?_
  refine Ev.congr (fun k => by rw [if_pos (show (1 : Int) < ((toB [H, T]).length : Int) by rw [n2]; omega), e1]) ?_
  refine Ev.bind (zq76 ⟨T.toArray⟩ hT) ?_
  have gH : (⟨H.toArray⟩ : ByteArray).data.toList = H := rfl
  have gT : (⟨T.toArray⟩ : ByteArray).data.toList = T := rfl
  rw [gH, gT]
  have hl2 := spR_len T
  refine Ev.bind (zq60 (spR H) (spR T) (by omega)) ?_
  show Ev _ (if goodW (spR H) (spR T) = true then (spR H, spR T, true) else ([], [], false))
  by_cases c : goodW (spR H) (spR T) = true
  ·rw [if_pos c]
   obtain ⟨g1, g2, g3, g4⟩ := zq82 c
   have htx : ((dashB (spR H) ++ (⟨#[58]⟩ : ByteArray)) ++ dashB (spR T)).toList = s.toList := by
    rw [Go.ByteArray.toList_eq, Go.ByteArray.toList_eq, zq85, ← (zq79 H g1).1, ← (zq79 T g2).1]
    have := zq77 58 _ H [T] hx
    rw [this]
    simp
   refine Ev.congr (fun k => by rw [if_pos c]) (Ev.bind (zq84 _ _ g3 g4 g1 g2) ?_)
   exact Ev.congr (fun k => by rw [if_pos htx]) (Ev.now _)
  ·rw [if_neg c]
   exact Ev.congr (fun k => by rw [if_neg c]) (Ev.now _)
theorem zq87 (s : ByteArray) (hs : s.size ≤ 1048576) : Ev (fun k => impl_ParseWalk.f k s) (pwS s.data.toList) := by
 have hsz : s.size = s.data.toList.length := (Array.length_toList).symm
 have hcut : strings_Cut.f s ⟨#[58]⟩ = some (⟨(Lib.cut s.data.toList [58]).1.toArray⟩, ⟨(Lib.cut s.data.toList [58]).2.1.toArray⟩, (Lib.cut s.data.toList [58]).2.2) := by
  rw [strings_Cut.f, if_pos (by omega)]
 refine Ev.congr (fun k => by rw [impl_ParseWalk.f, hcut, Option.bind_some]) ?_
 rcases cut_spl s.data.toList with ⟨h1, h2, _⟩ | ⟨H, T, h1, h2, h3, _⟩
 ·have hp : pwS s.data.toList = ([], [], false) := by rw [pwS, h1]
  rw [hp, h2]
  refine Ev.bind (zq74 ⟨s.data.toList.toArray⟩ (by show s.data.toList.length ≤ _; omega)) ?_
  refine Ev.bind (zq74 ⟨([] : List UInt8).toArray⟩ (by show 0 ≤ _; omega)) ?_
  exact Ev.congr (fun k => by rw [if_neg (by simp)]) (Ev.now _)
 ·rw [h1]
  have hlen : H.length + 1 + T.length ≤ 1048576 := by rw [h3] at hsz; simp at hsz; omega
  refine Ev.bind (zq74 ⟨H.toArray⟩ (by show H.length ≤ _; omega)) ?_
  refine Ev.bind (zq74 ⟨T.toArray⟩ (by show T.length ≤ _; omega)) ?_
  have gH : (⟨H.toArray⟩ : ByteArray).data.toList = H := rfl
  have gT : (⟨T.toArray⟩ : ByteArray).data.toList = T := rfl
  simp only [gH, gT]
  have key : ((rod H).2 = true ∧ (rod T).2 = true ∧ goodW (rod H).1 (rod T).1 = true ∧ pwS s.data.toList = ((rod H).1, (rod T).1, true)) ∨ (¬((rod H).2 = true ∧ (rod T).2 = true ∧ goodW (rod H).1 (rod T).1 = true) ∧ pwS s.data.toList = ([], [], false)) := by
   by_cases c : (rod H).2 = true ∧ (rod T).2 = true ∧ goodW (rod H).1 (rod T).1 = true
   ·obtain ⟨c1, c2, c3⟩ := c
    obtain ⟨g1, g2, g3, g4⟩ := zq82 c3
    have eH := zq80 H c1 g1 (by omega)
    have eT := zq80 T c2 g2 (by omega)
    refine .inl ⟨c1, c2, c3, ?_⟩
    have h58 : (58 : UInt8) ∉ T := by
     rw [(zq79 T (by rw [eT]; exact g2)).1]
     exact zq81 _ (by rw [eT]; exact g2)
    rcases cut_spl T with ⟨k1, _⟩ | ⟨H2, T2, _, _, k3, _⟩
    ·rw [pwS, h2, k1]
     show (if goodW (spR H) (spR T) = true then (spR H, spR T, true) else ([], [], false)) = _
     rw [eH, eT, if_pos c3]
    ·exact absurd (by rw [k3]; simp) h58
   ·refine .inr ⟨c, ?_⟩
    unfold pwS
    split
    ·rename_i H' T' e
     rw [h2] at e
     obtain ⟨eH, e2⟩ : H = H' ∧ spl 58 T = [T'] := List.cons.inj e
     subst eH
     clear e
     rcases cut_spl T with ⟨k1, _⟩ | ⟨H2, T2, _, k2, k3, _⟩
     ·rw [k1] at e2
      have eT : T = T' := (List.cons.inj e2).1
      subst eT
      by_cases d : goodW (spR H) (spR T) = true
      ·obtain ⟨g1, g2, _, _⟩ := zq82 d
       have r1 := (zq79 H g1).2
       have r2 := (zq79 T g2).2
       exact absurd ⟨by rw [r1], by rw [r2], by rw [r1, r2]; exact d⟩ c
      ·rw [if_neg d]
     ·rw [k2] at e2
      exact absurd (List.cons.inj e2).2 (spl_ne _ _)
    ·rfl
  have hl := rod_len H
  rcases key with ⟨c1, c2, c3, e⟩ | ⟨c, e⟩
  ·rw [e]
   refine Ev.congr (fun k => by rw [if_pos trivial, if_pos c1, if_pos c2]) (Ev.bind (zq72 (rod H).1 (rod T).1 (by omega)) ?_)
   exact Ev.congr (fun k => by rw [if_pos c3]) (Ev.now _)
  ·rw [e]
   by_cases c1 : (rod H).2 = true
   ·by_cases c2 : (rod T).2 = true
    ·refine Ev.congr (fun k => by rw [if_pos trivial, if_pos c1, if_pos c2]) (Ev.bind (zq72 (rod H).1 (rod T).1 (by omega)) ?_)
     exact Ev.congr (fun k => by rw [if_neg (fun h => c ⟨c1, c2, h⟩)]) (Ev.now _)
    ·exact Ev.congr (fun k => by rw [if_pos trivial, if_pos c1, if_neg c2]) (Ev.now _)
   ·exact Ev.congr (fun k => by rw [if_pos trivial, if_neg c1]) (Ev.now _)

theorem FnExactParseWalk : laws_FnExactParseWalk.Pure := by
 intro s _
 by_cases c0 : (s.size : Int) > 1048576
 ·exact ⟨0, by rw [laws_FnExactParseWalk.f, if_pos c0]⟩
 have hs := zq86 s (by omega)
 have hi := zq87 s (by omega)
 obtain ⟨l1, l2⟩ := pwS_len s.data.toList
 generalize pwS s.data.toList = r at hs hi l1 l2
 have hr1 : r.1.length ≤ 35184372088832 := by omega
 have hr2 : r.2.1.length ≤ 35184372088832 := by omega
 refine Ev.rounds ?_
 refine Ev.congr (fun k => by rw [laws_FnExactParseWalk.f, if_neg c0]) ?_
 refine Ev.bind hs (Ev.bind hi (Ev.bind (zq2 r.1 r.2.1 hr1 hr2) ?_))
 refine Ev.congr (fun k => by rw [if_pos rfl, bne_self_eq_false]) ?_
 refine Ev.step (fun k => by rw [laws_FnExactParseWalk.j0, if_neg (by simp)]) ?_
 refine Ev.bind (zq7 r.1 r.2.1 hr1 hr2) ?_
 refine Ev.bind (zq8 r.1 r.2.1 hr1 hr2) ?_
 refine Ev.congr (fun k => by rw [if_neg (by omega), if_pos rfl]) ?_
 refine Ev.bind hi (Ev.bind (zq2 r.1 r.2.1 hr1 hr2) ?_)
 refine Ev.congr (fun k => by rw [if_pos rfl, bne_self_eq_false]) ?_
 refine Ev.step (fun k => by rw [laws_FnExactParseWalk.j1, if_neg (by simp)]) ?_
 refine Ev.bind (zq8 r.1 r.2.1 hr1 hr2) ?_
 refine Ev.congr (fun k => by rw [if_neg (by omega), if_pos rfl]) ?_
 exact Ev.now true

end Go.Proofs.YtlknoidcopkmfaaGreatDoor.Pure
