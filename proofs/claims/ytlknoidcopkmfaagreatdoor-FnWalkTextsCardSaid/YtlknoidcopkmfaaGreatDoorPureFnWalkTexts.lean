/- Walks are read back from their texts, and labels of heights are counted by their runs, for every drawn walk, text and heights. -/
import Derived.Test.YtlknoidcopkmfaaGreatDoorVFnWalkTextsSized
import Derived.Test.YtlknoidcopkmfaaGreatDoorPFnWalkTextsx
import Derived.Laws.BitsLemmas
import Derived.Lib.AtoiAllCases
import Derived.Lib.CountLaws
import Derived.Lib.EndianBits
import Derived.Lib.IndexMore
import Derived.Lib.RowBridge
import Derived.Lib.SplitLaws
import Derived.Lib.Strings
namespace Go.Proofs.YtlknoidcopkmfaaGreatDoor.PrintWords
set_option linter.defProp false in
def sized_ints := @Go.Proofs.YtlknoidcopkmfaaGreatDoorW.PrintWords.sized_ints
end Go.Proofs.YtlknoidcopkmfaaGreatDoor.PrintWords
namespace Go.Proofs.YtlknoidcopkmfaaGreatDoor.Pure
open Go.RowKit Go.Proofs.YtlknoidcopkmfaaGreatDoor.PFnWalkTexts Go.Proofs.YtlknoidcopkmfaaGreatDoorW.PrintWords Go.Proofs.YtlknoidcopkmfaaGreatDoorW.PrintLast
set_option linter.unusedVariables false
set_option linter.unusedSimpArgs false

theorem w64 {x : Int} (h0 : -9223372036854775808 ≤ x) (h1 : x ≤ 9223372036854775807) : wrap64 x = x := by
 unfold wrap64
 omega
theorem rd_mid (p : List Int) (h : Int) (t : List Int) : rd (p ++ h :: t) (p.length : Int) = h := by
 unfold rd
 simp
theorem rd_nat (l : List Int) (i : Nat) : rd l (i : Int) = l.getD i 0 := by
 unfold rd
 simp
theorem Ev.ret {α : Type} {g : Nat → Option α} {r : α} (h : ∀ k, g (k + 1) = some r) : Ev g r :=
 Ev.step (f := fun _ => some r) h (Ev.now r)

theorem zq0 (p : List Int) (h : Int) : (((p ++ [h]).length : Nat) : Int) = (p.length : Int) + 1 := by simp
theorem zq1 (p : List Int) (h : Int) (t : List Int) : (p ++ [h]) ++ t = p ++ h :: t := by simp
theorem len_mid (p : List Int) (h : Int) (t : List Int) : ((p ++ h :: t).length : Int) = (p.length : Int) + t.length + 1 := by simp; omega

def spl (b : UInt8) : List UInt8 → List (List UInt8)
 | [] => [[]]
 | c :: t => if c = b then [] :: spl b t else match spl b t with
  | [] => [[c]]
  | h :: r => (c :: h) :: r
theorem spl_ne (b : UInt8) : ∀ s, spl b s ≠ []
 | [] => by simp [spl]
 | c :: t => by
  rw [spl]
  split
  ·simp
  ·split <;> simp
theorem spl_len (b : UInt8) : ∀ s, (∀ w ∈ spl b s, w.length ≤ s.length) ∧ (spl b s).length ≤ s.length + 1
 | [] => by simp [spl]
 | c :: t => by
  obtain ⟨h1, h2⟩ := spl_len b t
  rw [spl]
  split
  ·refine ⟨fun w hw => ?_, by simp; omega⟩
   rcases List.mem_cons.1 hw with e | e
   ·subst e; simp
   ·have := h1 w e; simp; omega
  ·split
   ·rename_i e; exact absurd e (spl_ne b t)
   ·rename_i h r e
    rw [e] at h1 h2
    refine ⟨fun w hw => ?_, by simp at h2 ⊢; omega⟩
    rcases List.mem_cons.1 hw with e2 | e2
    ·subst e2; have := h1 h (by simp); simp; omega
    ·have := h1 w (by simp [e2]); simp; omega
theorem zq2 (b : UInt8) : ∀ s : List UInt8, Go.Lib.splitK [b] 0 (Go.Lib.count s [b]) s = spl b s
 | [] => by
  have h : Go.Lib.count [] [b] = 0 := by rw [Go.Lib.count_one]; rfl
  rw [h, Go.Lib.splitK, spl]
 | c :: t => by
  have ih := zq2 b t
  by_cases e : c = b
  ·subst e
   have hix : Go.Lib.index (c :: t) [c] = 0 := by rw [Go.Lib.index]; simp [List.isPrefixOf]
   rw [Go.Lib.count_cons_eq, Nat.add_comm, Go.Lib.splitK, hix, spl, if_pos rfl, ← ih]
   simp
  ·have hp : ([b] : List UInt8).isPrefixOf (c :: t) = false := by simp [List.isPrefixOf, Ne.symm e]
   have hix : Go.Lib.index (c :: t) [b] = if Go.Lib.index t [b] == -1 then -1 else Go.Lib.index t [b] + 1 := by rw [Go.Lib.index, hp]; simp
   rw [Go.Lib.count_cons_ne c b t e, spl, if_neg e, ← ih]
   cases hk : Go.Lib.count t [b] with
   | zero => simp [Go.Lib.splitK]
   | succ k =>
    have hge := Go.Lib.index_ge t [b]
    by_cases hm : Go.Lib.index t [b] = -1
    ·have := Go.Lib.count_miss hm
     omega
    ·obtain ⟨j, hj⟩ : ∃ j : Nat, Go.Lib.index t [b] = j := ⟨(Go.Lib.index t [b]).toNat, by omega⟩
     have hj1 : Go.Lib.index (c :: t) [b] = ((j + 1 : Nat) : Int) := by rw [hix, if_neg (fun e => hm (beq_iff_eq.1 e)), hj]; omega
     rw [Go.Lib.splitK, Go.Lib.splitK, hj1, hj, if_neg (by simp; omega), if_neg (by simp)]
     simp
def toB (l : List (List UInt8)) : List ByteArray := l.map fun w => ⟨w.toArray⟩
theorem ba_ext' {a b : ByteArray} (h : a.data.toList = b.data.toList) : a = b := by
 cases a; cases b
 simpa using h
theorem toB_of {l : List ByteArray} {r : List (List UInt8)} (h : l.map (·.data.toList) = r) : l = toB r := by
 rw [← h, toB, List.map_map]
 refine (List.map_id' l).symm.trans (List.map_congr_left fun x _ => ba_ext' ?_)
 simp
theorem zq3 (s : ByteArray) (h : s.size ≤ 2000000) : strings_Split.f s ⟨#[44]⟩ = some (toB (spl 44 s.data.toList)) := by
 rw [strings_Split.f, if_pos ⟨h, by decide⟩]
 refine congrArg some (toB_of ?_)
 rw [Go.Lib.splitB_data]
 exact zq2 44 s.data.toList
theorem zq4 (s : ByteArray) (a b : Nat) : (s.extract a b).data.toList = (s.data.toList.drop a).take (b - a) := by
 rw [ByteArray.data_extract, Array.toList_extract, List.extract_eq_take_drop]
def glue (w : List UInt8) : List (List UInt8) → List (List UInt8)
 | [] => [w]
 | h :: r => (w ++ h) :: r
theorem zq5 {l : List UInt8} {i : Nat} {c : UInt8} {t : List UInt8} (h : l.drop i = c :: t) : ∃ hi : i < l.length, l[i] = c ∧ l.drop (i + 1) = t := by
 have hi : i < l.length := by
  refine Classical.byContradiction fun hn => ?_
  rw [List.drop_eq_nil_of_le (by omega)] at h
  cases h
 rw [List.drop_eq_getElem_cons hi] at h
 exact ⟨hi, (List.cons.inj h).1, (List.cons.inj h).2⟩
theorem bt_get (s : ByteArray) (i : Nat) (c : UInt8) (t : List UInt8) (h : s.data.toList.drop i = c :: t) : bt s (i : Int) = (c.toNat : Int) := by
 obtain ⟨hi, hc, _⟩ := zq5 h
 have hi' : i < s.size := by rw [show s.size = s.data.toList.length from (Array.length_toList).symm]; exact hi
 unfold bt
 rw [Int.toNat_natCast, dif_pos hi', ← hc]
 rfl
theorem zq6 (s : ByteArray) (b : UInt8) (hs : s.size ≤ 2000000) : ∀ (d i fr : Nat) (out : List ByteArray), i + d = s.size → fr ≤ i → out.length ≤ i →
  Ev (fun k => spec_l1Split.l0 k s (b.toNat : Int) out (fr : Int) (i : Int)) (out ++ toB (glue ((s.data.toList.drop fr).take (i - fr)) (spl b (s.data.toList.drop i))))
 | 0, i, fr, out, hd, hf, ho => by
  have hl : s.data.toList.length = s.size := Array.length_toList
  refine Ev.ret fun k => ?_
  rw [spec_l1Split.l0, if_neg (by omega), if_pos (by omega), if_pos (by omega), if_pos (by omega), show s.data.toList.drop i = [] from List.drop_eq_nil_of_le (by omega), spl, glue, List.append_nil, toB, List.map_cons, List.map_nil, Int.toNat_natCast]
  refine congrArg some (congrArg (out ++ [·]) (ba_ext' ?_))
  rw [zq4, show s.size - fr = i - fr by omega]
 | d + 1, i, fr, out, hd, hf, ho => by
  have hl : s.data.toList.length = s.size := Array.length_toList
  obtain ⟨c, t, hct⟩ : ∃ c t, s.data.toList.drop i = c :: t := by
   cases hx : s.data.toList.drop i with
   | nil =>
    have := List.drop_eq_nil_iff.1 hx
    omega
   | cons c t => exact ⟨c, t, rfl⟩
  have hb := bt_get s i c t hct
  obtain ⟨hi, hc, ht⟩ := zq5 hct
  rw [hct, spl]
  by_cases e : c = b
  ·subst e
   rw [if_pos rfl]
   have ih := zq6 s c hs d (i + 1) (i + 1) (out ++ [s.extract fr i]) (by omega) (Nat.le_refl _) (by simp; omega)
   rw [ht, Nat.sub_self, List.take_zero] at ih
   have eg : glue [] (spl c t) = spl c t := by
    cases hx : spl c t with
    | nil => exact absurd hx (spl_ne c t)
    | cons h r => rfl
   rw [eg] at ih
   have er : out ++ toB (glue ((s.data.toList.drop fr).take (i - fr)) ([] :: spl c t)) = (out ++ [s.extract fr i]) ++ toB (spl c t) := by
    rw [glue, List.append_nil, toB, List.map_cons, List.append_assoc]
    refine congrArg (out ++ ·) (congrArg (· :: toB (spl c t)) (ba_ext' ?_))
    rw [zq4]
   rw [er]
   refine Ev.step (fun k => ?_) ih
   show spec_l1Split.l0 (k + 1) s (c.toNat : Int) out (fr : Int) (i : Int) = _
   rw [spec_l1Split.l0, if_pos (by omega), if_pos (by omega), if_pos hb, if_pos (by omega), if_pos (by omega), if_pos (by omega), if_pos (by omega), w64 (by omega) (by omega), Int.toNat_natCast, Int.toNat_natCast, show (i : Int) + 1 = ((i + 1 : Nat) : Int) by omega]
  ·rw [if_neg e]
   have ih := zq6 s b hs d (i + 1) fr out (by omega) (by omega) (by omega)
   rw [ht] at ih
   have hw : (s.data.toList.drop fr).take (i + 1 - fr) = (s.data.toList.drop fr).take (i - fr) ++ [c] := by
    rw [show i + 1 - fr = (i - fr) + 1 by omega, List.take_add_one, List.getElem?_drop, show fr + (i - fr) = i by omega]
    have : s.data.toList[i]? = some c := by rw [List.getElem?_eq_getElem hi, hc]
    rw [this]; rfl
   have eg : glue ((s.data.toList.drop fr).take (i + 1 - fr)) (spl b t) = glue ((s.data.toList.drop fr).take (i - fr)) (match spl b t with | [] => [[c]] | h :: r => (c :: h) :: r) := by
    rw [hw]
    cases hx : spl b t with
    | nil => exact absurd hx (spl_ne b t)
    | cons h r => simp [glue]
   rw [eg] at ih
   refine Ev.step (fun k => ?_) ih
   show spec_l1Split.l0 (k + 1) s (b.toNat : Int) out (fr : Int) (i : Int) = _
   rw [spec_l1Split.l0, if_pos (by omega), if_pos (by omega), if_neg (by rw [hb]; intro h; exact e (UInt8.toNat_inj.1 (by omega))), w64 (by omega) (by omega), show (i : Int) + 1 = ((i + 1 : Nat) : Int) by omega]
theorem zq7 (s : ByteArray) (b : UInt8) (hs : s.size ≤ 2000000) : Ev (fun k => spec_l1Split.f k s (b.toNat : Int)) (toB (spl b s.data.toList)) := by
 have h := zq6 s b hs s.size 0 0 [] (by omega) (Nat.le_refl _) (by simp)
 rw [List.nil_append, Nat.sub_self, List.take_zero, List.drop_zero] at h
 have eg : glue [] (spl b s.data.toList) = spl b s.data.toList := by
  cases hx : spl b s.data.toList with
  | nil => exact absurd hx (spl_ne b _)
  | cons h r => rfl
 rw [eg] at h
 exact h

def digB (x : Int) : List UInt8 := [UInt8.ofNat (48 + x.toNat)]
theorem zq8 : (List.range 10).all (fun x => decide (Lib.decDigits x = digB (x : Int))) = true := by decide +kernel

def rdS (w : List UInt8) : Int := (spec_l1Read.f 20 ⟨w.toArray⟩).getD (-1)
theorem zq9 (s : ByteArray) (hs : s.size ≤ 6) : ∀ (d i acc k : Nat), i + d = s.size → acc < 10 ^ i →
  ∃ v : Int, spec_l1Read.l0 (k + d + 1) s (acc : Int) (i : Int) = some v ∧ (v = -1 ∨ (acc : Int) * (10 ^ d : Nat) ≤ v)
 | 0, i, acc, k, hd, ha => ⟨acc, by rw [spec_l1Read.l0, if_neg (by omega)], .inr (by simp)⟩
 | d + 1, i, acc, k, hd, ha => by
  have hi : i ≤ 5 := by omega
  have hp : 10 ^ i ≤ 100000 := Nat.le_trans (Nat.pow_le_pow_right (by omega) hi) (by decide)
  have hb := bt_range s (i : Int)
  rw [show k + (d + 1) + 1 = (k + d + 1) + 1 by omega, spec_l1Read.l0, if_pos (by omega), if_pos (by omega)]
  by_cases c : bt s (i : Int) < 48
  ·exact ⟨-1, by rw [if_pos c], .inl rfl⟩
  ·by_cases c2 : bt s (i : Int) > 57
   ·exact ⟨-1, by rw [if_neg c, if_pos c2], .inl rfl⟩
   ·obtain ⟨q, hq⟩ : ∃ q : Nat, bt s (i : Int) = 48 + (q : Int) := ⟨(bt s (i : Int) - 48).toNat, by omega⟩
    have hm : (48 + (q : Int) - 48) % 256 = (q : Int) := by omega
    obtain ⟨v, e, h⟩ := zq9 s hs d (i + 1) (10 * acc + q) k (by omega) (by rw [Nat.pow_succ]; omega)
    refine ⟨v, ?_, ?_⟩
    ·rw [if_neg c, if_neg c2, hq, hm, w64 (x := 10 * (acc : Int)) (by omega) (by omega), w64 (by omega) (by omega), w64 (by omega) (by omega), show 10 * (acc : Int) + (q : Int) = ((10 * acc + q : Nat) : Int) by omega, show (i : Int) + 1 = ((i + 1 : Nat) : Int) by omega]
     exact e
    ·rcases h with h | h
     ·exact .inl h
     ·refine .inr (Int.le_trans ?_ h)
      rw [Nat.pow_succ]
      have : ((acc * (10 ^ d * 10) : Nat) : Int) ≤ (((10 * acc + q) * 10 ^ d : Nat) : Int) := by
       refine Int.ofNat_le.2 ?_
       rw [Nat.add_mul, Nat.mul_comm (10 ^ d) 10, ← Nat.mul_assoc, Nat.mul_comm acc 10]
       exact Nat.le_add_right _ _
      simpa using this
theorem digB_of (a : UInt8) (h0 : 48 ≤ a.toNat) (h1 : a.toNat ≤ 57) : [a] = digB ((a.toNat : Int) - 48) := by
 unfold digB
 rw [show 48 + ((a.toNat : Int) - 48).toNat = a.toNat by omega, UInt8.ofNat_toNat]
theorem rdS_ok (w : List UInt8) : spec_l1Read.f 20 ⟨w.toArray⟩ = some (rdS w) ∧ (0 ≤ rdS w → rdS w ≤ 9 → w = digB (rdS w)) := by
 have hsz : (⟨w.toArray⟩ : ByteArray).size = w.length := rfl
 have key : ∃ v, spec_l1Read.f 20 ⟨w.toArray⟩ = some v ∧ (0 ≤ v → v ≤ 9 → w = digB v) := by
  by_cases hl : 1 ≤ w.length ∧ w.length ≤ 6
  ·have e1 : spec_l1In.f ((⟨w.toArray⟩ : ByteArray).size : Int) 1 6 = some true := by rw [hsz, spec_l1In.f, if_pos (by omega), decide_eq_true (by omega)]
   match w, hl with
   | [a], _ =>
    have hb : bt ⟨[a].toArray⟩ 0 = (a.toNat : Int) := bt_get ⟨[a].toArray⟩ 0 a [] rfl
    have hlt := a.toNat_lt
    have h0 : spec_l1Read.f 20 ⟨[a].toArray⟩ = spec_l1Read.l0 19 ⟨[a].toArray⟩ 0 0 := by
     rw [spec_l1Read.f, e1, Option.bind_some, if_pos rfl, if_pos (by rw [hsz]; simp)]
     split
     ·rw [spec_l1Read.j0, if_neg (by rw [hsz]; simp)]
     ·rw [spec_l1Read.j0, if_neg (by simp)]
    rw [h0, spec_l1Read.l0, if_pos (by rw [hsz]; simp), if_pos (by omega), hb]
    by_cases c : (a.toNat : Int) < 48
    ·exact ⟨-1, by rw [if_pos c], fun h => by omega⟩
    ·by_cases c2 : (a.toNat : Int) > 57
     ·exact ⟨-1, by rw [if_neg c, if_pos c2], fun h => by omega⟩
     ·refine ⟨(a.toNat : Int) - 48, ?_, fun _ _ => digB_of a (by omega) (by omega)⟩
      rw [if_neg c, if_neg c2, w64 (x := (0 : Int) + 1) (by omega) (by omega), spec_l1Read.l0, if_neg (by rw [hsz]; simp), show wrap64 (10 * 0) = 0 from by decide +kernel, Int.zero_add, show ((a.toNat : Int) - 48) % 256 = (a.toNat : Int) - 48 by omega, w64 (by omega) (by omega)]
   | a :: b :: t, hl =>
    have hb : bt ⟨(a :: b :: t).toArray⟩ 0 = (a.toNat : Int) := bt_get ⟨(a :: b :: t).toArray⟩ 0 a (b :: t) rfl
    by_cases c48 : (a.toNat : Int) = 48
    ·refine ⟨-1, ?_, fun h => by omega⟩
     rw [spec_l1Read.f, e1, Option.bind_some, if_pos rfl, if_pos (by rw [hsz]; simp; omega), hb, if_pos c48, spec_l1Read.j0, if_pos (by rw [hsz]; simp; omega)]
    ·have h0 : spec_l1Read.f 20 ⟨(a :: b :: t).toArray⟩ = spec_l1Read.l0 19 ⟨(a :: b :: t).toArray⟩ 0 0 := by
      rw [spec_l1Read.f, e1, Option.bind_some, if_pos rfl, if_pos (by rw [hsz]; simp; omega), hb, if_neg c48, spec_l1Read.j0, if_neg (by simp)]
     rw [h0]
     have hln : t.length ≤ 4 := by simp at hl; omega
     by_cases c : (a.toNat : Int) < 48
     ·exact ⟨-1, by rw [spec_l1Read.l0, if_pos (by rw [hsz]; simp; omega), if_pos (by omega), hb, if_pos c], fun h => by omega⟩
     ·by_cases c2 : (a.toNat : Int) > 57
      ·exact ⟨-1, by rw [spec_l1Read.l0, if_pos (by rw [hsz]; simp; omega), if_pos (by omega), hb, if_neg c, if_pos c2], fun h => by omega⟩
      ·obtain ⟨q, hq⟩ : ∃ q : Nat, (a.toNat : Int) = 48 + (q : Int) := ⟨((a.toNat : Int) - 48).toNat, by omega⟩
       obtain ⟨v, e, h⟩ := zq9 ⟨(a :: b :: t).toArray⟩ (by rw [hsz]; simp; omega) (t.length + 1) 1 q (18 - (t.length + 2)) (by rw [hsz]; simp; omega) (by omega)
       refine ⟨v, ?_, fun h0 h9 => ?_⟩
       ·rw [spec_l1Read.l0, if_pos (by rw [hsz]; simp; omega), if_pos (by omega), hb, if_neg c, if_neg c2, w64 (x := (0 : Int) + 1) (by omega) (by omega), show wrap64 (10 * 0) = 0 from by decide +kernel, Int.zero_add, hq, show (48 + (q : Int) - 48) % 256 = (q : Int) by omega, w64 (x := (q : Int)) (by omega) (by omega)]
        rw [show 18 - (t.length + 2) + (t.length + 1) + 1 = 18 by omega] at e
        exact e
       ·rcases h with h | h
        ·omega
        ·have hp : 10 ≤ 10 ^ (t.length + 1) := by rw [Nat.pow_succ]; have := Nat.pow_pos (n := t.length) (show 0 < 10 by decide); omega
         have hq1 : 1 ≤ q := by omega
         have : ((1 * 10 : Nat) : Int) ≤ ((q * 10 ^ (t.length + 1) : Nat) : Int) := Int.ofNat_le.2 (Nat.mul_le_mul hq1 hp)
         have h2 : ((q * 10 ^ (t.length + 1) : Nat) : Int) ≤ v := by simpa using h
         omega
  ·have e1 : ∃ b, spec_l1In.f ((⟨w.toArray⟩ : ByteArray).size : Int) 1 6 = some b ∧ b = false := by
    rw [hsz]
    unfold spec_l1In.f
    by_cases d : (w.length : Int) ≥ 1
    ·rw [if_pos d]; exact ⟨_, rfl, decide_eq_false (by omega)⟩
    ·rw [if_neg d]; exact ⟨_, rfl, rfl⟩
   obtain ⟨b, e1, rfl⟩ := e1
   exact ⟨-1, by rw [spec_l1Read.f, e1, Option.bind_some, if_neg (by simp), spec_l1Read.j0, if_pos rfl], fun h => by omega⟩
 obtain ⟨v, e, h⟩ := key
 have : rdS w = v := by rw [rdS, e]; rfl
 rw [this]
 exact ⟨e, h⟩
theorem zq10 : (List.range 10).all (fun x => decide (rdS (digB (x : Int)) = (x : Int)) && decide (impl_readNumber.f ⟨(digB (x : Int)).toArray⟩ = some ((x : Int), true))) = true := by decide +kernel
theorem zq11 (w : List UInt8) (hl : w.length ≤ 2000000) : ∃ n b, impl_readNumber.f ⟨w.toArray⟩ = some (n, b) ∧ (b = true → 0 ≤ n → n ≤ 9 → w = digB n) := by
 rw [impl_readNumber.f, if_pos (show (⟨w.toArray⟩ : ByteArray).size ≤ 2000000 from hl)]
 refine ⟨_, _, rfl, ?_⟩
 have hd : (⟨w.toArray⟩ : ByteArray).data.toList = w := rfl
 rw [hd]
 cases Lib.atoiAll w with
 | ok v =>
  intro hb h0_ h9_
  have h0 : 0 ≤ v := h0_
  have h9 : v ≤ 9 := h9_
  clear h0_ h9_
  show w = digB v
  have hb' : Lib.itoa v = w := by
   have := beq_iff_eq.1 hb
   rw [Go.ByteArray.toList_eq] at this
   exact this
  have hd9 : Lib.decDigits v.toNat = digB v := by
   have h := List.all_eq_true.1 zq8 v.toNat (List.mem_range.2 (by omega))
   rw [show ((v.toNat : Nat) : Int) = v by omega, decide_eq_true_eq] at h
   exact h
  rw [← hb', Lib.itoa, if_neg (by omega), hd9]
 | range => intro hb; cases hb
 | _ => intro hb; cases hb

theorem rdOf_at (l : List ByteArray) (p : List ByteArray) (x : ByteArray) (t : List ByteArray) : rdOf ByteArray.empty (p ++ x :: t) (p.length : Int) = x := by
 unfold rdOf
 simp
theorem zq12 (w : List UInt8) (r : List (List UInt8)) : toB (w :: r) = ⟨w.toArray⟩ :: toB r := rfl
theorem zq13 (w : List UInt8) : Ev (fun k => spec_l1Read.f k ⟨w.toArray⟩) (rdS w) := Ev.of (fun k => spec_l1Read.mono _ k) (rdS_ok w).1
def rdI (w : List UInt8) : Int × Bool := (impl_readNumber.f ⟨w.toArray⟩).getD (0, false)
theorem rdI_ok (w : List UInt8) (hl : w.length ≤ 2000000) : impl_readNumber.f ⟨w.toArray⟩ = some (rdI w) ∧ ((rdI w).2 = true → 0 ≤ (rdI w).1 → (rdI w).1 ≤ 9 → w = digB (rdI w).1) := by
 obtain ⟨n, b, e, h⟩ := zq11 w hl
 have : rdI w = (n, b) := by rw [rdI, e]; rfl
 rw [this]
 exact ⟨e, h⟩
theorem zq14 : ∀ (t : List (List UInt8)) (p : List ByteArray) (out : List Int), (∀ w ∈ t, w.length ≤ 2000000) → out.length = p.length → p.length + t.length ≤ 3000000 →
  Ev (fun k => impl_readNumbers.l0 k out (p ++ toB t) ((p ++ toB t).length : Int) (p.length : Int)) (if (t.all fun w => (rdI w).2) = true then (out ++ t.map (fun w => (rdI w).1), true) else ([], false))
 | [], p, out, _, ho, hn => by
  refine Ev.ret fun k => ?_
  rw [impl_readNumbers.l0, if_neg (by simp [toB]), List.map_nil, List.append_nil]
  rfl
 | w :: t, p, out, hw, ho, hn => by
  have hn' : p.length + t.length + 1 ≤ 3000000 := by simpa [Nat.add_assoc] using hn
  have ea : (p ++ [⟨w.toArray⟩]) ++ toB t = p ++ toB (w :: t) := by simp [toB]
  have el : (((p ++ [(⟨w.toArray⟩ : ByteArray)]).length : Nat) : Int) = (p.length : Int) + 1 := by simp
  have hm : ((p ++ toB (w :: t)).length : Int) = (p.length : Int) + t.length + 1 := by simp [toB]; omega
  obtain ⟨e1, _⟩ := rdI_ok w (hw w (List.mem_cons_self ..))
  rw [List.all_cons]
  cases c : (rdI w).2 with
  | false =>
   rw [Bool.false_and, if_neg (by simp)]
   refine Ev.ret fun k => ?_
   rw [impl_readNumbers.l0, if_pos (by omega), if_pos (by omega), if_pos (by omega), zq12, rdOf_at (toB t), e1, Option.bind_some, if_neg (by rw [c]; simp)]
  | true =>
   have ih := zq14 t (p ++ [⟨w.toArray⟩]) (out ++ [(rdI w).1]) (fun x hx => hw x (List.mem_cons_of_mem _ hx)) (by simp; omega) (by simp; omega)
   rw [ea, el] at ih
   have em : (out ++ [(rdI w).1]) ++ t.map (fun w => (rdI w).1) = out ++ (w :: t).map (fun w => (rdI w).1) := by simp
   rw [em] at ih
   rw [Bool.true_and]
   refine Ev.step (fun k => ?_) ih
   show impl_readNumbers.l0 (k + 1) out (p ++ toB (w :: t)) ((p ++ toB (w :: t)).length : Int) (p.length : Int) = _
   rw [impl_readNumbers.l0, if_pos (by omega), if_pos (by omega), if_pos (by omega), zq12, rdOf_at (toB t), e1, Option.bind_some, if_pos c, if_pos (by omega), w64 (by omega) (by omega)]
theorem zq15 (x : Int) (h0 : 0 ≤ x) (h9 : x ≤ 9) : rdS (digB x) = x ∧ rdI (digB x) = (x, true) := by
 have h := List.all_eq_true.1 zq10 x.toNat (List.mem_range.2 (by omega))
 rw [show ((x.toNat : Nat) : Int) = x by omega] at h
 simp only [Bool.and_eq_true, decide_eq_true_eq] at h
 exact ⟨h.1, by rw [rdI, h.2]; rfl⟩

def txtL : List Int → List UInt8
 | [] => []
 | x :: t => digB x ++ t.flatMap fun y => 44 :: digB y
theorem zq16 : (List.range 10).all (fun x => decide (strOfNums [(wrap64 (48 + (x : Int))) % 256] = ⟨(digB (x : Int)).toArray⟩) && decide (Lib.decDigits x = digB (x : Int))) = true := by decide +kernel
theorem zq17 (k : Nat) (x : Int) (h0 : 0 ≤ x) (h1 : x < 10) : spec_l1Num.f (k + 1) x = some ⟨(digB x).toArray⟩ := by
 have h := List.all_eq_true.1 zq16 x.toNat (List.mem_range.2 (by omega))
 rw [show ((x.toNat : Nat) : Int) = x by omega] at h
 simp only [Bool.and_eq_true, decide_eq_true_eq] at h
 rw [spec_l1Num.f, if_pos (by omega), h.1]
theorem ba_ext {a b : ByteArray} (h : a.data.toList = b.data.toList) : a = b := by
 cases a; cases b
 simpa using h
theorem ba_app (a b : ByteArray) : (a ++ b).data.toList = a.data.toList ++ b.data.toList := by
 rw [ByteArray.data_append, Array.toList_append]
theorem ba_size (a : ByteArray) : a.size = a.data.toList.length := (Array.length_toList).symm
theorem zq18 : ∀ (t : List Int), (t.flatMap fun y => 44 :: digB y).length = 2 * t.length
 | [] => rfl
 | x :: t => by
  have := zq18 t
  rw [List.flatMap_cons, List.length_append, this]
  simp [digB]
  omega
theorem zq19 : ∀ (t p : List Int) (acc : ByteArray), 0 < p.length → p.length + t.length ≤ 1000 → acc.size ≤ 2 * p.length → (∀ x ∈ t, 0 ≤ x ∧ x < 10) →
  Ev (fun k => spec_trText.l0 k acc (p ++ t) ((p ++ t).length : Int) (p.length : Int)) ⟨(acc.data.toList ++ t.flatMap fun y => 44 :: digB y).toArray⟩
 | [], p, acc, _, _, _, _ => by
  refine Ev.ret fun k => ?_
  rw [spec_trText.l0, if_neg (by simp)]
  exact congrArg some (ba_ext (by rw [List.flatMap_nil, List.append_nil]))
 | x :: t, p, acc, hp, hn, ha, hx => by
  have hn' : p.length + t.length + 1 ≤ 1000 := by simpa [Nat.add_assoc] using hn
  have hm := len_mid p x t
  obtain ⟨x0, x1⟩ := hx x (List.mem_cons_self ..)
  have hs1 : (acc ++ (⟨#[44]⟩ : ByteArray)).size = acc.size + 1 := by rw [ba_size, ba_app, List.length_append, ← ba_size]; rfl
  have hs2 : (⟨(digB x).toArray⟩ : ByteArray).size = 1 := rfl
  have hs3 : ((acc ++ (⟨#[44]⟩ : ByteArray)) ++ (⟨(digB x).toArray⟩ : ByteArray)).size = acc.size + 2 := by rw [ba_size, ba_app, List.length_append, ← ba_size, hs1]; rfl
  have ih := zq19 t (p ++ [x]) ((acc ++ (⟨#[44]⟩ : ByteArray)) ++ (⟨(digB x).toArray⟩ : ByteArray)) (by simp) (by simp; omega) (by rw [hs3]; simp; omega) (fun y hy => hx y (List.mem_cons_of_mem _ hy))
  rw [zq1, zq0] at ih
  have e : (((acc ++ (⟨#[44]⟩ : ByteArray)) ++ (⟨(digB x).toArray⟩ : ByteArray)).data.toList ++ t.flatMap fun y => 44 :: digB y) = acc.data.toList ++ (x :: t).flatMap fun y => 44 :: digB y := by
   rw [ba_app, ba_app, List.flatMap_cons]
   simp
  rw [e] at ih
  refine Ev.step (f := fun k => (spec_l1Num.f k x).bind fun t113 => if (acc ++ (⟨#[44]⟩ : ByteArray)).size + t113.size ≤ 9223372036854775807 then spec_trText.l0 k ((acc ++ (⟨#[44]⟩ : ByteArray)) ++ t113) (p ++ x :: t) ((p ++ x :: t).length : Int) (wrap64 ((p.length : Int) + 1)) else none) (fun k => by rw [spec_trText.l0, if_pos (by omega), if_pos (by omega), if_pos (by omega), if_pos (by omega), if_pos (by omega), rd_mid]) ?_
  refine Ev.bind (Ev.ret (fun k => zq17 k x x0 x1)) ?_
  exact Ev.congr (fun k => by rw [if_pos (by rw [hs1, hs2]; omega), w64 (by omega) (by omega)]) ih
theorem zq20 (l : List Int) (hl : l.length ≤ 8) (hx : ∀ x ∈ l, 0 ≤ x ∧ x < 10) : Ev (fun k => spec_trText.f k l) (if l.length = 0 then ⟨#[45]⟩ else ⟨(txtL l).toArray⟩) := by
 cases l with
 | nil =>
  rw [if_pos (by rfl)]
  exact Ev.congr (fun k => by rw [spec_trText.f, if_pos (by simp)]) (Ev.now _)
 | cons x t =>
  obtain ⟨x0, x1⟩ := hx x (List.mem_cons_self ..)
  rw [if_neg (by simp)]
  refine Ev.congr (fun k => by rw [spec_trText.f, if_neg (by simp; omega)]) ?_
  have ih := zq19 t [x] ((⟨#[]⟩ : ByteArray) ++ (⟨(digB x).toArray⟩ : ByteArray)) (by simp) (by simp at hl ⊢; omega) (by rw [ba_size, ba_app]; simp [digB]) (fun y hy => hx y (List.mem_cons_of_mem _ hy))
  have e : (((⟨#[]⟩ : ByteArray) ++ (⟨(digB x).toArray⟩ : ByteArray)).data.toList ++ t.flatMap fun y => 44 :: digB y) = txtL (x :: t) := by
   rw [ba_app, txtL]
   simp
  rw [e] at ih
  have hm : ((x :: t).length : Int) = t.length + 1 := by simp
  refine Ev.step (f := fun k => (spec_l1Num.f k x).bind fun t114 => if (⟨#[]⟩ : ByteArray).size + t114.size ≤ 9223372036854775807 then spec_trText.l0 k ((⟨#[]⟩ : ByteArray) ++ t114) (x :: t) ((x :: t).length : Int) (wrap64 ((0 : Int) + 1)) else none) (fun k => by rw [spec_trText.l0, if_pos (by omega), if_pos (by omega), if_pos (by omega), if_neg (by omega)]; rfl) ?_
  refine Ev.bind (Ev.ret (fun k => zq17 k x x0 x1)) ?_
  exact Ev.congr (fun k => by rw [if_pos (Nat.le_trans (Nat.le_of_eq (show (⟨#[]⟩ : ByteArray).size + (⟨(digB x).toArray⟩ : ByteArray).size = 1 from rfl)) (by decide)), w64 (by omega) (by omega)]; rfl) ih
def dashB (l : List Int) : ByteArray := if l.length = 0 then ⟨#[45]⟩ else ⟨(txtL l).toArray⟩
theorem zq21 (l : List Int) (h8 : l.length ≤ 8) : (dashB l).size ≤ 100 := by
 unfold dashB
 split
 ·decide
 ·rw [ba_size]
  cases l with
  | nil => simp [txtL]
  | cons x t =>
   rw [txtL, List.toList_toArray, List.length_append, zq18]
   simp [digB] at h8 ⊢
   omega

def inAll (lo hi : Int) (l : List Int) : Bool := l.all fun n => decide (lo ≤ n) && decide (n ≤ hi)
theorem zq22 (lo hi : Int) (l : List Int) : inAll lo hi l = true ↔ ∀ x ∈ l, lo ≤ x ∧ x ≤ hi := by
 simp [inAll, List.all_eq_true]
theorem zq23 (lo hi x : Int) (l : List Int) : inAll lo hi (x :: l) = ((decide (lo ≤ x) && decide (x ≤ hi)) && inAll lo hi l) := by
 simp [inAll]

theorem zq24 : ∀ (n : Nat) (f : Nat → Int), (∀ i, i ≤ n → 1 ≤ f i ∧ f i ≤ n) → ∃ i j, i < j ∧ j ≤ n ∧ f i = f j
 | 0, f, h => by have := h 0 (by omega); omega
 | n + 1, f, h => by
  by_cases c : ∃ i, i ≤ n ∧ f i = f (n + 1)
  ·obtain ⟨i, hi, e⟩ := c
   exact ⟨i, n + 1, by omega, by omega, e⟩
  · -- the last one's value is left out
   let g : Nat → Int := fun i => if f i > f (n + 1) then f i - 1 else f i
   have hg : ∀ i, i ≤ n → 1 ≤ g i ∧ g i ≤ n := by
    intro i hi
    have h1 := h i (by omega)
    have h2 := h (n + 1) (by omega)
    have h3 : f i ≠ f (n + 1) := fun e => c ⟨i, hi, e⟩
    show 1 ≤ (if f i > f (n + 1) then f i - 1 else f i) ∧ (if f i > f (n + 1) then f i - 1 else f i) ≤ n
    split <;> omega
   obtain ⟨i, j, hij, hj, e⟩ := zq24 n g hg
   have h3 : f i ≠ f (n + 1) := fun e => c ⟨i, by omega, e⟩
   have h4 : f j ≠ f (n + 1) := fun e => c ⟨j, by omega, e⟩
   refine ⟨i, j, hij, by omega, ?_⟩
   have e' : (if f i > f (n + 1) then f i - 1 else f i) = (if f j > f (n + 1) then f j - 1 else f j) := e
   split at e' <;> split at e' <;> omega
theorem zq25 {l : List Int} (h : l.Nodup) {i j : Nat} (hi : i < j) (hj : j < l.length) : l[i]'(by omega) ≠ l[j] :=
 List.pairwise_iff_getElem.1 h i j (by omega) hj hi
theorem zq26 (n : Nat) (l : List Int) (h : l.Nodup) (hr : ∀ v ∈ l, 0 ≤ v ∧ v ≤ n) : l.length ≤ n + 1 := by
 refine Classical.byContradiction fun c => ?_
 obtain ⟨i, j, hij, hj, e⟩ := zq24 (n + 1) (fun i => l.getD i 0 + 1) (fun i hi => by
  have hm : l.getD i 0 ∈ l := by
   rw [List.getD_eq_getElem?_getD, List.getElem?_eq_getElem (by omega)]
   exact List.getElem_mem _
  have := hr _ hm
  show 1 ≤ l.getD i 0 + 1 ∧ l.getD i 0 + 1 ≤ ((n + 1 : Nat) : Int)
  omega)
 have e2 : l.getD i 0 + 1 = l.getD j 0 + 1 := e
 rw [List.getD_eq_getElem?_getD, List.getD_eq_getElem?_getD, List.getElem?_eq_getElem (by omega), List.getElem?_eq_getElem (by omega)] at e2
 simp only [Option.getD_some] at e2
 exact zq25 h hij (by omega) (by omega)

def Up (l : List Int) : Prop := l.Pairwise (· ≤ ·)
def put (x : Int) : List Int → List Int
 | [] => [x]
 | h :: t => if x ≤ h then x :: h :: t else h :: put x t
def srt : List Int → List Int
 | [] => []
 | h :: t => put h (srt t)
theorem zq27 (x : Int) : ∀ l : List Int, (put x l).Perm (x :: l)
 | [] => .refl _
 | h :: t => by
  rw [put]
  split
  ·exact .refl _
  ·exact ((zq27 x t).cons h).trans (.swap x h t)
theorem put_up (x : Int) : ∀ l : List Int, Up l → Up (put x l)
 | [], _ => by simp [put, Up]
 | h :: t, hl => by
  have h1 := List.pairwise_cons.1 hl
  rw [put]
  split
  ·refine List.pairwise_cons.2 ⟨fun y hy => ?_, hl⟩
   rcases List.mem_cons.1 hy with e | e
   ·omega
   ·have := h1.1 y e; omega
  ·refine List.pairwise_cons.2 ⟨fun y hy => ?_, put_up x t h1.2⟩
   rcases List.mem_cons.1 ((zq27 x t).mem_iff.1 hy) with e | e
   ·omega
   ·exact h1.1 y e
theorem zq28 : ∀ l : List Int, (srt l).Perm l
 | [] => .refl _
 | h :: t => (zq27 h (srt t)).trans ((zq28 t).cons h)
theorem srt_up : ∀ l : List Int, Up (srt l)
 | [] => by simp [srt, Up]
 | h :: t => put_up h _ (srt_up t)
theorem zq29 : ∀ (a b : List Int), Up a → Up b → a.Perm b → a = b
 | [], b, _, _, h => by simpa using h.length_eq.symm
 | x :: a, [], _, _, h => by simpa using h.length_eq
 | x :: a, y :: b, ha, hb, h => by
  have h1 := List.pairwise_cons.1 ha
  have h2 := List.pairwise_cons.1 hb
  have e : x = y := by
   have hx : x ∈ y :: b := h.mem_iff.1 (by simp)
   have hy : y ∈ x :: a := h.mem_iff.2 (by simp)
   rcases List.mem_cons.1 hx with e | e
   ·exact e
   ·rcases List.mem_cons.1 hy with e' | e'
    ·exact e'.symm
    ·have := h1.1 y e'
     have := h2.1 x e
     omega
  subst e
  rw [zq29 a b h1.2 h2.2 (List.perm_cons x |>.1 h)]

theorem zq30 : ∀ (a b : List Int), a.Pairwise (· < ·) → b.Pairwise (· < ·) → (∀ x, x ∈ a ↔ x ∈ b) → a = b
 | [], [], _, _, _ => rfl
 | [], y :: b, _, _, h => by have := (h y).2 (by simp); simp at this
 | x :: a, [], _, _, h => by have := (h x).1 (by simp); simp at this
 | x :: a, y :: b, ha, hb, h => by
  have h1 := List.pairwise_cons.1 ha
  have h2 := List.pairwise_cons.1 hb
  have e : x = y := by
   rcases List.mem_cons.1 ((h x).1 (by simp)) with e | e
   ·exact e
   ·rcases List.mem_cons.1 ((h y).2 (by simp)) with e' | e'
    ·exact e'.symm
    ·have := h1.1 y e'
     have := h2.1 x e
     omega
  subst e
  rw [zq30 a b h1.2 h2.2 fun z => ?_]
  constructor
  ·intro hz
   rcases List.mem_cons.1 ((h z).1 (by simp [hz])) with e | e
   ·have := h1.1 z hz; omega
   ·exact e
  ·intro hz
   rcases List.mem_cons.1 ((h z).2 (by simp [hz])) with e | e
   ·have := h2.1 z hz; omega
   ·exact e
theorem zq31 (l : List Int) (h : l.Nodup) : (srt l).Pairwise (· < ·) := by
 have h1 := srt_up l
 have h2 : (srt l).Nodup := (zq28 l).nodup_iff.2 h
 refine List.pairwise_iff_getElem.2 fun i j hi hj hij => ?_
 have h3 := List.pairwise_iff_getElem.1 h1 i j hi hj hij
 have h4 := List.pairwise_iff_getElem.1 h2 i j hi hj hij
 omega

def hts (last : Int) : List Int → Bool
 | [] => true
 | h :: t => decide (0 ≤ h) && decide (h ≤ last + 1) && hts h t
theorem hts_mem : ∀ (l : List Int) (last : Int), hts last l = true → ∀ x ∈ l, 0 ≤ x ∧ x ≤ last + l.length
 | [], _, _, x, hx => by cases hx
 | h :: t, last, hh, x, hx => by
  simp only [hts, Bool.and_eq_true, decide_eq_true_eq] at hh
  have e : ((h :: t).length : Int) = (t.length : Int) + 1 := by simp
  rw [e]
  cases hx with
  | head => omega
  | tail _ hx =>
   have := hts_mem t h hh.2 x hx
   omega
theorem rd_prev (q : List Int) (x : Int) (t : List Int) : rd ((q ++ [x]) ++ t) (((q ++ [x]).length : Int) - 1) = x := by
 unfold rd
 have : (((q ++ [x]).length : Int) - 1).toNat = q.length := by simp
 rw [this]
 simp

theorem rd_mem (l : List Int) (i : Int) (h0 : 0 ≤ i) (h1 : i < l.length) : rd l i ∈ l := by
 unfold rd
 rw [List.getD_eq_getElem?_getD, List.getElem?_eq_getElem (by omega)]
 exact List.getElem_mem _
def iota : Nat → Int → List Int
 | 0, _ => []
 | n + 1, i => i :: iota n (i + 1)
theorem zq32 (x : Int) : ∀ (n : Nat) (i : Int), x ∈ iota n i ↔ i ≤ x ∧ x < i + n
 | 0, i => by
  simp only [iota, List.not_mem_nil, false_iff]
  omega
 | n + 1, i => by
  rw [iota, List.mem_cons, zq32 x n (i + 1)]
  omega
theorem zq33 : ∀ (n : Nat) (i : Int), (iota n i).Pairwise (· < ·)
 | 0, i => by simp [iota]
 | n + 1, i => List.pairwise_cons.2 ⟨fun x hx => by have := (zq32 x n (i + 1)).1 hx; omega, zq33 n (i + 1)⟩
theorem zq34 {l : List Int} (h : l.Pairwise (· < ·)) : l.Nodup := h.imp fun hab => by omega
def isUp : List Int → Int → Bool
 | [], _ => true
 | h :: t, i => decide (h = i) && isUp t (i + 1)
theorem zq35 : ∀ (l : List Int) (i : Int), isUp l i = true ↔ l = iota l.length i
 | [], i => by simp [isUp, iota]
 | h :: t, i => by
  rw [isUp, Bool.and_eq_true, decide_eq_true_eq, zq35 t (i + 1), List.length_cons, iota]
  constructor
  ·rintro ⟨h1, h2⟩
   rw [h1, ← h2]
  ·intro e
   injection e with h1 h2
   exact ⟨h1, h2⟩
theorem zq36 (l : List Int) : isUp (srt l) 0 = true ↔ inAll 0 ((l.length : Int) - 1) l = true ∧ l.Nodup := by
 rw [zq35, (zq28 l).length_eq, zq22]
 constructor
 ·intro e
  have hm : ∀ x, x ∈ l ↔ 0 ≤ x ∧ x < 0 + (l.length : Int) := fun x => by
   rw [← zq32 x l.length 0, ← e]
   exact (zq28 l).mem_iff.symm
  refine ⟨fun x hx => by have := (hm x).1 hx; omega, ?_⟩
  rw [← (zq28 l).nodup_iff, e]
  exact zq34 (zq33 _ _)
 ·rintro ⟨h1, h2⟩
  refine zq30 _ _ (zq31 l h2) (zq33 _ _) fun x => ?_
  rw [(zq28 l).mem_iff, zq32]
  constructor
  ·intro hx
   have := h1 x hx
   omega
  ·intro hx
   refine Classical.byContradiction fun hn => ?_
   have hc : (x :: l).Nodup := List.nodup_cons.2 ⟨hn, h2⟩
   have := zq26 (l.length - 1) (x :: l) hc fun v hv => by
    rcases List.mem_cons.1 hv with e | e
    ·omega
    ·have := h1 v e; omega
   rw [List.length_cons] at this
   omega
def labsFrom (H L : List Int) : Nat → Nat → Bool
 | 0, _ => true
 | d + 1, i => if rd H i = rd H ((i : Int) - 1) + 1 ∧ rd L ((i : Int) - 1) > rd L i then false else labsFrom H L d (i + 1)
theorem zq37 (H L : List Int) : ∀ (d i : Nat), labsFrom H L d i = true ↔ ∀ j : Nat, i ≤ j → j < i + d → rd H j = rd H ((j : Int) - 1) + 1 → rd L ((j : Int) - 1) ≤ rd L j
 | 0, i => by
  simp only [labsFrom, true_iff]
  intro j h1 h2
  omega
 | d + 1, i => by
  rw [labsFrom]
  have ih := zq37 H L d (i + 1)
  by_cases c : rd H i = rd H ((i : Int) - 1) + 1 ∧ rd L ((i : Int) - 1) > rd L i
  ·rw [if_pos c]
   constructor
   ·intro h; cases h
   ·intro h
    have := h i (Nat.le_refl _) (by omega) c.1
    omega
  ·rw [if_neg c, ih]
   constructor
   ·intro h j h1 h2 h3
    by_cases e : j = i
    ·subst e
     refine Classical.byContradiction fun h4 => c ⟨h3, by omega⟩
    ·exact h j (by omega) (by omega) h3
   ·intro h j h1 h2 h3
    exact h j (by omega) (by omega) h3
def bothFrom (H L : List Int) : Nat → Nat → Bool
 | 0, _ => true
 | d + 1, i => if rd L i ∈ L.take i then false else if 0 < i ∧ rd H i = rd H ((i : Int) - 1) + 1 ∧ rd L ((i : Int) - 1) > rd L i then false else bothFrom H L d (i + 1)
theorem zq38 (H L : List Int) : ∀ (d i : Nat), bothFrom H L d i = true ↔ ∀ j : Nat, i ≤ j → j < i + d → rd L j ∉ L.take j ∧ (0 < j → rd H j = rd H ((j : Int) - 1) + 1 → rd L ((j : Int) - 1) ≤ rd L j)
 | 0, i => by
  simp only [bothFrom, true_iff]
  intro j h1 h2
  omega
 | d + 1, i => by
  rw [bothFrom]
  have ih := zq38 H L d (i + 1)
  by_cases g : rd L i ∈ L.take i
  ·rw [if_pos g]
   constructor
   ·intro h; cases h
   ·intro h
    exact absurd g (h i (Nat.le_refl _) (by omega)).1
  ·rw [if_neg g]
   by_cases c : 0 < i ∧ rd H i = rd H ((i : Int) - 1) + 1 ∧ rd L ((i : Int) - 1) > rd L i
   ·rw [if_pos c]
    constructor
    ·intro h; cases h
    ·intro h
     have := (h i (Nat.le_refl _) (by omega)).2 c.1 c.2.1
     omega
   ·rw [if_neg c, ih]
    constructor
    ·intro h j h1 h2
     by_cases e : j = i
     ·subst e
      exact ⟨g, fun h3 h4 => Classical.byContradiction fun h5 => c ⟨h3, h4, by omega⟩⟩
     ·exact h j (by omega) (by omega)
    ·intro h j h1 h2
     exact h j (by omega) (by omega)
theorem zq39 (L : List Int) : L.Nodup ↔ ∀ j : Nat, j < L.length → rd L j ∉ L.take j := by
 constructor
 ·intro h j hj hm
  obtain ⟨i, hi, e⟩ := List.mem_iff_getElem.1 hm
  rw [List.getElem_take] at e
  have hij : i < j := by simp at hi; omega
  rw [rd_nat, List.getD_eq_getElem?_getD, List.getElem?_eq_getElem hj] at e
  exact zq25 h hij hj e
 ·intro h
  refine List.pairwise_iff_getElem.2 fun i j hi hj hij e => h j hj ?_
  rw [rd_nat, List.getD_eq_getElem?_getD, List.getElem?_eq_getElem hj]
  refine List.mem_iff_getElem.2 ⟨i, by simp; omega, ?_⟩
  rw [List.getElem_take]
  exact e
theorem zq40 (H L : List Int) : bothFrom H L L.length 0 = (decide L.Nodup && labsFrom H L (L.length - 1) 1) := by
 rw [Bool.eq_iff_iff, Bool.and_eq_true, decide_eq_true_eq, zq38, zq37, zq39]
 constructor
 ·intro h
  exact ⟨fun j hj => (h j (by omega) (by omega)).1, fun j h1 h2 => (h j (by omega) (by omega)).2 (by omega)⟩
 ·rintro ⟨h1, h2⟩ j _ h3
  exact ⟨h1 j (by omega), fun h4 => h2 j (by omega) (by omega)⟩
def goodW (H L : List Int) : Bool := (decide (H.length ≤ 8) && hts (-1) H) && (decide ((L.length : Int) = (H.length : Int)) && (inAll 0 ((H.length : Int) - 1) L && (decide L.Nodup && labsFrom H L (L.length - 1) 1)))
theorem zq41 (H L : List Int) : goodW H L = true ↔ (H.length ≤ 8 ∧ hts (-1) H = true) ∧ L.length = H.length ∧ (∀ x ∈ L, 0 ≤ x ∧ x ≤ (H.length : Int) - 1) ∧ L.Nodup ∧ labsFrom H L (L.length - 1) 1 = true := by
 simp only [goodW, Bool.and_eq_true, decide_eq_true_eq, zq22]
 constructor
 ·rintro ⟨h1, h2, h3⟩
  exact ⟨h1, by omega, h3⟩
 ·rintro ⟨h1, h2, h3⟩
  exact ⟨h1, by omega, h3⟩
theorem hts_rd {H : List Int} (h8 : H.length ≤ 8) (h : hts (-1) H = true) (i : Int) (h0 : 0 ≤ i) (h1 : i < H.length) : 0 ≤ rd H i ∧ rd H i ≤ 8 := by
 have := hts_mem H (-1) h _ (rd_mem H i h0 h1)
 omega

theorem zq42 (a b c : Int) : spec_l1In.f a b c = some (decide (b ≤ a) && decide (a ≤ c)) := by
 unfold spec_l1In.f
 by_cases h : a ≥ b
 ·rw [if_pos h]; simp [show b ≤ a from h]
 ·rw [if_neg h]; simp [show ¬ b ≤ a from h]

theorem zq43 : ∀ (t p : List Int) (last : Int), -1 ≤ last → last ≤ p.length → p.length + t.length ≤ 8 →
  Ev (fun k => spec_waHeights.l0 k last (p ++ t) ((p ++ t).length : Int) (p.length : Int)) (hts last t)
 | [], p, last, _, _, _ => by
  refine Ev.ret fun k => ?_
  rw [spec_waHeights.l0, if_neg (by simp)]
  rfl
 | h :: t, p, last, h0, h1, hn => by
  have hn' : p.length + t.length + 1 ≤ 8 := by simpa [Nat.add_assoc] using hn
  have e1 : (p ++ [h]) ++ t = p ++ h :: t := by simp
  have e2 : (((p ++ [h]).length : Nat) : Int) = (p.length : Int) + 1 := by simp
  by_cases c : 0 ≤ h ∧ h ≤ last + 1
  ·have ih := zq43 t (p ++ [h]) h (by omega) (by omega) (by simp; omega)
   rw [e1, e2] at ih
   have er : hts last (h :: t) = hts h t := by simp [hts, c]
   rw [er]
   refine Ev.step (fun k => ?_) ih
   show spec_waHeights.l0 (k + 1) last (p ++ h :: t) ((p ++ h :: t).length : Int) (p.length : Int) = _
   rw [spec_waHeights.l0, if_pos (by simp; omega), if_pos (by omega), if_pos (by simp; omega), rd_mid, zq42, w64 (by omega) (by omega), w64 (by omega) (by omega)]
   simp [c]
  ·have er : hts last (h :: t) = false := by
    simp only [hts, Bool.and_eq_false_iff, decide_eq_false_iff_not]
    omega
   rw [er]
   refine Ev.ret fun k => ?_
   rw [spec_waHeights.l0, if_pos (by simp; omega), if_pos (by omega), if_pos (by simp; omega), rd_mid, zq42, w64 (by omega) (by omega)]
   have : (decide (0 ≤ h) && decide (h ≤ last + 1)) = false := by
    simp only [Bool.and_eq_false_iff, decide_eq_false_iff_not]
    omega
   rw [this]
   rfl
theorem zq44 (l : List Int) : Ev (fun k => spec_waHeights.f k l) (decide (l.length ≤ 8) && hts (-1) l) := by
 by_cases c : l.length ≤ 8
 ·have z := zq43 l [] (-1) (by omega) (by simp) (by simpa using c)
  rw [decide_eq_true c, Bool.true_and]
  refine Ev.congr (fun k => ?_) z
  show spec_waHeights.f k l = _
  rw [spec_waHeights.f, if_neg (by omega)]
  rfl
 ·rw [decide_eq_false c, Bool.false_and]
  refine Ev.congr (fun k => ?_) (Ev.now false)
  show spec_waHeights.f k l = _
  rw [spec_waHeights.f, if_pos (by omega)]

theorem zq45 (lo hi : Int) : ∀ (t p : List Int), p.length + t.length ≤ 35184372088832 →
  Ev (fun k => spec_l1All.l0 k lo hi (p ++ t) ((p ++ t).length : Int) (p.length : Int)) (inAll lo hi t)
 | [], p, _ => by
  refine Ev.ret fun k => ?_
  rw [spec_l1All.l0, if_neg (by simp)]
  rfl
 | h :: t, p, hn => by
  have hn' : p.length + t.length + 1 ≤ 35184372088832 := by simpa [Nat.add_assoc] using hn
  have hm := len_mid p h t
  rw [zq23]
  cases c : decide (lo ≤ h) && decide (h ≤ hi) with
  | true =>
   have ih := zq45 lo hi t (p ++ [h]) (by simp; omega)
   rw [zq1, zq0] at ih
   rw [Bool.true_and]
   refine Ev.step (fun k => ?_) ih
   show spec_l1All.l0 (k + 1) lo hi (p ++ h :: t) ((p ++ h :: t).length : Int) (p.length : Int) = _
   rw [spec_l1All.l0, if_pos (by omega), if_pos (by omega), if_pos (by omega), rd_mid, zq42, c, Option.bind_some, if_pos rfl, w64 (by omega) (by omega)]
  | false =>
   rw [Bool.false_and]
   refine Ev.ret fun k => ?_
   rw [spec_l1All.l0, if_pos (by omega), if_pos (by omega), if_pos (by omega), rd_mid, zq42, c]
   rfl
theorem zq46 (l : List Int) (lo hi : Int) (hl : l.length ≤ 35184372088832) : Ev (fun k => spec_l1All.f k l lo hi) (inAll lo hi l) :=
 zq45 lo hi l [] (by simpa using hl)

theorem zq47 (x : Int) : ∀ (t p : List Int), p.length + t.length ≤ 35184372088832 →
  Ev (fun k => spec_l1Has.l0 k x (p ++ t) ((p ++ t).length : Int) (p.length : Int)) (decide (x ∈ t))
 | [], p, _ => by
  refine Ev.ret fun k => ?_
  rw [spec_l1Has.l0, if_neg (by simp)]
  simp
 | h :: t, p, hn => by
  have hn' : p.length + t.length + 1 ≤ 35184372088832 := by simpa [Nat.add_assoc] using hn
  have hm := len_mid p h t
  by_cases c : h = x
  ·rw [decide_eq_true (by simp [c] : x ∈ h :: t)]
   refine Ev.ret fun k => ?_
   rw [spec_l1Has.l0, if_pos (by omega), if_pos (by omega), if_pos (by omega), rd_mid, if_pos c]
  ·have ih := zq47 x t (p ++ [h]) (by simp; omega)
   rw [zq1, zq0] at ih
   have e : decide (x ∈ h :: t) = decide (x ∈ t) := decide_eq_decide.2 (by simp [Ne.symm c])
   rw [e]
   refine Ev.step (fun k => ?_) ih
   show spec_l1Has.l0 (k + 1) x (p ++ h :: t) ((p ++ h :: t).length : Int) (p.length : Int) = _
   rw [spec_l1Has.l0, if_pos (by omega), if_pos (by omega), if_pos (by omega), rd_mid, if_neg c, w64 (by omega) (by omega)]
theorem zq48 (l : List Int) (x : Int) (hl : l.length ≤ 35184372088832) : Ev (fun k => spec_l1Has.f k l x) (decide (x ∈ l)) :=
 zq47 x l [] (by simpa using hl)

theorem zq49 (H L : List Int) (h8 : H.length ≤ 8) (hh : hts (-1) H = true) (hl : L.length = H.length) : ∀ (d i : Nat), i + d = L.length →
  Ev (fun k => spec_waGood.l0 k L (L.length : Int) (i : Int) H L) (bothFrom H L d i)
 | 0, i, hd => by
  refine Ev.ret fun k => ?_
  rw [spec_waGood.l0, if_neg (by omega), bothFrom]
 | d + 1, i, hd => by
  have ih := zq49 H L h8 hh hl d (i + 1) (by omega)
  rw [show ((i + 1 : Nat) : Int) = (i : Int) + 1 by omega] at ih
  rw [bothFrom]
  refine Ev.step (f := fun k => (spec_l1Has.f k (L.take i) (rd L i)).bind fun t135 => if t135 = true then some false else if (i : Int) > 0 then (if (i : Int) < (H.length : Int) then (if 0 ≤ wrap64 ((i : Int) - 1) then (if wrap64 ((i : Int) - 1) < (H.length : Int) then (if rd H i = wrap64 (rd H (wrap64 ((i : Int) - 1)) + 1) then (if wrap64 ((i : Int) - 1) < (L.length : Int) then (if rd L (wrap64 ((i : Int) - 1)) > rd L i then some false else spec_waGood.l0 k L (L.length : Int) (wrap64 ((i : Int) + 1)) H L) else none) else spec_waGood.l0 k L (L.length : Int) (wrap64 ((i : Int) + 1)) H L) else none) else none) else none) else spec_waGood.l0 k L (L.length : Int) (wrap64 ((i : Int) + 1)) H L) (fun k => ?_) (Ev.bind (zq48 (L.take i) (rd L i) (by simp; omega)) ?_)
  ·rw [spec_waGood.l0, if_pos (by omega), if_pos (by omega), if_pos (by omega), if_pos (by omega), Int.toNat_natCast]
  ·by_cases g : rd L i ∈ L.take i
   ·rw [if_pos g]
    exact Ev.congr (fun k => by rw [if_pos (by simpa using g)]) (Ev.now _)
   ·rw [if_neg g]
    refine Ev.congr (fun k => by rw [if_neg (by simpa using g), w64 (x := (i : Int) - 1) (by omega) (by omega), w64 (x := (i : Int) + 1) (by omega) (by omega)]) ?_
    by_cases c0 : 0 < i
    ·have hr := hts_rd h8 hh ((i : Int) - 1) (by omega) (by omega)
     refine Ev.congr (fun k => by rw [if_pos (by omega), if_pos (by omega), if_pos (by omega), if_pos (by omega), w64 (by omega) (by omega)]) ?_
     by_cases c1 : rd H i = rd H ((i : Int) - 1) + 1
     ·by_cases c2 : rd L ((i : Int) - 1) > rd L i
      ·rw [if_pos ⟨c0, c1, c2⟩]
       exact Ev.congr (fun k => by rw [if_pos c1, if_pos (by omega), if_pos c2]) (Ev.now _)
      ·rw [if_neg (fun h => c2 h.2.2)]
       exact Ev.congr (fun k => by rw [if_pos c1, if_pos (by omega), if_neg c2]) ih
     ·rw [if_neg (fun h => c1 h.2.1)]
      exact Ev.congr (fun k => by rw [if_neg c1]) ih
    ·rw [if_neg (fun h => c0 h.1)]
     exact Ev.congr (fun k => by rw [if_neg (by omega)]) ih
theorem zq50 (H L : List Int) : Ev (fun k => spec_waGood.j0 k true H L) false :=
 Ev.ret fun k => by rw [spec_waGood.j0, if_pos rfl]
theorem zq51 (H L : List Int) (hL : L.length ≤ 35184372088832) : Ev (fun k => spec_waGood.f k H L) (goodW H L) := by
 refine Ev.bind (zq44 H) ?_
 cases c : decide (H.length ≤ 8) && hts (-1) H with
 | false =>
  rw [show goodW H L = false by rw [goodW, c, Bool.false_and]]
  exact Ev.congr (fun k => by rw [if_neg (by simp)]) (zq50 H L)
 | true =>
  have cc : H.length ≤ 8 ∧ hts (-1) H = true := by simpa using c
  refine Ev.congr (fun k => by rw [if_pos rfl]) ?_
  by_cases d : (L.length : Int) = (H.length : Int)
  ·refine Ev.congr (fun k => by rw [if_pos d, w64 (by omega) (by omega)]) ?_
   refine Ev.bind (zq46 L 0 ((H.length : Int) - 1) hL) ?_
   cases e : inAll 0 ((H.length : Int) - 1) L with
   | false =>
    rw [show goodW H L = false by rw [goodW, e, Bool.false_and, Bool.and_false, Bool.and_false]]
    exact Ev.congr (fun k => by rw [Bool.not_false]) (zq50 H L)
   | true =>
    rw [show goodW H L = bothFrom H L L.length 0 by rw [goodW, c, decide_eq_true d, e, Bool.true_and, Bool.true_and, Bool.true_and, zq40]]
    refine Ev.step (fun k => by rw [spec_waGood.j0, if_neg (by simp)]) ?_
    exact zq49 H L cc.1 cc.2 (by omega) L.length 0 (by omega)
  ·rw [show goodW H L = false by rw [goodW, decide_eq_false d, Bool.false_and, Bool.and_false]]
   exact Ev.congr (fun k => by rw [if_neg d]) (zq50 H L)

theorem zq52 (a b c : Int) : impl_between.f a b c = some (decide (b ≤ a) && decide (a ≤ c)) := by
 unfold impl_between.f
 by_cases h : a ≥ b
 ·rw [if_pos h]; simp [show b ≤ a from h]
 ·rw [if_neg h]; simp [show ¬ b ≤ a from h]

theorem zq53 (a : Int) : impl_isCars.f a = some (decide (0 ≤ a) && decide (a ≤ 8)) := by
 unfold impl_isCars.f
 rw [zq52]
 rfl

theorem zq54 : ∀ (t p : List Int) (last : Int), p.length + t.length ≤ 35184372088832 →
  (p = [] ∧ last = -1 ∨ ∃ q, p = q ++ [last]) → -1 ≤ last → last < p.length →
  Ev (fun k => impl_areHeights.l0 k (p ++ t) (p ++ t) ((p ++ t).length : Int) (p.length : Int)) (hts last t && decide ((p ++ t).length ≤ 8))
 | [], p, last, _, _, _, _ => by
  refine Ev.ret fun k => ?_
  rw [impl_areHeights.l0, if_neg (by simp), zq53]
  simp only [hts, Bool.true_and, Option.bind_some, Option.some.injEq]
  rw [Bool.eq_iff_iff]
  simp only [Bool.and_eq_true, decide_eq_true_eq]
  omega
 | h :: t, p, last, hn, hp, h0, h1 => by
  have hn' : p.length + t.length + 1 ≤ 35184372088832 := by simpa [Nat.add_assoc] using hn
  have e1 : (p ++ [h]) ++ t = p ++ h :: t := by simp
  have e2 : (((p ++ [h]).length : Nat) : Int) = (p.length : Int) + 1 := by simp
  by_cases c : 0 ≤ h ∧ h ≤ last + 1
  ·have ih := zq54 t (p ++ [h]) h (by simp; omega) (.inr ⟨p, rfl⟩) (by omega) (by omega)
   rw [e1, e2] at ih
   have er : hts last (h :: t) = hts h t := by simp [hts, c]
   rw [er]
   refine Ev.step (fun k => ?_) ih
   show impl_areHeights.l0 (k + 1) (p ++ h :: t) (p ++ h :: t) ((p ++ h :: t).length : Int) (p.length : Int) = _
   rw [impl_areHeights.l0, if_pos (by simp; omega), if_pos (by omega), if_pos (by simp; omega), rd_mid, if_neg (by omega)]
   rcases hp with ⟨rfl, rfl⟩ | ⟨q, rfl⟩
   ·rw [if_pos (by simp), if_neg (by omega), if_neg (by simp), w64 (by simp) (by simp)]
   ·have hl : ((q ++ [last]).length : Int) = (q.length : Int) + 1 := by simp
    have ep : wrap64 (((q ++ [last]).length : Int) - 1) = ((q ++ [last]).length : Int) - 1 := w64 (by omega) (by omega)
    rw [if_neg (by omega), if_pos (by omega), ep, if_pos (by omega), if_pos (by simp; omega), rd_prev, w64 (by omega) (by omega), if_neg (by omega), w64 (by omega) (by omega)]
  ·have er : hts last (h :: t) = false := by
    simp only [hts, Bool.and_eq_false_iff, decide_eq_false_iff_not]
    omega
   rw [er, Bool.false_and]
   refine Ev.ret fun k => ?_
   rw [impl_areHeights.l0, if_pos (by simp; omega), if_pos (by omega), if_pos (by simp; omega), rd_mid]
   by_cases c0 : h < 0
   ·rw [if_pos c0]
   ·rw [if_neg c0]
    rcases hp with ⟨rfl, rfl⟩ | ⟨q, rfl⟩
    ·rw [if_pos (by simp), if_pos (by omega)]
    ·have hl : ((q ++ [last]).length : Int) = (q.length : Int) + 1 := by simp
     have ep : wrap64 (((q ++ [last]).length : Int) - 1) = ((q ++ [last]).length : Int) - 1 := w64 (by omega) (by omega)
     rw [if_neg (by omega), if_pos (by omega), ep, if_pos (by omega), if_pos (by simp; omega), rd_prev, w64 (by omega) (by omega), if_pos (by omega)]
theorem zq55 (l : List Int) (hl : l.length ≤ 35184372088832) : Ev (fun k => impl_areHeights.f k l) (decide (l.length ≤ 8) && hts (-1) l) := by
 have z := zq54 l [] (-1) (by simpa using hl) (.inl ⟨rfl, rfl⟩) (by omega) (by simp)
 rw [Bool.and_comm]
 exact z

theorem zq56 (l : List Int) : (l.mergeSort fun x y => decide (x ≤ y)) = srt l := by
 refine zq29 _ _ ?_ (srt_up l) ((List.mergeSort_perm l _).trans (zq28 l).symm)
 have h := List.pairwise_mergeSort (le := fun x y : Int => decide (x ≤ y)) (fun a b c h1 h2 => by simp at h1 h2 ⊢; omega) (fun a b => by simp; omega) l
 exact h.imp fun hab => by simpa using hab
theorem zq57 (l : List Int) (hl : l.length ≤ 10000000) : Ev (fun k => impl_sorted.f k l) (srt l) := by
 refine Ev.congr (fun k => ?_) (Ev.now (srt l))
 show impl_sorted.f k l = _
 rw [impl_sorted.f, if_pos hl, slices_Sort_int_int.f, if_pos (by omega), zq56]

theorem zq58 (l : List Int) (hl : l.length ≤ 12) : Ev (fun k => impl_sorted.f k l) (srt l) := zq57 l (by omega)

theorem zq59 (l0 : List Int) : ∀ (t p : List Int), p.length + t.length ≤ 35184372088832 →
  Ev (fun k => impl_isOrder.l0 k l0 (p ++ t) ((p ++ t).length : Int) (p.length : Int)) (isUp t p.length && decide ((l0.length : Int) ≤ 8))
 | [], p, _ => by
  refine Ev.ret fun k => ?_
  rw [impl_isOrder.l0, if_neg (by simp), isUp, Bool.true_and]
 | h :: t, p, hn => by
  have hn' : p.length + t.length + 1 ≤ 35184372088832 := by simpa [Nat.add_assoc] using hn
  have hm := len_mid p h t
  rw [isUp]
  by_cases c : h = (p.length : Int)
  ·have ih := zq59 l0 t (p ++ [h]) (by simp; omega)
   rw [zq1 p h t, zq0 p h] at ih
   rw [decide_eq_true c, Bool.true_and]
   refine Ev.step (fun k => ?_) ih
   show impl_isOrder.l0 (k + 1) l0 (p ++ h :: t) ((p ++ h :: t).length : Int) (p.length : Int) = _
   rw [impl_isOrder.l0, if_pos (by omega), if_pos (by omega), if_pos (by omega), rd_mid, if_pos c, w64 (by omega) (by omega)]
  ·rw [decide_eq_false c, Bool.false_and, Bool.false_and]
   refine Ev.ret fun k => ?_
   rw [impl_isOrder.l0, if_pos (by omega), if_pos (by omega), if_pos (by omega), rd_mid, if_neg c]
theorem zq60 (l : List Int) (hl : l.length ≤ 12) : Ev (fun k => impl_isOrder.f k l) (isUp (srt l) 0 && decide ((l.length : Int) ≤ 8)) := by
 refine Ev.bind (zq58 l hl) ?_
 exact zq59 l (srt l) [] (by have := (zq28 l).length_eq; simp; omega)

theorem zq61 (H L : List Int) (h8 : H.length ≤ 8) (hh : hts (-1) H = true) (hl : L.length = H.length) : ∀ (d i : Nat), 1 ≤ i → i + d = max 1 H.length →
  Ev (fun k => impl_isWalk.l0 k (i : Int) H L) (labsFrom H L d i)
 | 0, i, h1, hd => by
  refine Ev.ret fun k => ?_
  rw [impl_isWalk.l0, if_neg (by omega), labsFrom]
 | d + 1, i, h1, hd => by
  have ih := zq61 H L h8 hh hl d (i + 1) (by omega) (by omega)
  rw [show ((i + 1 : Nat) : Int) = (i : Int) + 1 by omega] at ih
  have hr := hts_rd h8 hh ((i : Int) - 1) (by omega) (by omega)
  rw [labsFrom]
  by_cases c1 : rd H i = rd H ((i : Int) - 1) + 1
  ·by_cases c2 : rd L ((i : Int) - 1) > rd L i
   ·rw [if_pos ⟨c1, c2⟩]
    refine Ev.ret fun k => ?_
    rw [impl_isWalk.l0, w64 (x := (i : Int) - 1) (by omega) (by omega), w64 (x := rd H ((i : Int) - 1) + 1) (by omega) (by omega), if_pos (by omega), if_pos (by omega), if_pos (by omega), if_pos (by omega), if_pos c1, if_pos (by omega), if_pos (by omega), if_pos c2]
   ·rw [if_neg (fun h => c2 h.2)]
    refine Ev.step (fun k => ?_) ih
    show impl_isWalk.l0 (k + 1) (i : Int) H L = _
    rw [impl_isWalk.l0, w64 (x := (i : Int) - 1) (by omega) (by omega), w64 (x := rd H ((i : Int) - 1) + 1) (by omega) (by omega), if_pos (by omega), if_pos (by omega), if_pos (by omega), if_pos (by omega), if_pos c1, if_pos (by omega), if_pos (by omega), if_neg c2, w64 (by omega) (by omega)]
  ·rw [if_neg (fun h => c1 h.1)]
   refine Ev.step (fun k => ?_) ih
   show impl_isWalk.l0 (k + 1) (i : Int) H L = _
   rw [impl_isWalk.l0, w64 (x := (i : Int) - 1) (by omega) (by omega), w64 (x := rd H ((i : Int) - 1) + 1) (by omega) (by omega), if_pos (by omega), if_pos (by omega), if_pos (by omega), if_pos (by omega), if_neg c1, w64 (by omega) (by omega)]
theorem zq62 (H L : List Int) : Ev (fun k => impl_isWalk.j0 k true H L) false :=
 Ev.ret fun k => by rw [impl_isWalk.j0, if_pos rfl]
theorem zq63 (H L : List Int) (hH : H.length ≤ 35184372088832) : Ev (fun k => impl_isWalk.f k H L) (goodW H L) := by
 refine Ev.bind (zq55 H hH) ?_
 cases c : decide (H.length ≤ 8) && hts (-1) H with
 | false =>
  rw [show goodW H L = false by rw [goodW, c, Bool.false_and]]
  exact Ev.congr (fun k => by rw [if_neg (by simp)]) (zq62 H L)
 | true =>
  have cc : H.length ≤ 8 ∧ hts (-1) H = true := by simpa using c
  refine Ev.congr (fun k => by rw [if_pos rfl]) ?_
  by_cases d : (L.length : Int) = (H.length : Int)
  ·refine Ev.congr (fun k => by rw [if_pos d]) ?_
   refine Ev.bind (zq60 L (by omega)) ?_
   have e8 : decide ((L.length : Int) ≤ 8) = true := decide_eq_true (by omega)
   rw [e8, Bool.and_true]
   have ho := zq36 L
   cases e : isUp (srt L) 0 with
   | false =>
    have : goodW H L = false := by
     refine Bool.eq_false_iff.2 fun h => ?_
     obtain ⟨_, _, h3, h4, _⟩ := (zq41 H L).1 h
     have := ho.2 ⟨(zq22 _ _ _).2 fun x hx => by have := h3 x hx; omega, h4⟩
     rw [e] at this
     cases this
    rw [this]
    exact Ev.congr (fun k => by rw [Bool.not_false]) (zq62 H L)
   | true =>
    obtain ⟨h1, h2⟩ := ho.1 e
    rw [d] at h1
    rw [show goodW H L = labsFrom H L (L.length - 1) 1 by rw [goodW, c, decide_eq_true d, h1, decide_eq_true h2, Bool.true_and, Bool.true_and, Bool.true_and, Bool.true_and]]
    refine Ev.step (fun k => by rw [impl_isWalk.j0, if_neg (by simp)]) ?_
    exact zq61 H L cc.1 cc.2 (by omega) (L.length - 1) 1 (by omega) (by omega)
  ·rw [show goodW H L = false by rw [goodW, decide_eq_false d, Bool.false_and, Bool.and_false]]
   exact Ev.congr (fun k => by rw [if_neg d]) (zq62 H L)

def dashL (l : List Int) : List UInt8 := if l.length = 0 then [45] else txtL l
theorem zq64 (l : List Int) : dashB l = ⟨(dashL l).toArray⟩ := by
 unfold dashB dashL
 split <;> rfl
def rod (p : List UInt8) : List Int × Bool :=
 if p = [] then ([], false) else if p = [45] then ([], true) else if p.head? = some 45 then ([], false)
 else if ((spl 44 p).all fun w => (rdI w).2) = true then ((spl 44 p).map (fun w => (rdI w).1), true) else ([], false)
def spR (p : List UInt8) : List Int := if p = [45] then [] else (spl 44 p).map rdS
theorem zq65 (s : ByteArray) (hs : s.size ≤ 1048576) : Ev (fun k => impl_readOrDash.f k s) (rod s.data.toList) := by
 have htl : s.toList = s.data.toList := Go.ByteArray.toList_eq s
 have hsz : s.size = s.data.toList.length := (Array.length_toList).symm
 obtain ⟨hw1, hw2⟩ := spl_len 44 s.data.toList
 have hw : ∀ w ∈ spl 44 s.data.toList, w.length ≤ 2000000 := fun w hm => by have := hw1 w hm; omega
 obtain hx | ⟨a, t, hx⟩ : s.data.toList = [] ∨ ∃ a t, s.data.toList = a :: t := by
  cases s.data.toList with
  | nil => exact .inl rfl
  | cons a t => exact .inr ⟨a, t, rfl⟩
 ·rw [rod, if_pos hx]
  exact Ev.congr (fun k => by rw [impl_readOrDash.f, if_pos (by rw [htl, hx])]) (Ev.ret fun k => by rw [impl_readOrDash.j0, if_pos rfl])
 ·have hne : s.data.toList ≠ [] := by rw [hx]; simp
  rw [rod, if_neg hne]
  by_cases c0 : s.data.toList = [45]
  ·rw [if_pos c0]
   have hp : strings_HasPrefix.f s ⟨#[45]⟩ = some true := by rw [strings_HasPrefix.f, c0]; rfl
   have ht : strings_TrimPrefix.f s ⟨#[45]⟩ = some ⟨#[]⟩ := by rw [strings_TrimPrefix.f, c0]; rfl
   refine Ev.congr (fun k => by rw [impl_readOrDash.f, if_neg (by rw [htl, c0]; simp), hp, Option.bind_some, if_pos rfl, htl, c0]) ?_
   refine Ev.step (fun k => by rw [impl_readOrDash.j0, if_neg (by simp), ht, Option.bind_some]) ?_
   exact Ev.bind (a := (([] : List Int), true)) (Ev.congr (fun k => by rw [impl_readNumbers.f, Option.bind_some, if_pos ((Go.ByteArray.toList_eq _).trans rfl)]) (Ev.now _)) (Ev.now _)
  ·rw [if_neg c0]
   by_cases ca : a = 45
   ·rw [if_pos (by rw [hx, ca]; rfl)]
    have hp : strings_HasPrefix.f s ⟨#[45]⟩ = some true := by rw [strings_HasPrefix.f, hx, ca]; rfl
    refine Ev.congr (fun k => by rw [impl_readOrDash.f, if_neg (by rw [htl, hx]; simp), hp, Option.bind_some, if_pos rfl, htl, bne_iff_ne.2 c0]) ?_
    exact Ev.ret fun k => by rw [impl_readOrDash.j0, if_pos rfl]
   ·rw [if_neg (by rw [hx]; simpa using ca)]
    have hpf : Go.Lib.hasPrefix s.data.toList [45] = false := by
     rw [hx]
     simp [Go.Lib.hasPrefix, List.isPrefixOf, Ne.symm ca]
    have hp : strings_HasPrefix.f s ⟨#[45]⟩ = some false := by rw [strings_HasPrefix.f, hpf]
    have ht : strings_TrimPrefix.f s ⟨#[45]⟩ = some s := by
     rw [strings_TrimPrefix.f, Go.Lib.trimPrefix, hpf, if_neg (by simp)]
    refine Ev.congr (fun k => by rw [impl_readOrDash.f, if_neg (by rw [htl, hx]; simp), hp, Option.bind_some, if_neg (by simp)]) ?_
    refine Ev.step (fun k => by rw [impl_readOrDash.j0, if_neg (by simp), ht, Option.bind_some]) ?_
    refine Ev.bind ?_ (Ev.now _)
    refine Ev.congr (fun k => by rw [impl_readNumbers.f, Option.bind_some, if_neg (by rw [htl, hx]; simp), zq3 s (by omega), Option.bind_some]) ?_
    have h := zq14 (spl 44 s.data.toList) [] [] hw rfl (by simp; omega)
    simp only [List.nil_append] at h
    exact h
theorem rod_len (p : List UInt8) : (rod p).1.length ≤ p.length + 1 := by
 have h := (spl_len 44 p).2
 unfold rod
 split
 ·simp
 ·split
  ·simp
  ·split
   ·simp
   ·split
    ·show (List.map _ _).length ≤ _
     rw [List.length_map]; exact h
    ·simp
theorem spR_len (p : List UInt8) : (spR p).length ≤ p.length + 1 := by
 have h := (spl_len 44 p).2
 unfold spR
 split
 ·simp
 ·rw [List.length_map]; exact h
theorem zq66 : ∀ (t : List (List UInt8)) (p : List ByteArray) (out : List Int), out.length = p.length → p.length + t.length ≤ 3000000 →
  Ev (fun k => spec_waRead.l0 k out (p ++ toB t) ((p ++ toB t).length : Int) (p.length : Int)) (out ++ t.map rdS)
 | [], p, out, ho, hn => by
  rw [List.map_nil, List.append_nil]
  exact Ev.ret fun k => by rw [spec_waRead.l0, if_neg (by simp [toB])]
 | w :: t, p, out, ho, hn => by
  have hn' : p.length + t.length + 1 ≤ 3000000 := by simpa [Nat.add_assoc] using hn
  have ih := zq66 t (p ++ [⟨w.toArray⟩]) (out ++ [rdS w]) (by simp; omega) (by simp; omega)
  have ea : (p ++ [⟨w.toArray⟩]) ++ toB t = p ++ toB (w :: t) := by simp [toB]
  have el : (((p ++ [(⟨w.toArray⟩ : ByteArray)]).length : Nat) : Int) = (p.length : Int) + 1 := by simp
  have em : (out ++ [rdS w]) ++ t.map rdS = out ++ (w :: t).map rdS := by simp
  have hm : ((p ++ toB (w :: t)).length : Int) = (p.length : Int) + t.length + 1 := by simp [toB]; omega
  rw [ea, el, em] at ih
  refine Ev.step (fun k => by rw [spec_waRead.l0, if_pos (by omega), if_pos (by omega), if_pos (by omega), zq12, rdOf_at (toB t)]) (Ev.bind (zq13 w) ?_)
  exact Ev.congr (fun k => by rw [if_pos (by omega), w64 (by omega) (by omega), zq12]) ih
theorem zq67 (s : ByteArray) (hs : s.size ≤ 1048576) : Ev (fun k => spec_waRead.f k s) (spR s.data.toList) := by
 have htl : s.toList = s.data.toList := Go.ByteArray.toList_eq s
 have hsz : s.size = s.data.toList.length := (Array.length_toList).symm
 unfold spR
 by_cases c : s.data.toList = [45]
 ·rw [if_pos c]
  exact Ev.congr (fun k => by rw [spec_waRead.f, if_pos (by rw [htl]; exact c)]) (Ev.now _)
 ·rw [if_neg c]
  have h44 : (((44 : UInt8).toNat : Nat) : Int) = 44 := rfl
  have e44 := zq7 s 44 (by omega)
  rw [h44] at e44
  refine Ev.congr (fun k => by rw [spec_waRead.f, if_neg (by rw [htl]; exact c)]) (Ev.bind e44 ?_)
  have hl := (spl_len 44 s.data.toList).2
  have h := zq66 (spl 44 s.data.toList) [] [] rfl (by simp; omega)
  simp only [List.nil_append] at h
  exact h
theorem zq68 (b : UInt8) : ∀ (s h : List UInt8) (r : List (List UInt8)), spl b s = h :: r → s = h ++ r.flatMap (fun w => b :: w)
 | [], h, r, e => by
  rw [spl] at e
  obtain ⟨rfl, rfl⟩ := List.cons.inj e
  rfl
 | c :: t, h, r, e => by
  rw [spl] at e
  split at e
  ·rename_i hc
   obtain ⟨rfl, rfl⟩ := List.cons.inj e
   cases hs : spl b t with
   | nil => exact absurd hs (spl_ne b t)
   | cons x y =>
    have := zq68 b t x y hs
    rw [List.nil_append, List.flatMap_cons, hc, this]
    rfl
  ·cases hs : spl b t with
   | nil => exact absurd hs (spl_ne b t)
   | cons x y =>
    rw [hs] at e
    obtain ⟨rfl, rfl⟩ := List.cons.inj e
    rw [List.cons_append, ← zq68 b t x _ hs]
theorem zq69 {f g : List UInt8 → List UInt8} : ∀ (y : List (List UInt8)), (∀ w ∈ y, f w = g w) → y.flatMap f = y.flatMap g
 | [], _ => rfl
 | w :: y, h => by rw [List.flatMap_cons, List.flatMap_cons, h w (List.mem_cons_self ..), zq69 y fun x hx => h x (List.mem_cons_of_mem _ hx)]
theorem zq70 (p : List UInt8) (h : ∀ x ∈ spR p, 0 ≤ x ∧ x ≤ 9) : p = dashL (spR p) ∧ rod p = (spR p, true) := by
 by_cases c : p = [45]
 ·have e : spR p = [] := by rw [spR, if_pos c]
  rw [e]
  refine ⟨by rw [c]; rfl, ?_⟩
  rw [rod, if_neg (by rw [c]; simp), if_pos c]
 ·have e : spR p = (spl 44 p).map rdS := by rw [spR, if_neg c]
  rw [e] at h ⊢
  have hr : ∀ w ∈ spl 44 p, w = digB (rdS w) ∧ rdI w = (rdS w, true) := fun w hm => by
   have h1 := h _ (List.mem_map_of_mem hm)
   have e := (rdS_ok w).2 h1.1 h1.2
   have e2 := (zq15 (rdS w) h1.1 h1.2).2
   rw [← e] at e2
   exact ⟨e, e2⟩
  cases hs : spl 44 p with
  | nil => exact absurd hs (spl_ne 44 p)
  | cons x y =>
   have hg := zq68 44 p x y hs
   rw [hs] at h hr
   have hx := hr x (List.mem_cons_self ..)
   have hx0 := h _ (List.mem_map_of_mem (f := rdS) (List.mem_cons_self (a := x) (l := y)))
   have hy : y.flatMap (fun w => (44 : UInt8) :: w) = (y.map rdS).flatMap fun z => 44 :: digB z := by
    rw [List.flatMap_map]
    refine zq69 y fun w hw => ?_
    rw [← (hr w (List.mem_cons_of_mem _ hw)).1]
   have ep : p = dashL ((x :: y).map rdS) := by
    unfold dashL
    rw [if_neg (by simp), List.map_cons, txtL, ← hx.1, ← hy]
    exact hg
   refine ⟨ep, ?_⟩
   have hn : p ≠ [] := by
    rw [hg, hx.1, digB]
    simp
   have h45 : p.head? ≠ some 45 := by
    rw [hg, hx.1, digB]
    simp only [List.cons_append, List.head?_cons]
    intro e
    have e := Option.some.inj e
    have : (UInt8.ofNat (48 + (rdS x).toNat)).toNat = (45 : UInt8).toNat := congrArg UInt8.toNat e
    rw [UInt8.toNat_ofNat_of_lt' (by show 48 + (rdS x).toNat < 256; omega)] at this
    have h45 : (45 : UInt8).toNat = 45 := rfl
    omega
   rw [rod, if_neg hn, if_neg c, if_neg h45, hs, if_pos (List.all_eq_true.2 fun w hm => by rw [(hr w hm).2])]
   refine congrArg (fun l => (l, true)) (List.map_congr_left fun w hm => by rw [(hr w hm).2])
theorem zq71 (p : List UInt8) (h2 : (rod p).2 = true) (h : ∀ x ∈ (rod p).1, 0 ≤ x ∧ x ≤ 9) (hl : p.length ≤ 2000000) : spR p = (rod p).1 := by
 have hw : ∀ w ∈ spl 44 p, w.length ≤ 2000000 := fun w hm => by have := (spl_len 44 p).1 w hm; omega
 unfold rod at h h2 ⊢
 unfold spR
 split at h2
 ·cases h2
 ·rename_i c1
  rw [if_neg c1] at h ⊢
  split at h2
  ·rename_i c2
   rw [if_pos c2, if_pos c2]
  ·rename_i c2
   rw [if_neg c2] at h
   rw [if_neg c2, if_neg c2]
   split at h2
   ·cases h2
   ·rename_i c3
    rw [if_neg c3] at h ⊢
    split at h2
    ·rename_i c4
     rw [if_pos c4] at h ⊢
     refine List.map_congr_left fun w hm => ?_
     have h1 := h _ (List.mem_map_of_mem (f := fun w => (rdI w).1) hm)
     have e := (rdI_ok w (hw w hm)).2 (List.all_eq_true.1 c4 w hm) h1.1 h1.2
     have := (zq15 (rdI w).1 h1.1 h1.2).1
     rw [← e] at this
     exact this
    ·cases h2
theorem cut_spl : ∀ S : List UInt8, (spl 58 S = [S] ∧ Go.Lib.cut S [58] = (S, [], false) ∧ Go.Lib.index S [58] = -1) ∨ ∃ H T, Go.Lib.cut S [58] = (H, T, true) ∧ spl 58 S = H :: spl 58 T ∧ S = H ++ 58 :: T ∧ Go.Lib.index S [58] = (H.length : Int)
 | [] => .inl ⟨rfl, by decide +kernel, by decide +kernel⟩
 | c :: t => by
  by_cases e : c = 58
  ·subst e
   have hix : Go.Lib.index (58 :: t) [58] = 0 := by rw [Go.Lib.index]; simp [List.isPrefixOf]
   refine .inr ⟨[], t, ?_, ?_, rfl, hix⟩
   ·rw [Go.Lib.cut, hix]; rfl
   ·rw [spl, if_pos rfl]
  ·have hp : ([58] : List UInt8).isPrefixOf (c :: t) = false := by simp [List.isPrefixOf, Ne.symm e]
   have hix : Go.Lib.index (c :: t) [58] = if Go.Lib.index t [58] == -1 then -1 else Go.Lib.index t [58] + 1 := by rw [Go.Lib.index, hp]; simp
   rcases cut_spl t with ⟨h1, h2, h3⟩ | ⟨H, T, h1, h2, h3, h4⟩
   ·have : Go.Lib.index (c :: t) [58] = -1 := by rw [hix, h3]; rfl
    refine .inl ⟨?_, ?_, this⟩
    ·rw [spl, if_neg e, h1]
    ·rw [Go.Lib.cut, this]; rfl
   ·have : Go.Lib.index (c :: t) [58] = ((c :: H).length : Int) := by
     rw [hix, if_neg (by rw [h4]; intro h; have := beq_iff_eq.1 h; omega), h4]; simp
    refine .inr ⟨c :: H, T, ?_, ?_, by rw [h3]; rfl, this⟩
    ·rw [Go.Lib.cut, this, if_pos (by omega)]
     have e1 : (((c :: H).length : Nat) : Int).toNat = (c :: H).length := by omega
     have e2 : c :: t = (c :: H) ++ 58 :: T := by rw [h3]; rfl
     rw [e1, e2, List.take_left, List.drop_append, List.drop_eq_nil_of_le (by simp)]
     simp
    ·rw [spl, if_neg e, h2]
theorem digB_no (x : Int) (h0 : 0 ≤ x) (h9 : x ≤ 9) : ∀ b ∈ digB x, b ≠ 58 := fun b hb e => by
 rw [digB, List.mem_singleton] at hb
 have : (UInt8.ofNat (48 + x.toNat)).toNat = (58 : UInt8).toNat := congrArg UInt8.toNat (hb.symm.trans e)
 rw [UInt8.toNat_ofNat_of_lt' (by show 48 + x.toNat < 256; omega)] at this
 have h58 : (58 : UInt8).toNat = 58 := rfl
 omega
theorem zq72 (l : List Int) (h : ∀ x ∈ l, 0 ≤ x ∧ x ≤ 9) : (58 : UInt8) ∉ dashL l := fun hm => by
 unfold dashL at hm
 cases l with
 | nil =>
  rw [if_pos (by rfl)] at hm
  simp at hm
 | cons x t =>
  rw [if_neg (by simp), txtL] at hm
  rcases List.mem_append.1 hm with hm | hm
  ·have h1 := h x (List.mem_cons_self ..)
   exact digB_no x h1.1 h1.2 _ hm rfl
  ·obtain ⟨y, hy, hm⟩ := List.mem_flatMap.1 hm
   have h1 := h y (List.mem_cons_of_mem _ hy)
   rcases List.mem_cons.1 hm with e | hm
   ·exact absurd e (by decide)
   ·exact digB_no y h1.1 h1.2 _ hm rfl
theorem zq73 {l m : List Int} (h : goodW l m = true) : (∀ x ∈ l, 0 ≤ x ∧ x ≤ 9) ∧ (∀ x ∈ m, 0 ≤ x ∧ x ≤ 9) ∧ l.length ≤ 8 ∧ m.length ≤ 8 := by
 obtain ⟨⟨h8, hh⟩, h2, h3, _⟩ := (zq41 l m).1 h
 exact ⟨fun x hx => by have := hts_mem l (-1) hh x hx; omega, fun x hx => by have := h3 x hx; omega, h8, by omega⟩
def pwS (S : List UInt8) : List Int × List Int × Bool := match spl 58 S with
 | [H, T] => if goodW (spR H) (spR T) = true then (spR H, spR T, true) else ([], [], false)
 | _ => ([], [], false)
theorem zq74 (l : List Int) (h8 : l.length ≤ 8) (h : ∀ x ∈ l, 0 ≤ x ∧ x ≤ 9) : Ev (fun k => spec_trText.f k l) (dashB l) := zq20 l h8 fun x hx => by have := h x hx; omega
theorem zq75 (l m : List Int) (h8 : l.length ≤ 8) (g8 : m.length ≤ 8) (h : ∀ x ∈ l, 0 ≤ x ∧ x ≤ 9) (g : ∀ x ∈ m, 0 ≤ x ∧ x ≤ 9) : Ev (fun k => spec_waText.f k l m) ((dashB l ++ (⟨#[58]⟩ : ByteArray)) ++ dashB m) := by
 have s1 := zq21 l h8
 have s2 := zq21 m g8
 have s3 : ((dashB l) ++ (⟨#[58]⟩ : ByteArray)).size ≤ 101 := by
  rw [ba_size, ba_app, List.length_append, ← ba_size]
  exact Nat.add_le_add s1 (Nat.le_refl 1)
 refine Ev.bind (zq74 l h8 h) ?_
 refine Ev.congr (fun k => by rw [if_pos (show (dashB l).size + 1 ≤ 9223372036854775807 by omega)]) ?_
 refine Ev.bind (zq74 m g8 g) ?_
 exact Ev.congr (fun k => by rw [if_pos (show ((dashB l) ++ (⟨#[58]⟩ : ByteArray)).size + (dashB m).size ≤ 9223372036854775807 by omega)]) (Ev.now _)
theorem zq76 (l m : List Int) : ((dashB l ++ (⟨#[58]⟩ : ByteArray)) ++ dashB m).data.toList = dashL l ++ 58 :: dashL m := by
 rw [ba_app, ba_app, zq64, zq64]
 simp
theorem pwS_len (S : List UInt8) : (pwS S).1.length ≤ 8 ∧ (pwS S).2.1.length ≤ 8 := by
 unfold pwS
 split
 ·split
  ·rename_i c
   exact ⟨(zq73 c).2.2.1, (zq73 c).2.2.2⟩
  ·simp
 ·simp
theorem zq77 (s : ByteArray) (hs : s.size ≤ 1048576) : Ev (fun k => spec_ParseWalk.f k s) (pwS s.data.toList) := by
 have htl : s.toList = s.data.toList := Go.ByteArray.toList_eq s
 have hsz : s.size = s.data.toList.length := (Array.length_toList).symm
 have h58 : (((58 : UInt8).toNat : Nat) : Int) = 58 := rfl
 have e58 := zq7 s 58 (by omega)
 rw [h58] at e58
 obtain ⟨hw1, _⟩ := spl_len 58 s.data.toList
 refine Ev.bind e58 ?_
 unfold pwS
 match hx : spl 58 s.data.toList with
 | [] => exact absurd hx (spl_ne _ _)
 | [_] => exact Ev.congr (fun k => by rw [if_neg (by simp [toB])]) (Ev.now _)
 | _ :: _ :: _ :: r => exact Ev.congr (fun k => by rw [if_neg (by simp [toB]; omega)]) (Ev.now _)
 | [H, T] =>
  have hH : H.length ≤ 1048576 := by have := hw1 H (by rw [hx]; simp); omega
  have hT : T.length ≤ 1048576 := by have := hw1 T (by rw [hx]; simp); omega
  have e0 : rdOf ByteArray.empty (toB [H, T]) 0 = ⟨H.toArray⟩ := rfl
  have e1 : rdOf ByteArray.empty (toB [H, T]) 1 = ⟨T.toArray⟩ := rfl
  have n2 : ((toB [H, T]).length : Int) = 2 := rfl
  refine Ev.congr (fun k => by rw [if_pos n2, if_pos (show (0 : Int) < ((toB [H, T]).length : Int) by rw [n2]; omega), e0]) ?_
  refine Ev.bind (zq67 ⟨H.toArray⟩ hH) ?_
  refine Ev.congr (fun k => by rw [if_pos (show (1 : Int) < ((toB [H, T]).length : Int) by rw [n2]; omega), e1]) ?_
  refine Ev.bind (zq67 ⟨T.toArray⟩ hT) ?_
  have gH : (⟨H.toArray⟩ : ByteArray).data.toList = H := rfl
  have gT : (⟨T.toArray⟩ : ByteArray).data.toList = T := rfl
  rw [gH, gT]
  have hl2 := spR_len T
  refine Ev.bind (zq51 (spR H) (spR T) (by omega)) ?_
  show Ev _ (if goodW (spR H) (spR T) = true then (spR H, spR T, true) else ([], [], false))
  by_cases c : goodW (spR H) (spR T) = true
  ·rw [if_pos c]
   obtain ⟨g1, g2, g3, g4⟩ := zq73 c
   have htx : ((dashB (spR H) ++ (⟨#[58]⟩ : ByteArray)) ++ dashB (spR T)).toList = s.toList := by
    rw [Go.ByteArray.toList_eq, Go.ByteArray.toList_eq, zq76, ← (zq70 H g1).1, ← (zq70 T g2).1]
    have := zq68 58 _ H [T] hx
    rw [this]
    simp
   refine Ev.congr (fun k => by rw [if_pos c]) (Ev.bind (zq75 _ _ g3 g4 g1 g2) ?_)
   exact Ev.congr (fun k => by rw [if_pos htx]) (Ev.now _)
  ·rw [if_neg c]
   exact Ev.congr (fun k => by rw [if_neg c]) (Ev.now _)
theorem zq78 (s : ByteArray) (hs : s.size ≤ 1048576) : Ev (fun k => impl_ParseWalk.f k s) (pwS s.data.toList) := by
 have hsz : s.size = s.data.toList.length := (Array.length_toList).symm
 have hcut : strings_Cut.f s ⟨#[58]⟩ = some (⟨(Lib.cut s.data.toList [58]).1.toArray⟩, ⟨(Lib.cut s.data.toList [58]).2.1.toArray⟩, (Lib.cut s.data.toList [58]).2.2) := by
  rw [strings_Cut.f, if_pos (by omega)]
 refine Ev.congr (fun k => by rw [impl_ParseWalk.f, hcut, Option.bind_some]) ?_
 rcases cut_spl s.data.toList with ⟨h1, h2, _⟩ | ⟨H, T, h1, h2, h3, _⟩
 ·have hp : pwS s.data.toList = ([], [], false) := by rw [pwS, h1]
  rw [hp, h2]
  refine Ev.bind (zq65 ⟨s.data.toList.toArray⟩ (by show s.data.toList.length ≤ _; omega)) ?_
  refine Ev.bind (zq65 ⟨([] : List UInt8).toArray⟩ (by show 0 ≤ _; omega)) ?_
  exact Ev.congr (fun k => by rw [if_neg (by simp)]) (Ev.now _)
 ·rw [h1]
  have hlen : H.length + 1 + T.length ≤ 1048576 := by rw [h3] at hsz; simp at hsz; omega
  refine Ev.bind (zq65 ⟨H.toArray⟩ (by show H.length ≤ _; omega)) ?_
  refine Ev.bind (zq65 ⟨T.toArray⟩ (by show T.length ≤ _; omega)) ?_
  have gH : (⟨H.toArray⟩ : ByteArray).data.toList = H := rfl
  have gT : (⟨T.toArray⟩ : ByteArray).data.toList = T := rfl
  simp only [gH, gT]
  have key : ((rod H).2 = true ∧ (rod T).2 = true ∧ goodW (rod H).1 (rod T).1 = true ∧ pwS s.data.toList = ((rod H).1, (rod T).1, true)) ∨ (¬((rod H).2 = true ∧ (rod T).2 = true ∧ goodW (rod H).1 (rod T).1 = true) ∧ pwS s.data.toList = ([], [], false)) := by
   by_cases c : (rod H).2 = true ∧ (rod T).2 = true ∧ goodW (rod H).1 (rod T).1 = true
   ·obtain ⟨c1, c2, c3⟩ := c
    obtain ⟨g1, g2, g3, g4⟩ := zq73 c3
    have eH := zq71 H c1 g1 (by omega)
    have eT := zq71 T c2 g2 (by omega)
    refine .inl ⟨c1, c2, c3, ?_⟩
    have h58 : (58 : UInt8) ∉ T := by
     rw [(zq70 T (by rw [eT]; exact g2)).1]
     exact zq72 _ (by rw [eT]; exact g2)
    rcases cut_spl T with ⟨k1, _⟩ | ⟨H2, T2, _, _, k3, _⟩
    ·rw [pwS, h2, k1]
     show (if goodW (spR H) (spR T) = true then (spR H, spR T, true) else ([], [], false)) = _
     rw [eH, eT, if_pos c3]
    ·exact absurd (by rw [k3]; simp) h58
   ·refine .inr ⟨c, ?_⟩
    unfold pwS
    split
    ·rename_i H' T' e
     rw [h2] at e
     obtain ⟨eH, e2⟩ : H = H' ∧ spl 58 T = [T'] := List.cons.inj e
     subst eH
     clear e
     rcases cut_spl T with ⟨k1, _⟩ | ⟨H2, T2, _, k2, k3, _⟩
     ·rw [k1] at e2
      have eT : T = T' := (List.cons.inj e2).1
      subst eT
      by_cases d : goodW (spR H) (spR T) = true
      ·obtain ⟨g1, g2, _, _⟩ := zq73 d
       have r1 := (zq70 H g1).2
       have r2 := (zq70 T g2).2
       exact absurd ⟨by rw [r1], by rw [r2], by rw [r1, r2]; exact d⟩ c
      ·rw [if_neg d]
     ·rw [k2] at e2
      exact absurd (List.cons.inj e2).2 (spl_ne _ _)
    ·rfl
  have hl := rod_len H
  rcases key with ⟨c1, c2, c3, e⟩ | ⟨c, e⟩
  ·rw [e]
   refine Ev.congr (fun k => by rw [if_pos trivial, if_pos c1, if_pos c2]) (Ev.bind (zq63 (rod H).1 (rod T).1 (by omega)) ?_)
   exact Ev.congr (fun k => by rw [if_pos c3]) (Ev.now _)
  ·rw [e]
   by_cases c1 : (rod H).2 = true
   ·by_cases c2 : (rod T).2 = true
    ·refine Ev.congr (fun k => by rw [if_pos trivial, if_pos c1, if_pos c2]) (Ev.bind (zq63 (rod H).1 (rod T).1 (by omega)) ?_)
     exact Ev.congr (fun k => by rw [if_neg (fun h => c ⟨c1, c2, h⟩)]) (Ev.now _)
    ·exact Ev.congr (fun k => by rw [if_pos trivial, if_pos c1, if_neg c2]) (Ev.now _)
   ·exact Ev.congr (fun k => by rw [if_pos trivial, if_neg c1]) (Ev.now _)

theorem spl_no (b : UInt8) : ∀ (t : List UInt8), b ∉ t → spl b t = [t]
 | [], _ => rfl
 | c :: t, h => by
  rw [spl, if_neg (fun e => h (by rw [e]; exact List.mem_cons_self ..)), spl_no b t (fun hm => h (List.mem_cons_of_mem _ hm))]
theorem spl_app (b : UInt8) (t : List UInt8) : ∀ (h : List UInt8), b ∉ h → spl b (h ++ b :: t) = h :: spl b t
 | [], _ => by rw [List.nil_append, spl, if_pos rfl]
 | c :: h, hn => by
  rw [List.cons_append, spl, if_neg (fun e => hn (by rw [e]; exact List.mem_cons_self ..)), spl_app b t h (fun hm => hn (List.mem_cons_of_mem _ hm))]
theorem digB_44 (x : Int) (h0 : 0 ≤ x) (h9 : x ≤ 9) : UInt8.ofNat (48 + x.toNat) ≠ 44 ∧ UInt8.ofNat (48 + x.toNat) ≠ 45 := by
 constructor
 ·intro e
  have : (UInt8.ofNat (48 + x.toNat)).toNat = (44 : UInt8).toNat := congrArg UInt8.toNat e
  rw [UInt8.toNat_ofNat_of_lt' (by show 48 + x.toNat < 256; omega)] at this
  have h : (44 : UInt8).toNat = 44 := rfl
  omega
 ·intro e
  have : (UInt8.ofNat (48 + x.toNat)).toNat = (45 : UInt8).toNat := congrArg UInt8.toNat e
  rw [UInt8.toNat_ofNat_of_lt' (by show 48 + x.toNat < 256; omega)] at this
  have h : (45 : UInt8).toNat = 45 := rfl
  omega
theorem spl_txt : ∀ (x : Int) (t : List Int), (∀ y ∈ x :: t, 0 ≤ y ∧ y ≤ 9) → spl 44 (txtL (x :: t)) = (x :: t).map digB
 | x, [], h => by
  have hx := h x (List.mem_cons_self ..)
  rw [txtL, List.flatMap_nil, List.append_nil, digB, spl, if_neg (digB_44 x hx.1 hx.2).1]
  rfl
 | x, y :: t, h => by
  have hx := h x (List.mem_cons_self ..)
  have ih := spl_txt y t fun z hz => h z (List.mem_cons_of_mem _ hz)
  have e : txtL (x :: y :: t) = digB x ++ 44 :: txtL (y :: t) := by rw [txtL, List.flatMap_cons, txtL]; rfl
  rw [e, spl_app 44 _ (digB x) (by rw [digB, List.mem_singleton]; exact fun e => (digB_44 x hx.1 hx.2).1 e.symm), ih]
  rfl
theorem zq79 (l : List Int) (h : ∀ x ∈ l, 0 ≤ x ∧ x ≤ 9) : spR (dashL l) = l := by
 cases l with
 | nil => rfl
 | cons x t =>
  have hx := h x (List.mem_cons_self ..)
  have e : dashL (x :: t) = txtL (x :: t) := by rw [dashL, if_neg (by simp)]
  have hne : txtL (x :: t) ≠ [45] := fun e => by
   rw [txtL, digB] at e
   exact (digB_44 x hx.1 hx.2).2 (List.cons.inj e).1
  rw [e, spR, if_neg hne, spl_txt x t h, List.map_map]
  refine (List.map_congr_left fun y hy => ?_).trans (List.map_id _)
  have hy := h y hy
  exact (zq15 y hy.1 hy.2).1

theorem and255 (x : Int) (h0 : 0 ≤ x) (h1 : x < 18446744073709551616) : 0 ≤ Go.bits .and .u64 x 255 ∧ Go.bits .and .u64 x 255 ≤ 255 := by
 have h : Go.bits .and .u64 x 255 = x % 256 := bits_mask .u64 64 (by decide) wraps_u64 8 (by decide) x h0 h1
 rw [h]
 omega
theorem wrapu (x : Int) : 0 ≤ IntKind.u64.wrap x ∧ IntKind.u64.wrap x < 18446744073709551616 := by
 rw [IntKind.wrap_u64]
 omega
theorem zq80 (code : List Int) (hc : ∀ x ∈ code, 0 ≤ x ∧ x ≤ 255) (at_ seed : Int) (h0 : 0 ≤ at_) (h1 : at_ ≤ 1000000000000) :
  ∃ b s, spec_l1Cur_next.f code at_ seed = some (b, at_ + 1, s) ∧ 0 ≤ b ∧ b ≤ 255 := by
 have fin : ∀ q : Int, 0 ≤ wrap64 (Go.bits .and .u64 (IntKind.u64.wrap q / 1099511627776) 255) ∧ wrap64 (Go.bits .and .u64 (IntKind.u64.wrap q / 1099511627776) 255) ≤ 255 := fun q => by
  have hq := wrapu q
  have := and255 (IntKind.u64.wrap q / 1099511627776) (by omega) (by omega)
  rw [w64 (by omega) (by omega)]
  exact this
 unfold spec_l1Cur_next.f
 rw [w64 (x := at_ + 1) (by omega) (by omega)]
 by_cases c : at_ < (code.length : Int)
 ·have hb : 0 ≤ rd code at_ ∧ rd code at_ ≤ 255 := by
   refine hc _ ?_
   unfold rd
   rw [List.getD_eq_getElem?_getD, List.getElem?_eq_getElem (by omega)]
   exact List.getElem_mem _
  rw [if_pos c, if_pos h0]
  by_cases d : at_ + 1 ≤ (code.length : Int)
  ·rw [if_pos d]
   exact ⟨_, _, rfl, by rw [w64 (by omega) (by omega)]; exact hb⟩
  ·rw [if_neg d]
   exact ⟨_, _, rfl, fin _⟩
 ·rw [if_neg c]
  by_cases d : at_ + 1 ≤ (code.length : Int)
  ·rw [if_pos d]
   exact ⟨_, _, rfl, by omega, by omega⟩
  ·rw [if_neg d]
   exact ⟨_, _, rfl, fin _⟩
def Rdy (at_ : Int) (n : Int) : Prop := 0 ≤ at_ ∧ at_ ≤ n
theorem Rdy.mono {a n m : Int} (h : Rdy a n) (hm : n ≤ m) : Rdy a m := ⟨h.1, Int.le_trans h.2 hm⟩
theorem zq81 (code : List Int) (hc : ∀ x ∈ code, 0 ≤ x ∧ x ≤ 255) (at_ seed n : Int) (b : Int) (h : Rdy at_ b) (hb : b ≤ 100000000000) :
  ∃ v a s, spec_l1Cur_pick.f code at_ seed n = some (v, a, s) ∧ 0 ≤ v ∧ (v = 0 ∨ v < n) ∧ Rdy a (b + 2) := by
 obtain ⟨h0, h1⟩ := h
 unfold spec_l1Cur_pick.f
 by_cases c : n ≤ 1
 ·rw [if_pos c]
  exact ⟨0, at_, seed, rfl, by omega, .inl rfl, h0, by omega⟩
 ·rw [if_neg c]
  obtain ⟨x, s, e, hx0, hx1⟩ := zq80 code hc at_ seed h0 (by omega)
  rw [e, Option.bind_some]
  by_cases d : n > 200
  ·rw [if_pos d]
   obtain ⟨y, s2, e2, hy0, hy1⟩ := zq80 code hc (at_ + 1) s (by omega) (by omega)
   simp only [e2, Option.bind_some]
   rw [if_neg (by omega), w64 (x := x * 256) (by omega) (by omega), w64 (by omega) (by omega)]
   exact ⟨_, _, _, rfl, Int.tmod_nonneg _ (by omega), .inr (Int.tmod_lt_of_pos _ (by omega)), by omega, by omega⟩
  ·rw [if_neg d, if_neg (by omega)]
   exact ⟨_, _, _, rfl, Int.tmod_nonneg _ (by omega), .inr (Int.tmod_lt_of_pos _ (by omega)), by show 0 ≤ at_ + 1; omega, by show at_ + 1 ≤ b + 2; omega⟩

theorem zq82 (code : List Int) (hc : ∀ x ∈ code, 0 ≤ x ∧ x ≤ 255) (at_ seed : Int) (l : List Int) (hl : 1 ≤ l.length) (b : Int) (h : Rdy at_ b) (hb : b ≤ 100000000000) :
  ∃ v a s, spec_l1Cur_among.f code at_ seed l = some (v, a, s) ∧ v ∈ l ∧ Rdy a (b + 2) := by
 obtain ⟨v, a, s, e, h0, h1, h2⟩ := zq81 code hc at_ seed (l.length : Int) b h hb
 unfold spec_l1Cur_among.f
 rw [e, Option.bind_some]
 have hlt : v < (l.length : Int) := by omega
 show ∃ v' a' s', (if 0 ≤ v then (if v < (l.length : Int) then some (rd l v, a, s) else none) else none) = some (v', a', s') ∧ _
 rw [if_pos h0, if_pos hlt]
 refine ⟨_, _, _, rfl, ?_, h2⟩
 unfold rd
 rw [List.getD_eq_getElem?_getD, List.getElem?_eq_getElem (by omega)]
 exact List.getElem_mem _

theorem zq83 (l : List Int) (h : l.length < 17592186044416) : spec_l1Own.f l = some l := by
 unfold spec_l1Own.f
 simp only [Option.bind_some]
 rw [if_pos (by simp; omega)]
 simp

theorem park_l1 (code : List Int) (a s : Int) : ∀ (d : Nat) (l : List Int), l.length + d = 9 ∨ (d = 0 ∧ 9 ≤ l.length) → l.length ≤ 100000 →
  ∃ r : List Int, r.length ≤ l.length + d ∧ Ev (fun k => spec_l1Cur_park.l1 k l code a s) (r, a, s)
 | 0, l, h, hl => ⟨l, by omega, Ev.ret fun k => by rw [spec_l1Cur_park.l1, if_neg (by omega)]⟩
 | d + 1, l, h, hl => by
  obtain ⟨r, h1, h2⟩ := park_l1 code a s d (l ++ [0]) (by simp; omega) (by simp; omega)
  rw [List.length_append, List.length_singleton] at h1
  refine ⟨r, by omega, Ev.step (fun k => ?_) h2⟩
  show spec_l1Cur_park.l1 (k + 1) l code a s = _
  rw [spec_l1Cur_park.l1, if_pos (by omega), if_pos (by omega)]
theorem park_l0 (code : List Int) (hc : ∀ x ∈ code, 0 ≤ x ∧ x ≤ 255) : ∀ (d : Nat) (l : List Int) (at_ seed b : Int), d ≤ 1000 → l.length + d ≤ 2000 → Rdy at_ b → b + 4 * d ≤ 100000 →
  ∃ (r : List Int) (a s : Int), r.length ≤ l.length + d + 10 ∧ Rdy a (b + 4 * d + 10) ∧ Ev (fun k => spec_l1Cur_park.l0 k l (d : Int) code at_ seed) (r, a, s)
 | 0, l, at_, seed, b, hd, hl, hr, hb => by
  obtain ⟨w, a1, s1, e1, w0, w1, r1⟩ := zq81 code hc at_ seed 20 b hr (by omega)
  by_cases c0 : w = 0
  ·obtain ⟨x, a2, s2, e2, x0, r2⟩ := zq82 code hc a1 s1 [-1, 0, (l.length : Int), wrap64 ((l.length : Int) + 1), 99, 100] (by simp) (b + 2) r1 (by omega)
   refine ⟨l ++ [x], a2, s2, by simp, r2.mono (by omega), Ev.ret fun k => ?_⟩
   rw [spec_l1Cur_park.l0, if_neg (by omega), e1, Option.bind_some, if_pos c0, e2, Option.bind_some, if_pos (by omega)]
  ·by_cases c1 : w = 1
   ·by_cases c2 : (l.length : Int) > 0
    ·obtain ⟨x, a2, s2, e2, x0, x1, r2⟩ := zq81 code hc a1 s1 (l.length : Int) (b + 2) r1 (by omega)
     obtain ⟨y, a3, s3, e3, y0, y1, r3⟩ := zq81 code hc a2 s2 (l.length : Int) (b + 2 + 2) r2 (by omega)
     refine ⟨l.set x.toNat y, a3, s3, by rw [List.length_set]; omega, r3.mono (by omega), Ev.ret fun k => ?_⟩
     rw [spec_l1Cur_park.l0, if_neg (by omega), e1, Option.bind_some, if_neg c0, if_pos c1, if_pos c2, e2, Option.bind_some]
     simp only [e3, Option.bind_some]
     rw [if_pos x0, if_pos (by omega)]
    ·refine ⟨l, a1, s1, by omega, r1.mono (by omega), Ev.ret fun k => ?_⟩
     rw [spec_l1Cur_park.l0, if_neg (by omega), e1, Option.bind_some, if_neg c0, if_pos c1, if_neg c2]
   ·by_cases c2 : w = 2
    ·obtain ⟨r, h1, h2⟩ := park_l1 code a1 s1 (9 - l.length) l (by omega) (by omega)
     refine ⟨r, a1, s1, by omega, r1.mono (by omega), Ev.step (fun k => ?_) h2⟩
     rw [spec_l1Cur_park.l0, if_neg (by omega), e1, Option.bind_some, if_neg c0, if_neg c1, if_pos c2]
    ·refine ⟨l, a1, s1, by omega, r1.mono (by omega), Ev.ret fun k => ?_⟩
     rw [spec_l1Cur_park.l0, if_neg (by omega), e1, Option.bind_some, if_neg c0, if_neg c1, if_neg c2]
 | d + 1, l, at_, seed, b, hd, hl, hr, hb => by
  obtain ⟨x, a1, s1, e1, x0, x1, r1⟩ := zq81 code hc at_ seed ((l.length : Int) + 1) b hr (by omega)
  obtain ⟨y, a2, s2, e2, y0, y1, r2⟩ := zq81 code hc a1 s1 ((l.length : Int) + 1) (b + 2) r1 (by omega)
  obtain ⟨r, a, s, h1, h2, h3⟩ := park_l0 code hc d (l.take y.toNat ++ [x] ++ l.drop y.toNat) a2 s2 (b + 2 + 2) (by omega) (by simp; omega) r2 (by omega)
  have hlen : (l.take y.toNat ++ [x] ++ l.drop y.toNat).length = l.length + 1 := by simp; omega
  refine ⟨r, a, s, by omega, h2.mono (by omega), Ev.step (fun k => ?_) h3⟩
  show spec_l1Cur_park.l0 (k + 1) l ((d + 1 : Nat) : Int) code at_ seed = _
  have ho : spec_l1Own.f (l.take y.toNat) = some (l.take y.toNat) := zq83 _ (by simp; omega)
  have w1 : wrap64 ((l.length : Int) + 1) = (l.length : Int) + 1 := w64 (by omega) (by omega)
  have w2 : wrap64 (((d + 1 : Nat) : Int) - 1) = (d : Int) := by rw [w64 (by omega) (by omega)]; omega
  rw [spec_l1Cur_park.l0, if_pos (by omega), w1, w2, e1, Option.bind_some]
  simp only [e2, Option.bind_some]
  rw [if_pos y0, if_pos (by omega), ho, Option.bind_some, if_pos (by simp; omega), if_pos (by simp; omega)]
theorem zq84 (code : List Int) (hc : ∀ x ∈ code, 0 ≤ x ∧ x ≤ 255) (at_ seed : Int) (most : Nat) (hm : most ≤ 100) (b : Int) (h : Rdy at_ b) (hb : b ≤ 10000) :
  ∃ (r : List Int) (a s : Int), r.length ≤ 200 ∧ Rdy a (b + 1000) ∧ Ev (fun k => spec_l1Cur_park.f k code at_ seed (most : Int)) (r, a, s) := by
 obtain ⟨n, a1, s1, e1, n0, n1, r1⟩ := zq81 code hc at_ seed ((most : Int) + 1) b h (by omega)
 obtain ⟨r, a, s, h1, h2, h3⟩ := park_l0 code hc n.toNat [] a1 s1 (b + 2) (by omega) (by simp; omega) r1 (by omega)
 rw [show ((n.toNat : Nat) : Int) = n by omega] at h2 h3
 simp only [List.length_nil] at h1
 refine ⟨r, a, s, by omega, h2.mono (by omega), Ev.congr (fun k => ?_) h3⟩
 show spec_l1Cur_park.f k code at_ seed (most : Int) = _
 rw [spec_l1Cur_park.f, w64 (by omega) (by omega), e1, Option.bind_some]

theorem zq85 (code : List Int) (hc : ∀ x ∈ code, 0 ≤ x ∧ x ≤ 255) : ∀ (d : Nat) (l : List Int) (last at_ seed b : Int), d ≤ 1000 → l.length + d ≤ 2000 → -1 ≤ last → last ≤ l.length → (∀ x ∈ l, 0 ≤ x ∧ x ≤ l.length) → Rdy at_ b → b + 4 * d ≤ 100000 →
  ∃ (r : List Int) (a s : Int), r.length ≤ l.length + d + 10 ∧ Rdy a (b + 4 * d + 10) ∧ Ev (fun k => spec_l1Cur_heights.l0 k l last (d : Int) code at_ seed) (r, a, s)
 | 0, l, last, at_, seed, b, hd, hl, h0, h1, hm, hr, hb => by
  obtain ⟨w, a1, s1, e1, w0, w1, r1⟩ := zq81 code hc at_ seed 14 b hr (by omega)
  by_cases c0 : w = 0
  ·obtain ⟨x, a2, s2, e2, x0, x1, r2⟩ := zq81 code hc a1 s1 4 (b + 2) r1 (by omega)
   refine ⟨l ++ [wrap64 (x - 1)], a2, s2, by simp, r2.mono (by omega), Ev.ret fun k => ?_⟩
   rw [spec_l1Cur_heights.l0, if_neg (by omega), e1, Option.bind_some, if_pos c0, e2, Option.bind_some, if_pos (by omega)]
  ·by_cases c1 : w = 1
   ·obtain ⟨x, a2, s2, e2, x0, x1, r2⟩ := zq81 code hc a1 s1 2 (b + 2) r1 (by omega)
    have hw : wrap64 (8 + x) = 8 + x := w64 (by omega) (by omega)
    refine ⟨List.replicate (8 + x).toNat 0, a2, s2, by rw [List.length_replicate]; omega, r2.mono (by omega), Ev.ret fun k => ?_⟩
    rw [spec_l1Cur_heights.l0, if_neg (by omega), e1, Option.bind_some, if_neg c0, if_pos c1, e2, Option.bind_some]
    simp only [hw]
    rw [if_pos (by omega), if_pos (by omega)]
   ·refine ⟨l, a1, s1, by omega, r1.mono (by omega), Ev.ret fun k => ?_⟩
    rw [spec_l1Cur_heights.l0, if_neg (by omega), e1, Option.bind_some, if_neg c0, if_neg c1]
 | d + 1, l, last, at_, seed, b, hd, hl, h0, h1, hm, hr, hb => by
  obtain ⟨v, a1, s1, e1, v0, v1, r1⟩ := zq81 code hc at_ seed (last + 2) b hr (by omega)
  obtain ⟨y, a2, s2, e2, y0, y1, r2⟩ := zq81 code hc a1 s1 4 (b + 2) r1 (by omega)
  have e3 : spec_l1Cur_one.f code a1 s1 4 = some ((y == 0), a2, s2) := by rw [spec_l1Cur_one.f, e2, Option.bind_some]
  have w2 : wrap64 (((d + 1 : Nat) : Int) - 1) = (d : Int) := by rw [w64 (by omega) (by omega)]; omega
  have w1 : wrap64 (last + 2) = last + 2 := w64 (by omega) (by omega)
  have plain : ∃ (r : List Int) (a s : Int), r.length ≤ l.length + (d + 1) + 10 ∧ Rdy a (b + 4 * ((d + 1 : Nat) : Int) + 10) ∧ Ev (fun k => spec_l1Cur_heights.l0 k (l ++ [v]) v (d : Int) code a2 s2) (r, a, s) := by
   obtain ⟨r, a, s, h5, h6, h7⟩ := zq85 code hc d (l ++ [v]) v a2 s2 (b + 2 + 2) (by omega) (by simp; omega) (by omega) (by simp; omega) (fun x hx => by
    rw [List.length_append, List.length_singleton]
    rcases List.mem_append.1 hx with h | h
    ·have := hm x h; omega
    ·have := List.mem_singleton.1 h; omega) r2 (by omega)
   rw [List.length_append, List.length_singleton] at h5
   exact ⟨r, a, s, by omega, h6.mono (by omega), h7⟩
  by_cases c : y = 0
  ·have hy : (y == 0) = true := by simpa using c
   by_cases cl : (l.length : Int) > 0
   ·have wl : wrap64 ((l.length : Int) - 1) = (l.length : Int) - 1 := w64 (by omega) (by omega)
    have hx := hm (rd l ((l.length : Int) - 1)) (by
     unfold rd
     rw [List.getD_eq_getElem?_getD, List.getElem?_eq_getElem (by omega)]
     exact List.getElem_mem _)
    obtain ⟨q, hq⟩ : ∃ q, q = rd l ((l.length : Int) - 1) := ⟨_, rfl⟩
    rw [← hq] at hx
    have wq : wrap64 (q + 1) = q + 1 := w64 (by omega) (by omega)
    obtain ⟨r, a, s, h5, h6, h7⟩ := zq85 code hc d (l ++ [q + 1]) (q + 1) a2 s2 (b + 2 + 2) (by omega) (by simp; omega) (by omega) (by simp; omega) (fun x hx => by
     rw [List.length_append, List.length_singleton]
     rcases List.mem_append.1 hx with h | h
     ·have := hm x h; omega
     ·have := List.mem_singleton.1 h; omega) r2 (by omega)
    rw [List.length_append, List.length_singleton] at h5
    refine ⟨r, a, s, by omega, h6.mono (by omega), Ev.step (fun k => ?_) h7⟩
    show spec_l1Cur_heights.l0 (k + 1) l last ((d + 1 : Nat) : Int) code at_ seed = _
    rw [spec_l1Cur_heights.l0, if_pos (by omega), w1, w2, e1, Option.bind_some]
    simp only [e3, Option.bind_some]
    rw [hy, if_pos rfl, if_pos cl, wl, if_pos (by omega), if_pos (by omega), if_pos (by omega), ← hq, wq]
   ·obtain ⟨r, a, s, h5, h6, h7⟩ := plain
    refine ⟨r, a, s, by omega, h6, Ev.step (fun k => ?_) h7⟩
    show spec_l1Cur_heights.l0 (k + 1) l last ((d + 1 : Nat) : Int) code at_ seed = _
    rw [spec_l1Cur_heights.l0, if_pos (by omega), w1, w2, e1, Option.bind_some]
    simp only [e3, Option.bind_some]
    rw [hy, if_pos rfl, if_neg cl, if_pos (by omega)]
  ·have hy : (y == 0) = false := by simpa using c
   obtain ⟨r, a, s, h5, h6, h7⟩ := plain
   refine ⟨r, a, s, by omega, h6, Ev.step (fun k => ?_) h7⟩
   show spec_l1Cur_heights.l0 (k + 1) l last ((d + 1 : Nat) : Int) code at_ seed = _
   rw [spec_l1Cur_heights.l0, if_pos (by omega), w1, w2, e1, Option.bind_some]
   simp only [e3, Option.bind_some]
   rw [hy, if_neg (by simp), if_pos (by omega)]
theorem zq86 (code : List Int) (hc : ∀ x ∈ code, 0 ≤ x ∧ x ≤ 255) (at_ seed : Int) (most : Nat) (hm : most ≤ 100) (b : Int) (h : Rdy at_ b) (hb : b ≤ 10000) :
  ∃ (r : List Int) (a s : Int), r.length ≤ 200 ∧ Rdy a (b + 1000) ∧ Ev (fun k => spec_l1Cur_heights.f k code at_ seed (most : Int)) (r, a, s) := by
 obtain ⟨n, a1, s1, e1, n0, n1, r1⟩ := zq81 code hc at_ seed ((most : Int) + 1) b h (by omega)
 obtain ⟨r, a, s, h1, h2, h3⟩ := zq85 code hc n.toNat [] (-1) a1 s1 (b + 2) (by omega) (by simp; omega) (by omega) (by simp) (by simp) r1 (by omega)
 rw [show ((n.toNat : Nat) : Int) = n by omega] at h2 h3
 simp only [List.length_nil] at h1
 refine ⟨r, a, s, by omega, h2.mono (by omega), Ev.congr (fun k => ?_) h3⟩
 show spec_l1Cur_heights.f k code at_ seed (most : Int) = _
 rw [spec_l1Cur_heights.f, w64 (by omega) (by omega), e1, Option.bind_some]

def seek (out : List Int) : Nat → Int → Int
 | 0, _ => -1
 | d + 1, x => if x ∈ out then seek out d (x + 1) else x
def driveS (places : Int) (out : List Int) : List Int → List Int
 | [] => out
 | c :: t => driveS places (out ++ [seek out (places - c).toNat c]) t
theorem zq87 (places : Int) : ∀ (t out : List Int), ∃ s, s.length = t.length ∧ driveS places out t = out ++ s
 | [], out => ⟨[], rfl, by simp [driveS]⟩
 | c :: t, out => by
  obtain ⟨s, hl, h⟩ := zq87 places t (out ++ [seek out (places - c).toNat c])
  exact ⟨seek out (places - c).toNat c :: s, by simp [hl], by rw [driveS, h]; simp⟩
theorem zq88 (places : Int) (t out : List Int) : (driveS places out t).length = out.length + t.length := by
 obtain ⟨s, hl, h⟩ := zq87 places t out
 rw [h]; simp [hl]
def Tk (places : Int) (out : List Int) (taken : List Bool) : Prop :=
 (taken.length : Int) = places ∧ ∀ j : Nat, (j : Int) < places → taken.getD j false = decide ((j : Int) ∈ out)
theorem Tk.at {places : Int} {out : List Int} {taken : List Bool} (h : Tk places out taken) (x : Int) (h0 : 0 ≤ x) (h1 : x < places) : rdOf false taken x = decide (x ∈ out) := by
 have := h.2 x.toNat (by omega)
 have e : ((x.toNat : Nat) : Int) = x := by omega
 rw [e] at this
 exact this
theorem Tk.take {places : Int} {out : List Int} {taken : List Bool} (h : Tk places out taken) (x : Int) (h0 : 0 ≤ x) (h1 : x < places) : Tk places (out ++ [x]) (taken.set x.toNat true) := by
 refine ⟨by simp [h.1], fun j hj => ?_⟩
 have hl := h.1
 have hx : x.toNat < taken.length := by omega
 have hjl : j < taken.length := by omega
 have e := h.2 j hj
 rw [List.getD_eq_getElem?_getD] at e ⊢
 by_cases c : x.toNat = j
 ·rw [c, List.getElem?_set_self (by omega)]
  have : (j : Int) ∈ out ++ [x] := by simp; right; omega
  simp [this]
 ·rw [List.getElem?_set_ne c, e]
  refine decide_eq_decide.2 ?_
  have : (j : Int) ≠ x := by omega
  simp [this]
theorem Tk.none (places : Int) (h0 : 0 ≤ places) : Tk places [] (List.replicate places.toNat false) := by
 refine ⟨by simp; omega, fun j hj => ?_⟩
 rw [List.getD_eq_getElem?_getD, List.getElem?_replicate]
 split <;> simp

def pf (l : List Int) : Bool := decide (l.length ≤ 8) && (inAll 0 ((l.length : Int) - 1) l && !(decide ((-1 : Int) ∈ driveS l.length [] l)))
theorem pf_iff (l : List Int) : pf l = true ↔ l.length ≤ 8 ∧ (∀ x ∈ l, 0 ≤ x ∧ x ≤ (l.length : Int) - 1) ∧ (-1 : Int) ∉ driveS l.length [] l := by
 simp only [pf, Bool.and_eq_true, decide_eq_true_eq, zq22, Bool.not_eq_true', decide_eq_false_iff_not]
theorem zq89 (places : Int) : ∀ (t out : List Int), (∃ c ∈ t, places ≤ c) → (-1 : Int) ∈ driveS places out t
 | [], out, h => by obtain ⟨c, hc, _⟩ := h; cases hc
 | c :: t, out, h => by
  rw [driveS]
  by_cases d : places ≤ c
  ·rw [show (places - c).toNat = 0 by omega]
   obtain ⟨s, _, hs⟩ := zq87 places t (out ++ [seek out 0 c])
   rw [hs]
   simp [seek]
  ·refine zq89 places t _ ?_
   obtain ⟨x, hx, h1⟩ := h
   rcases List.mem_cons.1 hx with rfl | h2
   ·exact absurd h1 d
   ·exact ⟨x, h2, h1⟩

theorem zq90 (places : Int) (cars : List Int) (n i : Int) (out : List Int) (ho : out.length ≤ 1000) (r : List Int) : ∀ (d : Nat) (x : Int), x + d = places → 0 ≤ x → places ≤ 1000 →
  Ev (fun k => spec_paDrive.l0 k places (out ++ [seek out d x]) cars n (wrap64 (i + 1))) r → Ev (fun k => spec_paDrive.l1 k places out x cars n i) r
 | 0, x, hx, h0, hp, h => by
  refine Ev.step (fun k => ?_) h
  show spec_paDrive.l1 (k + 1) places out x cars n i = _
  rw [spec_paDrive.l1, if_neg (by omega), if_pos (by omega), if_pos (by omega)]
  rfl
 | d + 1, x, hx, h0, hp, h => by
  by_cases c : x ∈ out
  ·have ih := zq90 places cars n i out ho r d (x + 1) (by omega) (by omega) hp (by rw [seek, if_pos c] at h; exact h)
   refine Ev.step (f := fun k => (spec_l1Has.f k out x).bind fun t => if t = true then spec_paDrive.l1 k places out (wrap64 (x + 1)) cars n i else if x ≥ places then if out.length < 17592186044416 then spec_paDrive.l0 k places (out ++ [-1]) cars n (wrap64 (i + 1)) else none else if out.length < 17592186044416 then spec_paDrive.l0 k places (out ++ [x]) cars n (wrap64 (i + 1)) else none) (fun k => ?_) ?_
   ·rw [spec_paDrive.l1, if_pos (by omega)]
   ·refine Ev.bind (zq48 out x (by omega)) ?_
    rw [decide_eq_true c, w64 (by omega) (by omega)]
    exact ih
  ·refine Ev.step (f := fun k => (spec_l1Has.f k out x).bind fun t => if t = true then spec_paDrive.l1 k places out (wrap64 (x + 1)) cars n i else if x ≥ places then if out.length < 17592186044416 then spec_paDrive.l0 k places (out ++ [-1]) cars n (wrap64 (i + 1)) else none else if out.length < 17592186044416 then spec_paDrive.l0 k places (out ++ [x]) cars n (wrap64 (i + 1)) else none) (fun k => ?_) ?_
   ·rw [spec_paDrive.l1, if_pos (by omega)]
   ·refine Ev.bind (zq48 out x (by omega)) ?_
    rw [decide_eq_false c]
    rw [seek, if_neg c] at h
    refine Ev.congr (fun k => ?_) h
    show (if false = true then _ else _) = _
    rw [if_neg (by simp), if_neg (by omega), if_pos (by omega)]
theorem zq91 (places : Int) (hp : places ≤ 1000) : ∀ (t p out : List Int), (∀ c ∈ t, 0 ≤ c ∧ c ≤ places) → p.length + t.length ≤ 500 → out.length + t.length ≤ 500 →
  Ev (fun k => spec_paDrive.l0 k places out (p ++ t) ((p ++ t).length : Int) (p.length : Int)) (driveS places out t)
 | [], p, out, _, _, _ => by
  refine Ev.ret fun k => ?_
  rw [spec_paDrive.l0, if_neg (by simp)]
  rfl
 | c :: t, p, out, hc, hn, ho => by
  have hn' : p.length + t.length + 1 ≤ 500 := by simpa [Nat.add_assoc] using hn
  have ho' : out.length + t.length + 1 ≤ 500 := by simpa [Nat.add_assoc] using ho
  have hm := len_mid p c t
  have h0 := hc c (by simp)
  have ih := zq91 places hp t (p ++ [c]) (out ++ [seek out (places - c).toNat c]) (fun x hx => hc x (by simp [hx])) (by simp; omega) (by simp; omega)
  rw [zq1, zq0] at ih
  refine Ev.step (fun k => ?_) (zq90 places (p ++ c :: t) ((p ++ c :: t).length : Int) (p.length : Int) out (by omega) _ (places - c).toNat c (by omega) (by omega) hp ?_)
  ·show spec_paDrive.l0 (k + 1) places out (p ++ c :: t) ((p ++ c :: t).length : Int) (p.length : Int) = _
   rw [spec_paDrive.l0, if_pos (by omega), if_pos (by omega), if_pos (by omega), rd_mid]
  ·rw [w64 (by omega) (by omega)]
   exact ih
theorem zq92 (l : List Int) (places : Int) (hp : places ≤ 1000) (hl : l.length ≤ 500) (hc : ∀ c ∈ l, 0 ≤ c ∧ c ≤ places) : Ev (fun k => spec_paDrive.f k l places) (driveS places [] l) :=
 zq91 places hp l [] [] hc (by simpa using hl) (by simpa using hl)

theorem zq93 (l : List Int) (hl : l.length ≤ 35184372088832) : Ev (fun k => spec_paParking.f k l) (pf l) := by
 by_cases c8 : l.length ≤ 8
 ·refine Ev.congr (fun k => by rw [spec_paParking.f, if_pos (by omega), w64 (by omega) (by omega)]) ?_
  refine Ev.bind (zq46 l 0 ((l.length : Int) - 1) hl) ?_
  cases c : inAll 0 ((l.length : Int) - 1) l with
  | false =>
   have e : pf l = false := by simp [pf, c]
   rw [e]
   exact Ev.congr (fun k => by rw [if_neg (by simp)]) (Ev.now false)
  | true =>
   have hp := (zq22 _ _ _).1 c
   have e : pf l = !(decide ((-1 : Int) ∈ driveS l.length [] l)) := by simp [pf, c, c8]
   rw [e]
   refine Ev.congr (fun k => by rw [if_pos rfl]) ?_
   refine Ev.bind (a := !(decide ((-1 : Int) ∈ driveS l.length [] l))) ?_ (Ev.now _)
   refine Ev.congr (fun k => rfl) (Ev.bind (zq92 l l.length (by omega) (by omega) (fun x hx => by have := hp x hx; omega)) ?_)
   exact Ev.bind (zq48 _ (-1) (by rw [zq88]; simp; omega)) (Ev.now _)
 ·have e : pf l = false := by simp [pf, c8]
  rw [e]
  exact Ev.congr (fun k => by rw [spec_paParking.f, if_neg (by omega)]) (Ev.now false)

def cnt (q : Int → Bool) : List Int → Int
 | [] => 0
 | h :: t => (if q h = true then 1 else 0) + cnt q t
theorem zq94 (q : Int → Bool) : ∀ l : List Int, 0 ≤ cnt q l ∧ cnt q l ≤ l.length
 | [] => by simp [cnt]
 | h :: t => by
  have := zq94 q t
  have e : ((h :: t).length : Int) = (t.length : Int) + 1 := by simp
  simp only [cnt]
  rw [e]
  split <;> omega
def places (q : Int → Bool) : List Int → Int → List Int
 | [], _ => []
 | h :: t, i => if q h = true then i :: places q t (i + 1) else places q t (i + 1)
theorem zq95 (q : Int → Bool) : ∀ (l : List Int) (i : Int), ((places q l i).length : Int) = cnt q l
 | [], i => by simp [places, cnt]
 | h :: t, i => by
  rw [places, cnt]
  have := zq95 q t (i + 1)
  split
  ·simp; omega
  ·omega
def wadd (f : Int) : List Int → List Int → List Int → List Int × List Int
 | [], H, L => (H, L)
 | c :: t, H, L => wadd f t (H ++ [(L.length : Int) - f]) (L ++ [c])
theorem zq96 (f : Int) : ∀ (t H L : List Int), (wadd f t H L).1.length = H.length + t.length ∧ (wadd f t H L).2.length = L.length + t.length
 | [], H, L => by simp [wadd]
 | c :: t, H, L => by
  have ih := zq96 f t (H ++ [(L.length : Int) - f]) (L ++ [c])
  simp only [wadd, List.length_append, List.length_cons, List.length_nil] at ih ⊢
  omega
def cars (l : List Int) (k : Int) : List Int := places (fun x => decide (x = k)) l 0
theorem zq97 (l : List Int) (k : Int) : (cars l k).length ≤ l.length := by
 have a := zq95 (fun x => decide (x = k)) l 0
 have b := (zq94 (fun x => decide (x = k)) l).2
 unfold cars
 omega
def walkS (l : List Int) : Nat → Nat → List Int → List Int → List Int × List Int
 | 0, _, H, L => (H, L)
 | d + 1, k, H, L => walkS l d (k + 1) (wadd k (cars l k) H L).1 (wadd k (cars l k) H L).2
theorem zq98 (l : List Int) : ∀ (d k : Nat) (H L : List Int), (walkS l d k H L).1.length ≤ H.length + l.length * d ∧ (walkS l d k H L).2.length ≤ L.length + l.length * d
 | 0, k, H, L => by simp [walkS]
 | d + 1, k, H, L => by
  have ih := zq98 l d (k + 1) (wadd k (cars l k) H L).1 (wadd k (cars l k) H L).2
  have h1 := zq96 k (cars l k) H L
  have h2 := zq97 l k
  rw [Nat.mul_add, Nat.mul_one]
  rw [walkS]
  omega

theorem zq99 (l : List Int) (f : Nat) (hf : f ≤ 1000) (r : List Int × List Int) : ∀ (t p H L : List Int), p.length + t.length ≤ 100 → H.length ≤ 1000 + p.length → L.length ≤ 1000 + p.length →
  Ev (fun k => spec_waOf.l0 k l (l.length : Int) ((f : Int) + 1) (wadd f (places (fun x => decide (x = (f : Int))) t p.length) H L).1 (wadd f (places (fun x => decide (x = (f : Int))) t p.length) H L).2) r →
  Ev (fun k => spec_waOf.l1 k l (f : Int) (l.length : Int) (f : Int) (p ++ t) ((p ++ t).length : Int) (p.length : Int) H L) r
 | [], p, H, L, hn, h1, h2, h => by
  refine Ev.step (fun k => ?_) h
  show spec_waOf.l1 (k + 1) l (f : Int) (l.length : Int) (f : Int) (p ++ []) ((p ++ []).length : Int) (p.length : Int) H L = _
  rw [spec_waOf.l1, if_neg (by simp), w64 (by omega) (by omega)]
  rfl
 | x :: t, p, H, L, hn, h1, h2, h => by
  have hn' : p.length + t.length + 1 ≤ 100 := by simpa [Nat.add_assoc] using hn
  have hm := len_mid p x t
  by_cases c : x = (f : Int)
  ·rw [places, if_pos (by simpa using c), wadd] at h
   have ih := zq99 l f hf r t (p ++ [x]) (H ++ [(L.length : Int) - f]) (L ++ [(p.length : Int)]) (by simp; omega) (by simp; omega) (by simp; omega)
   rw [zq1 p x t, zq0 p x] at ih
   refine Ev.step (fun k => ?_) (ih h)
   show spec_waOf.l1 (k + 1) l (f : Int) (l.length : Int) (f : Int) (p ++ x :: t) ((p ++ x :: t).length : Int) (p.length : Int) H L = _
   rw [spec_waOf.l1, if_pos (by omega), if_pos (by omega), if_pos (by omega), rd_mid, if_pos c.symm, if_pos (by omega), if_pos (by omega), w64 (by omega) (by omega), w64 (by omega) (by omega)]
  ·rw [places, if_neg (by simpa using c)] at h
   have ih := zq99 l f hf r t (p ++ [x]) H L (by simp; omega) (by simp; omega) (by simp; omega)
   rw [zq1 p x t, zq0 p x] at ih
   refine Ev.step (fun k => ?_) (ih h)
   show spec_waOf.l1 (k + 1) l (f : Int) (l.length : Int) (f : Int) (p ++ x :: t) ((p ++ x :: t).length : Int) (p.length : Int) H L = _
   rw [spec_waOf.l1, if_pos (by omega), if_pos (by omega), if_pos (by omega), rd_mid, if_neg (fun e => c e.symm), w64 (by omega) (by omega)]
theorem zq100 (l : List Int) (hl : l.length ≤ 8) : ∀ (d k : Nat) (H L : List Int), k + d = l.length → H.length ≤ 10 * k → L.length ≤ 10 * k →
  Ev (fun kk => spec_waOf.l0 kk l (l.length : Int) (k : Int) H L) (walkS l d k H L)
 | 0, k, H, L, hk, h1, h2 => by
  refine Ev.ret fun kk => ?_
  rw [spec_waOf.l0, if_neg (by omega)]
  rfl
 | d + 1, k, H, L, hk, h1, h2 => by
  have h3 := zq96 k (cars l k) H L
  have h4 := zq97 l k
  have ih := zq100 l hl d (k + 1) (wadd k (cars l k) H L).1 (wadd k (cars l k) H L).2 (by omega) (by omega) (by omega)
  rw [show ((k + 1 : Nat) : Int) = (k : Int) + 1 by omega] at ih
  refine Ev.step (f := fun kk => spec_waOf.l1 kk l (k : Int) (l.length : Int) (k : Int) l (l.length : Int) 0 H L) (fun kk => ?_) ?_
  ·rw [spec_waOf.l0, if_pos (by omega)]
  ·exact zq99 l k (by omega) _ l [] H L (by simp; omega) (by simp; omega) (by simp; omega) ih
theorem zq101 (l : List Int) (hl : l.length ≤ 8) : Ev (fun k => spec_waOf.f k l) (walkS l l.length 0 [] []) :=
 zq100 l hl l.length 0 [] [] (by omega) (by simp) (by simp)

theorem zq102 (code : List Int) (hc : ∀ x ∈ code, 0 ≤ x ∧ x ≤ 255) (most : Nat) (hm : most ≤ 100) : ∃ (H L : List Int) (a s : Int), H.length ≤ 1000 ∧ L.length ≤ 1000 ∧ Rdy a 5000 ∧ Ev (fun k => spec_l1Cur_walk.f k code 0 0 (most : Int)) (H, L, a, s) := by
 obtain ⟨r, a1, s1, h1, r1, e1⟩ := zq84 code hc 0 0 most hm 0 ⟨by omega, by omega⟩ (by omega)
 cases c : pf r with
 | false =>
  obtain ⟨H, a2, s2, h2, r2, e2⟩ := zq86 code hc a1 s1 most hm (0 + 1000) r1 (by omega)
  refine ⟨H, r, a2, s2, by omega, by omega, r2.mono (by omega), ?_⟩
  refine Ev.congr (fun k => by rw [spec_l1Cur_walk.f]) ?_
  refine Ev.bind e1 (Ev.bind (zq93 r (by omega)) ?_)
  rw [c]
  refine Ev.congr (fun k => by rw [if_neg (by simp)]) ?_
  exact Ev.bind e2 (Ev.now _)
 | true =>
  obtain ⟨h8, _, _⟩ := (pf_iff r).1 c
  have hw := zq98 r r.length 0 [] []
  have hq : r.length * r.length ≤ 8 * 8 := Nat.mul_le_mul h8 h8
  simp only [List.length_nil] at hw
  obtain ⟨v, a2, s2, e2, v0, v1, r2⟩ := zq81 code hc a1 s1 14 (0 + 1000) r1 (by omega)
  obtain ⟨H, L, hW⟩ : ∃ H L, walkS r r.length 0 [] [] = (H, L) := ⟨_, _, rfl⟩
  have ew := zq101 r h8
  rw [hW] at ew hw
  have hH : H.length ≤ 100 := by have := hw; simp only at this; omega
  have hL : L.length ≤ 100 := by have := hw; simp only at this; omega
  have go : ∀ res : List Int × List Int × Int × Int, Ev (fun k => if v = 0 then (if (L.length : Int) > 1 then ((spec_l1Cur_pick.f code a2 s2 (wrap64 ((L.length : Int) - 1))).bind fun bt257 => (if 0 ≤ bt257.1 then (if bt257.1 < (L.length : Int) then (if 0 ≤ (wrap64 (bt257.1 + 1)) then (if (wrap64 (bt257.1 + 1)) < (L.length : Int) then (some (H, ((L.set (bt257.1 : Int).toNat (rd L (wrap64 (bt257.1 + 1)))).set ((wrap64 (bt257.1 + 1)) : Int).toNat (rd L bt257.1)), bt257.2.1, bt257.2.2)) else (none)) else (none)) else (none)) else (none))) else (some (H, L, a2, s2))) else (if v = 1 then (if L.length < 17592186044416 then (some (H, (L ++ [(L.length : Int)]), a2, s2)) else (none)) else (some (H, L, a2, s2)))) res → Ev (fun k => spec_l1Cur_walk.f k code 0 0 (most : Int)) res := by
   intro res hres
   refine Ev.congr (fun k => by rw [spec_l1Cur_walk.f]) ?_
   refine Ev.bind e1 (Ev.bind (zq93 r (by omega)) ?_)
   rw [c]
   refine Ev.congr (fun k => by rw [if_pos rfl]) (Ev.bind ew ?_)
   refine Ev.congr (fun k => ?_) hres
   show (spec_l1Cur_pick.f code a1 s1 14).bind _ = _
   rw [e2, Option.bind_some]
  by_cases c0 : v = 0
  ·by_cases c1 : (L.length : Int) > 1
   ·obtain ⟨i, a3, s3, e3, i0, i1, r3⟩ := zq81 code hc a2 s2 (wrap64 ((L.length : Int) - 1)) (0 + 1000 + 2) r2 (by omega)
    have hw1 : wrap64 ((L.length : Int) - 1) = (L.length : Int) - 1 := w64 (by omega) (by omega)
    have hi : i < (L.length : Int) - 1 := by rw [hw1] at i1; omega
    have hw2 : wrap64 (i + 1) = i + 1 := w64 (by omega) (by omega)
    refine ⟨H, _, a3, s3, by omega, ?_, r3.mono (by omega), go (_, _, _, _) (Ev.congr (fun k => by rw [if_pos c0, if_pos c1, e3, Option.bind_some]; simp only [hw2]; rw [if_pos i0, if_pos (by omega), if_pos (by omega), if_pos (by omega)]) (Ev.now _))⟩
    simp only [List.length_set]
    omega
   ·exact ⟨H, L, a2, s2, by omega, by omega, r2.mono (by omega), go _ (Ev.congr (fun k => by rw [if_pos c0, if_neg c1]) (Ev.now _))⟩
  ·by_cases c1 : v = 1
   ·exact ⟨H, L ++ [(L.length : Int)], a2, s2, by omega, by simp; omega, r2.mono (by omega), go _ (Ev.congr (fun k => by rw [if_neg c0, if_pos c1, if_pos (by omega)]) (Ev.now _))⟩
   ·exact ⟨H, L, a2, s2, by omega, by omega, r2.mono (by omega), go _ (Ev.congr (fun k => by rw [if_neg c0, if_neg c1]) (Ev.now _))⟩
theorem zq103 (code : List Int) (hc : ∀ x ∈ code, 0 ≤ x ∧ x ≤ 255) : ∃ (H L : List Int) (a s : Int), H.length ≤ 1000 ∧ L.length ≤ 1000 ∧ Ev (fun k => spec_l1Cur_walk.f k code 0 0 8) (H, L, a, s) := by
 obtain ⟨H, L, a, s, h1, h2, _, h4⟩ := zq102 code hc 8 (by omega)
 exact ⟨H, L, a, s, h1, h2, h4⟩

theorem zq104 (code : List Int) (hc : ∀ x ∈ code, 0 ≤ x ∧ x ≤ 255) (at_ seed n : Int) (b : Int) (h : Rdy at_ b) (hb : b ≤ 100000000000) :
  ∃ v a s, spec_l1Cur_one.f code at_ seed n = some (v, a, s) ∧ Rdy a (b + 2) := by
 obtain ⟨v, a, s, e, -, -, h2⟩ := zq81 code hc at_ seed n b h hb
 unfold spec_l1Cur_one.f
 rw [e, Option.bind_some]
 exact ⟨_, _, _, rfl, h2⟩
def W7 : ByteArray := ⟨#[48, 49, 50, 51, 44, 58, 45]⟩
theorem ext_le (t : ByteArray) (a b : Nat) : (t.extract a b).size ≤ b - a ∧ (t.extract a b).size ≤ t.size - a := by
 rw [ByteArray.size_extract]
 omega
theorem zq105 (W : ByteArray) (n : Int) (hW : (W.size : Int) = n) (hn1 : 1 ≤ n) (hn2 : n ≤ 100) (code : List Int) (hc : ∀ x ∈ code, 0 ≤ x ∧ x ≤ 255) : ∀ (d : Nat) (t : ByteArray) (a s b : Int), d ≤ 5 → t.size + d ≤ 2000 → Rdy a b → b + 6 * d ≤ 100000 →
  ∃ t' a' s', t'.size ≤ 2000 ∧ Ev (fun k => spec_l1Cur_spoilt.l0 k t W (d : Int) code a s) (t', a', s')
 | 0, t, a, s, b, _, ht, _, _ => by
  refine ⟨t, a, s, by omega, Ev.step (f := fun k => spec_l1Cur_spoilt.j1 k t W ((0 : Nat) : Int) false code a s) (fun k => by rw [spec_l1Cur_spoilt.l0, if_neg (by omega)]) ?_⟩
  exact Ev.ret fun k => by rw [spec_l1Cur_spoilt.j1, if_neg (by simp)]
 | d + 1, t, a, s, b, hd, ht, hr, hb => by
  by_cases c0 : (t.size : Int) > 0
  ·obtain ⟨i, a1, s1, e1, i0, i1, r1⟩ := zq81 code hc a s (t.size : Int) b hr (by omega)
   obtain ⟨c, a2, s2, e2, p0, p1, r2⟩ := zq81 code hc a1 s1 n (b + 2) r1 (by omega)
   obtain ⟨v, a3, s3, e3, v0, v1, r3⟩ := zq81 code hc a2 s2 3 (b + 2 + 2) r2 (by omega)
   have hi : i < (t.size : Int) := by omega
   have hcc : c < n := by omega
   have wi : wrap64 (i + 1) = i + 1 := w64 (by omega) (by omega)
   have wd : wrap64 (((d + 1 : Nat) : Int) - 1) = (d : Int) := by rw [w64 (by omega) (by omega)]; omega
   have hS : (strOfNums [bt W c]).size = 1 := rfl
   have hA := ext_le t 0 i.toNat
   have hB := ext_le t i.toNat t.size
   have hC := ext_le t (i + 1).toNat t.size
   have head : ∀ res, Ev (fun k => if v = 0 then (spec_l1Cur_spoilt.l0 k (((t.extract 0 i.toNat) ++ (strOfNums [bt W c])) ++ (t.extract i.toNat t.size)) W (d : Int) code a3 s3) else if v = 1 then (spec_l1Cur_spoilt.l0 k (((t.extract 0 i.toNat) ++ (strOfNums [bt W c])) ++ (t.extract (i + 1).toNat t.size)) W (d : Int) code a3 s3) else (spec_l1Cur_spoilt.l0 k ((t.extract 0 i.toNat) ++ (t.extract (i + 1).toNat t.size)) W (d : Int) code a3 s3)) res → Ev (fun k => spec_l1Cur_spoilt.l0 k t W ((d + 1 : Nat) : Int) code a s) res := by
    intro res hres
    refine Ev.step (f := fun k => spec_l1Cur_spoilt.j1 k t W ((d + 1 : Nat) : Int) true code a s) (fun k => by rw [spec_l1Cur_spoilt.l0, if_pos (by omega), decide_eq_true c0]) ?_
    refine Ev.step (fun k => ?_) hres
    rw [spec_l1Cur_spoilt.j1, if_pos rfl]
    simp only [e1, e2, e3, hW, Option.bind_some, wi, wd]
    rw [if_pos p0, if_pos hcc]
    by_cases z0 : v = 0
    ·rw [if_pos z0, if_pos z0, if_pos i0, if_pos (by omega), if_pos (by omega), if_pos (by rw [ByteArray.size_append]; omega)]
    ·rw [if_neg z0, if_neg z0]
     by_cases z1 : v = 1
     ·rw [if_pos z1, if_pos z1, if_pos i0, if_pos (by omega), if_pos (by omega), if_pos (by omega), if_pos (by omega), if_pos (by rw [ByteArray.size_append]; omega)]
     ·rw [if_neg z1, if_neg z1, if_pos i0, if_pos (by omega), if_pos (by omega), if_pos (by omega), if_pos (by omega)]
   by_cases z0 : v = 0
   ·obtain ⟨t', a', s', h1, h2⟩ := zq105 W n hW hn1 hn2 code hc d (((t.extract 0 i.toNat) ++ (strOfNums [bt W c])) ++ (t.extract i.toNat t.size)) a3 s3 (b + 2 + 2 + 2) (by omega) (by rw [ByteArray.size_append, ByteArray.size_append]; omega) r3 (by omega)
    exact ⟨t', a', s', h1, head _ (Ev.congr (fun k => by rw [if_pos z0]) h2)⟩
   ·by_cases z1 : v = 1
    ·obtain ⟨t', a', s', h1, h2⟩ := zq105 W n hW hn1 hn2 code hc d (((t.extract 0 i.toNat) ++ (strOfNums [bt W c])) ++ (t.extract (i + 1).toNat t.size)) a3 s3 (b + 2 + 2 + 2) (by omega) (by rw [ByteArray.size_append, ByteArray.size_append]; omega) r3 (by omega)
     exact ⟨t', a', s', h1, head _ (Ev.congr (fun k => by rw [if_neg z0, if_pos z1]) h2)⟩
    ·obtain ⟨t', a', s', h1, h2⟩ := zq105 W n hW hn1 hn2 code hc d ((t.extract 0 i.toNat) ++ (t.extract (i + 1).toNat t.size)) a3 s3 (b + 2 + 2 + 2) (by omega) (by rw [ByteArray.size_append]; omega) r3 (by omega)
     exact ⟨t', a', s', h1, head _ (Ev.congr (fun k => by rw [if_neg z0, if_neg z1]) h2)⟩
  ·refine ⟨t, a, s, by omega, Ev.step (f := fun k => spec_l1Cur_spoilt.j1 k t W ((d + 1 : Nat) : Int) false code a s) (fun k => by rw [spec_l1Cur_spoilt.l0, if_pos (by omega), decide_eq_false c0]) ?_⟩
   exact Ev.ret fun k => by rw [spec_l1Cur_spoilt.j1, if_neg (by simp)]
theorem zq106 (W : ByteArray) (m : Int) (hW : (W.size : Int) = m) (hm1 : 1 ≤ m) (hm2 : m ≤ 100) (code : List Int) (hc : ∀ x ∈ code, 0 ≤ x ∧ x ≤ 255) (t : ByteArray) (a s b : Int) (ht : t.size ≤ 1000) (hr : Rdy a b) (hb : b ≤ 50000) :
  ∃ t' a' s', t'.size ≤ 2000 ∧ Ev (fun k => spec_l1Cur_spoilt.f k code a s t W) (t', a', s') := by
 obtain ⟨n, a1, s1, e1, n0, n1, r1⟩ := zq81 code hc a s 2 b hr (by omega)
 have wn : wrap64 (1 + n) = (((1 + n).toNat : Nat) : Int) := by rw [w64 (by omega) (by omega)]; omega
 obtain ⟨t', a', s', h1, h2⟩ := zq105 W m hW hm1 hm2 code hc (1 + n).toNat t a1 s1 (b + 2) (by omega) (by omega) r1 (by omega)
 refine ⟨t', a', s', h1, Ev.congr (fun k => ?_) h2⟩
 rw [spec_l1Cur_spoilt.f, e1, Option.bind_some]
 show spec_l1Cur_spoilt.l0 k t W (wrap64 (1 + n)) code a1 s1 = _
 rw [wn]
def L9 : List ByteArray := [(⟨#[]⟩ : ByteArray), (⟨#[58]⟩ : ByteArray), (⟨#[45, 58, 45]⟩ : ByteArray), (⟨#[48, 58, 48]⟩ : ByteArray), (⟨#[48, 58, 49]⟩ : ByteArray), (⟨#[49, 58, 48]⟩ : ByteArray), (⟨#[48, 44, 49, 58, 49, 44, 48]⟩ : ByteArray), (⟨#[48, 58, 48, 58, 48]⟩ : ByteArray), (⟨#[48, 44, 48, 58, 48]⟩ : ByteArray)]
theorem L9_size : (List.range 9).all (fun i => decide ((rdOf ByteArray.empty L9 (i : Int)).size ≤ 2000)) = true := by decide +kernel
theorem zq107 (code : List Int) (hc : ∀ x ∈ code, 0 ≤ x ∧ x ≤ 255) : ∃ t : ByteArray, t.size ≤ 2000 ∧ Ev (fun k => spec_DrawParseWalk.f k code) t := by
 obtain ⟨H, L, a, s, hH, hL, hr, eD⟩ := zq102 code hc 6 (by omega)
 cases c : goodW H L with
 | false =>
  obtain ⟨i, a1, s1, e1, i0, i1, r1⟩ := zq81 code hc a s 9 5000 hr (by omega)
  refine ⟨rdOf ByteArray.empty L9 i, ?_, Ev.bind eD (Ev.bind (zq51 H L (by omega)) ?_)⟩
  ·have h := List.all_eq_true.1 L9_size i.toNat (List.mem_range.2 (by omega))
   rw [show ((i.toNat : Nat) : Int) = i by omega, decide_eq_true_eq] at h
   exact h
  ·rw [c]
   have e9 : (L9.length : Int) = 9 := rfl
   have e2 : spec_l1Cur_of.f code a s L9 = some (rdOf ByteArray.empty L9 i, a1, s1) := by
    rw [spec_l1Cur_of.f, e9, e1, Option.bind_some]
    show (if 0 ≤ i then (if i < 9 then some (rdOf ByteArray.empty L9 i, a1, s1) else none) else none) = _
    rw [if_pos i0, if_pos (by omega)]
   refine Ev.congr (fun k => ?_) (Ev.now _)
   rw [if_neg (by simp)]
   exact (congrArg (fun o => Option.bind o fun bt439 : ByteArray × Int × Int => some bt439.1) e2).trans rfl
 | true =>
  obtain ⟨g1, g2, g3, g4⟩ := zq73 c
  have s1 := zq21 H g3
  have s2 := zq21 L g4
  have hts : ((dashB H ++ (⟨#[58]⟩ : ByteArray)) ++ dashB L).size ≤ 201 := by
   rw [ByteArray.size_append, ByteArray.size_append]
   have : (⟨#[58]⟩ : ByteArray).size = 1 := rfl
   omega
  obtain ⟨o, a1, s1, e1, r1⟩ := zq104 code hc a s 3 5000 hr (by omega)
  cases o with
  | false =>
   refine ⟨(dashB H ++ (⟨#[58]⟩ : ByteArray)) ++ dashB L, by omega, Ev.bind eD (Ev.bind (zq51 H L (by omega)) ?_)⟩
   rw [c]
   refine Ev.congr (fun k => by rw [if_pos rfl]) (Ev.bind (zq75 H L g3 g4 g1 g2) ?_)
   refine Ev.congr (fun k => ?_) (Ev.now _)
   show (spec_l1Cur_one.f code a s 3).bind _ = _
   rw [e1, Option.bind_some, if_neg (by simp)]
  | true =>
   obtain ⟨t', a', s', h1, h2⟩ := zq106 W7 7 rfl (by omega) (by omega) code hc ((dashB H ++ (⟨#[58]⟩ : ByteArray)) ++ dashB L) a1 s1 5002 (by omega) r1 (by omega)
   refine ⟨t', h1, Ev.bind eD (Ev.bind (zq51 H L (by omega)) ?_)⟩
   rw [c]
   refine Ev.congr (fun k => by rw [if_pos rfl]) (Ev.bind (zq75 H L g3 g4 g1 g2) ?_)
   refine Ev.congr (f := fun k => (spec_l1Cur_spoilt.f k code a1 s1 ((dashB H ++ (⟨#[58]⟩ : ByteArray)) ++ dashB L) W7).bind fun bt446 => some bt446.1) (fun k => ?_) (Ev.bind h2 (Ev.now _))
   show (spec_l1Cur_one.f code a s 3).bind _ = _
   rw [e1, Option.bind_some, if_pos rfl]
   rfl

theorem zq108 : ∀ (t : List Int), Lib.joinTail [44] (t.map digB) = t.flatMap fun y => 44 :: digB y
 | [] => rfl
 | x :: t => by
  have ih := zq108 t
  unfold Lib.joinTail at ih ⊢
  rw [List.map_cons, List.map_cons, List.flatten_cons, ih, List.flatMap_cons]
  rfl
theorem zq109 (l : List Int) : Lib.join (l.map digB) [44] = txtL l := by
 cases l with
 | nil => rfl
 | cons x t => rw [List.map_cons, Lib.join_cons, zq108, txtL]
theorem zq110 (x : Int) (h0 : 0 ≤ x) (h1 : x < 10) : strconv_Itoa_112.f x = some ⟨(digB x).toArray⟩ := by
 have h := List.all_eq_true.1 zq16 x.toNat (List.mem_range.2 (by omega))
 rw [show ((x.toNat : Nat) : Int) = x by omega] at h
 simp only [Bool.and_eq_true, decide_eq_true_eq] at h
 rw [strconv_Itoa_112.f, if_pos ⟨h0, by omega⟩, h.2]
theorem zq111 : ∀ (t p : List Int) (out : List ByteArray), out = p.map (fun x => ⟨(digB x).toArray⟩) → p.length + t.length ≤ 1000 → (∀ x ∈ t, 0 ≤ x ∧ x < 10) →
  Ev (fun k => impl_joined.l0 k ⟨#[44]⟩ out (p ++ t) ((p ++ t).length : Int) (p.length : Int)) ⟨(txtL (p ++ t)).toArray⟩
 | [], p, out, ho, hn, _ => by
  refine Ev.ret fun k => ?_
  have hmap : out.map (·.data.toList) = p.map digB := by rw [ho, List.map_map]; exact List.map_congr_left fun x _ => rfl
  have hj : Lib.join (out.map (·.data.toList)) (⟨#[44]⟩ : ByteArray).data.toList = txtL p := by rw [hmap]; exact zq109 p
  have hlen : (txtL p).length ≤ 3000 := by
   cases p with
   | nil => simp [txtL]
   | cons x q =>
    rw [txtL, List.length_append, zq18]
    simp [digB] at hn ⊢
    omega
  rw [impl_joined.l0, if_neg (by simp), strings_Join.f, if_pos ⟨by rw [ho, List.length_map]; simp at hn; omega, by rw [hj]; omega⟩, hj, List.append_nil]
  rfl
 | x :: t, p, out, ho, hn, hx => by
  have hn' : p.length + t.length + 1 ≤ 1000 := by simpa [Nat.add_assoc] using hn
  have hm := len_mid p x t
  obtain ⟨x0, x1⟩ := hx x (List.mem_cons_self ..)
  have ih := zq111 t (p ++ [x]) (out ++ [⟨(digB x).toArray⟩]) (by rw [ho, List.map_append]; rfl) (by simp; omega) (fun y hy => hx y (List.mem_cons_of_mem _ hy))
  rw [zq1, zq0] at ih
  have hol : out.length = p.length := by rw [ho, List.length_map]
  refine Ev.step (fun k => ?_) ih
  show impl_joined.l0 (k + 1) ⟨#[44]⟩ out (p ++ x :: t) ((p ++ x :: t).length : Int) (p.length : Int) = _
  rw [impl_joined.l0, if_pos (by omega), if_pos (by omega), if_pos (by omega), rd_mid, zq110 x x0 x1, Option.bind_some, if_pos (by omega), w64 (by omega) (by omega)]
theorem zq112 (l : List Int) (hl : l.length ≤ 8) (hx : ∀ x ∈ l, 0 ≤ x ∧ x < 10) : Ev (fun k => impl_orDash.f k l) (if l.length = 0 then ⟨#[45]⟩ else ⟨(txtL l).toArray⟩) := by
 by_cases c : l.length = 0
 ·rw [if_pos c]
  exact Ev.congr (fun k => by rw [impl_orDash.f, if_pos (by omega)]) (Ev.now _)
 ·rw [if_neg c]
  refine Ev.congr (fun k => by rw [impl_orDash.f, if_neg (by omega)]) (Ev.bind ?_ (Ev.now _))
  have h := zq111 l [] [] rfl (by simp; omega) hx
  exact h

def wtB (l m : List Int) : ByteArray × Bool := if goodW l m = true then ((dashB l ++ (⟨#[58]⟩ : ByteArray)) ++ dashB m, true) else (⟨#[]⟩, false)
theorem zq113 (l m : List Int) (hl : l.length ≤ 35184372088832) (hm : m.length ≤ 35184372088832) : Ev (fun k => spec_WalkText.f k l m) (wtB l m) ∧ Ev (fun k => impl_WalkText.f k l m) (wtB l m) := by
 cases c : goodW l m with
 | false =>
  rw [show wtB l m = (⟨#[]⟩, false) by rw [wtB, c]; rfl]
  refine ⟨Ev.bind (zq51 l m hm) ?_, Ev.bind (zq63 l m hl) ?_⟩
  ·rw [c]; exact Ev.now _
  ·rw [c]; exact Ev.now _
 | true =>
  obtain ⟨⟨h8, hh⟩, h2, h3, _⟩ := (zq41 l m).1 c
  have hx : ∀ x ∈ l, 0 ≤ x ∧ x < 10 := fun x hx => by have := hts_mem l (-1) hh x hx; omega
  have hy : ∀ x ∈ m, 0 ≤ x ∧ x < 10 := fun x hx => by have := h3 x hx; omega
  have s1 := zq21 l h8
  have s2 := zq21 m (by omega)
  have s3 : ((dashB l) ++ (⟨#[58]⟩ : ByteArray)).size ≤ 101 := by
   rw [ba_size, ba_app, List.length_append, ← ba_size]
   exact Nat.add_le_add s1 (Nat.le_refl 1)
  have e1 : Ev (fun k => spec_trText.f k l) (dashB l) := zq20 l h8 hx
  have e2 : Ev (fun k => spec_trText.f k m) (dashB m) := zq20 m (by omega) hy
  have e3 : Ev (fun k => impl_orDash.f k l) (dashB l) := zq112 l h8 hx
  have e4 : Ev (fun k => impl_orDash.f k m) (dashB m) := zq112 m (by omega) hy
  rw [show wtB l m = ((dashB l ++ (⟨#[58]⟩ : ByteArray)) ++ dashB m, true) by rw [wtB, c]; rfl]
  refine ⟨Ev.bind (zq51 l m hm) ?_, Ev.bind (zq63 l m hl) ?_⟩
  ·rw [c]
   refine Ev.congr (fun k => by rw [if_pos rfl]) (Ev.bind (a := (dashB l ++ (⟨#[58]⟩ : ByteArray)) ++ dashB m) ?_ (Ev.now _))
   refine Ev.bind e1 ?_
   refine Ev.congr (fun k => by rw [if_pos (show (dashB l).size + 1 ≤ 9223372036854775807 by omega)]) ?_
   refine Ev.bind e2 ?_
   exact Ev.congr (fun k => by rw [if_pos (show ((dashB l) ++ (⟨#[58]⟩ : ByteArray)).size + (dashB m).size ≤ 9223372036854775807 by omega)]) (Ev.now _)
  ·rw [c]
   refine Ev.congr (fun k => by rw [if_pos rfl]) ?_
   refine Ev.bind e3 ?_
   refine Ev.congr (fun k => by rw [if_pos (show (dashB l).size + 1 ≤ 9223372036854775807 by omega)]) ?_
   refine Ev.bind e4 ?_
   exact Ev.congr (fun k => by rw [if_pos (show ((dashB l) ++ (⟨#[58]⟩ : ByteArray)).size + (dashB m).size ≤ 9223372036854775807 by omega)]) (Ev.now _)
theorem zq114 (L : List Int) (hl : L.length ≤ 1000000) : ∀ (d i : Nat), i + d = L.length → Ev (fun k => laws_wSame.l0 k L L (L.length : Int) (i : Int)) true
 | 0, i, hd => Ev.ret fun k => by rw [laws_wSame.l0, if_neg (by omega)]
 | d + 1, i, hd => by
  have ih := zq114 L hl d (i + 1) (by omega)
  rw [show ((i + 1 : Nat) : Int) = (i : Int) + 1 by omega] at ih
  refine Ev.step (fun k => ?_) ih
  show laws_wSame.l0 (k + 1) L L (L.length : Int) (i : Int) = _
  rw [laws_wSame.l0, if_pos (by omega), if_pos (by omega), if_pos (by omega), if_pos (by omega), if_pos rfl, w64 (by omega) (by omega)]
theorem zq115 (L : List Int) (hl : L.length ≤ 1000000) : Ev (fun k => laws_wSame.f k L L) true :=
 Ev.congr (fun k => by rw [laws_wSame.f, if_pos rfl]; rfl) (zq114 L hl L.length 0 (by omega))

def htsAll (P : List Int → Bool) : Nat → Int → List Int → Bool
 | 0, _, p => P p
 | m + 1, last, p => P p && (List.range (last + 2).toNat).all fun x => htsAll P m (x : Int) (p ++ [(x : Int)])
theorem zq116 (P : List Int → Bool) : ∀ (m : Nat) (last : Int) (p : List Int), htsAll P m last p = true → ∀ t : List Int, t.length ≤ m → hts last t = true → P (p ++ t) = true
 | 0, last, p, h, t, ht, _ => by
  obtain rfl : t = [] := List.length_eq_zero_iff.1 (by omega)
  rw [List.append_nil]
  exact h
 | m + 1, last, p, h, [], _, _ => by
  rw [htsAll, Bool.and_eq_true] at h
  rw [List.append_nil]
  exact h.1
 | m + 1, last, p, h, x :: t, ht, hh => by
  rw [htsAll, Bool.and_eq_true, List.all_eq_true] at h
  simp only [hts, Bool.and_eq_true, decide_eq_true_eq] at hh
  have h1 := h.2 x.toNat (List.mem_range.2 (by omega))
  have e : ((x.toNat : Nat) : Int) = x := by omega
  rw [e] at h1
  have := zq116 P m x (p ++ [x]) h1 t (by simp at ht; omega) hh.2
  rwa [List.append_assoc] at this

def backW (H L : List Int) : Nat → Nat → List Int → List Int
 | 0, _, out => out
 | d + 1, i, out => backW H L d (i + 1) (out.set (rd L i).toNat ((i : Int) - rd H i))
theorem zq117 (H L : List Int) : ∀ (d i : Nat) (out : List Int), (backW H L d i out).length = out.length
 | 0, _, _ => rfl
 | d + 1, i, out => by rw [backW, zq117 H L d]; simp
theorem zq118 (H L : List Int) (hg : goodW H L = true) : ∀ (d i : Nat) (out : List Int), i + d = L.length → out.length = L.length →
  Ev (fun k => impl_ParkingOfWalk.l0 k out L (L.length : Int) (i : Int) H L) (backW H L d i out, true)
 | 0, i, out, hd, ho => by
  refine Ev.ret fun k => ?_
  rw [impl_ParkingOfWalk.l0, if_neg (by omega), backW]
 | d + 1, i, out, hd, ho => by
  obtain ⟨⟨h8, hh⟩, h2, h3, _⟩ := (zq41 H L).1 hg
  have hL := h3 (rd L i) (rd_mem L i (by omega) (by omega))
  have hH := hts_rd h8 hh (i : Int) (by omega) (by omega)
  have ih := zq118 H L hg d (i + 1) (out.set (rd L i).toNat ((i : Int) - rd H i)) (by omega) (by simp [ho])
  rw [show ((i + 1 : Nat) : Int) = (i : Int) + 1 by omega] at ih
  rw [backW]
  refine Ev.step (fun k => ?_) ih
  show impl_ParkingOfWalk.l0 (k + 1) out L (L.length : Int) (i : Int) H L = _
  rw [impl_ParkingOfWalk.l0, if_pos (by omega), if_pos (by omega), if_pos (by omega), if_pos (by omega), if_pos (by omega), if_pos (by omega), w64 (by omega) (by omega), w64 (by omega) (by omega)]
theorem zq119 (l : List Int) (h : l.length < 17592186044416) : slices_Clone_int_int.f l = some l := by
 unfold slices_Clone_int_int.f
 simp only [Option.bind_some]
 rw [if_pos (by simp; omega)]
 simp

theorem zq120 (q : Int → Bool) : ∀ (t p : List Int) (acc : Int), 0 ≤ acc → acc ≤ p.length → p.length + t.length ≤ 35184372088832 →
  Ev (fun k => impl_countIf.l0 q k acc (p ++ t) ((p ++ t).length : Int) (p.length : Int)) (acc + cnt q t)
 | [], p, acc, _, _, _ => by
  refine Ev.ret fun k => ?_
  rw [impl_countIf.l0, if_neg (by simp)]
  simp [cnt]
 | h :: t, p, acc, h0, h1, hn => by
  have hn' : p.length + t.length + 1 ≤ 35184372088832 := by simpa [Nat.add_assoc] using hn
  have hm := len_mid p h t
  cases c : q h with
  | true =>
   have ih := zq120 q t (p ++ [h]) (acc + 1) (by omega) (by rw [zq0]; omega) (by simp; omega)
   rw [zq1, zq0] at ih
   have e : acc + cnt q (h :: t) = acc + 1 + cnt q t := by simp only [cnt, c, if_true]; omega
   rw [e]
   refine Ev.step (fun k => ?_) ih
   show impl_countIf.l0 q (k + 1) acc (p ++ h :: t) ((p ++ h :: t).length : Int) (p.length : Int) = _
   rw [impl_countIf.l0, if_pos (by omega), if_pos (by omega), if_pos (by omega), rd_mid, c, Option.bind_some, if_pos rfl, w64 (by omega) (by omega), w64 (by omega) (by omega)]
  | false =>
   have ih := zq120 q t (p ++ [h]) acc h0 (by rw [zq0]; omega) (by simp; omega)
   rw [zq1, zq0] at ih
   have e : acc + cnt q (h :: t) = acc + cnt q t := by simp only [cnt, c]; simp
   rw [e]
   refine Ev.step (fun k => ?_) ih
   show impl_countIf.l0 q (k + 1) acc (p ++ h :: t) ((p ++ h :: t).length : Int) (p.length : Int) = _
   rw [impl_countIf.l0, if_pos (by omega), if_pos (by omega), if_pos (by omega), rd_mid, c, Option.bind_some, if_neg (by simp), w64 (by omega) (by omega)]
theorem zq121 (q : Int → Bool) (l : List Int) (hl : l.length ≤ 35184372088832) : Ev (fun k => impl_countIf.f q k l) (cnt q l) := by
 have := zq120 q l [] 0 (by omega) (by simp) (by simpa using hl)
 rwa [Int.zero_add] at this

def orNone (l : List Int) : List Int × Bool := if (-1 : Int) ∈ l then ([], false) else (l, true)
def DriveGoes (places : Int) (out : List Int) (w : Int) (cars : List Int) (n i : Int) (r : List Int × Bool) : Prop :=
 (w = -1 → r = ([], false)) ∧ (w ≠ -1 → ∀ taken', Tk places (out ++ [w]) taken' → Ev (fun k => impl_drive.l0 k places taken' (out ++ [w]) cars n (wrap64 (i + 1))) r)
theorem zq122 (places : Int) (taken : List Bool) (out : List Int) (ht : Tk places out taken) (cars : List Int) (n i : Int) (ho : out.length ≤ 1000) (hp : places ≤ 1000) (r : List Int × Bool) : ∀ (d : Nat) (x : Int), (places - x).toNat = d → 0 ≤ x →
  DriveGoes places out (seek out d x) cars n i r → Ev (fun k => impl_drive.l1 k places taken out x cars n i) r
 | 0, x, hx, h0, h => by
  obtain rfl := h.1 rfl
  refine Ev.ret fun k => ?_
  rw [impl_drive.l1, if_neg (by omega), if_pos (by omega)]
 | d + 1, x, hx, h0, h => by
  have ha := ht.at x h0 (by omega)
  have hl := ht.1
  by_cases c : x ∈ out
  ·rw [seek, if_pos c] at h
   refine Ev.step (fun k => ?_) (zq122 places taken out ht cars n i ho hp r d (x + 1) (by omega) (by omega) h)
   show impl_drive.l1 (k + 1) places taken out x cars n i = _
   rw [impl_drive.l1, if_pos (by omega), if_pos (by omega), if_pos (by omega), ha, decide_eq_true c, if_pos rfl, w64 (by omega) (by omega)]
  ·rw [seek, if_neg c] at h
   refine Ev.step (fun k => ?_) (h.2 (by omega) _ (ht.take x h0 (by omega)))
   show impl_drive.l1 (k + 1) places taken out x cars n i = _
   rw [impl_drive.l1, if_pos (by omega), if_pos (by omega), if_pos (by omega), ha, decide_eq_false c, if_neg (by simp), if_neg (by omega), if_pos (by omega)]
theorem zq123 (places : Int) (hp : places ≤ 1000) : ∀ (t p out : List Int) (taken : List Bool), Tk places out taken → (-1 : Int) ∉ out → (∀ c ∈ t, 0 ≤ c) → p.length + t.length ≤ 500 → out.length + t.length ≤ 500 →
  Ev (fun k => impl_drive.l0 k places taken out (p ++ t) ((p ++ t).length : Int) (p.length : Int)) (orNone (driveS places out t))
 | [], p, out, taken, _, hnot, _, _, _ => by
  refine Ev.ret fun k => ?_
  rw [impl_drive.l0, if_neg (by simp)]
  show some (out, true) = some (orNone out)
  rw [orNone, if_neg hnot]
 | c :: t, p, out, taken, ht, hnot, hc, hn, ho => by
  have hn' : p.length + t.length + 1 ≤ 500 := by simpa [Nat.add_assoc] using hn
  have ho' : out.length + t.length + 1 ≤ 500 := by simpa [Nat.add_assoc] using ho
  have hm := len_mid p c t
  have h0 := hc c (by simp)
  refine Ev.step (fun k => ?_) (zq122 places taken out ht (p ++ c :: t) ((p ++ c :: t).length : Int) (p.length : Int) (by omega) hp (orNone (driveS places out (c :: t))) (places - c).toNat c rfl h0 ⟨fun e => ?_, fun e taken' ht' => ?_⟩)
  ·show impl_drive.l0 (k + 1) places taken out (p ++ c :: t) ((p ++ c :: t).length : Int) (p.length : Int) = _
   rw [impl_drive.l0, if_pos (by omega), if_pos (by omega), if_pos (by omega), rd_mid]
  ·obtain ⟨s, _, hs⟩ := zq87 places t (out ++ [-1])
   simp only [driveS, e, hs]
   unfold orNone
   rw [if_pos (by simp)]
  ·have ih := zq123 places hp t (p ++ [c]) (out ++ [seek out (places - c).toNat c]) taken' ht' (by simp [hnot]; exact fun h => e h.symm) (fun x hx => hc x (by simp [hx])) (by simp; omega) (by simp; omega)
   rw [zq1, zq0] at ih
   rw [w64 (by omega) (by omega)]
   exact ih
theorem zq124 (l : List Int) (places : Int) (hp0 : 0 ≤ places) (hp : places ≤ 1000) (hl : l.length ≤ 500) (hc : ∀ c ∈ l, 0 ≤ c) : Ev (fun k => impl_drive.f k l places) (orNone (driveS places [] l)) := by
 refine Ev.congr (fun k => by rw [impl_drive.f, if_pos hp0, if_pos (by omega)]) ?_
 exact zq123 places hp l [] [] _ (Tk.none places hp0) (by simp) hc (by simpa using hl) (by simpa using hl)

theorem zq125 (q : Int → Bool) : ∀ (t p : List Int), p.length + t.length ≤ 35184372088832 →
  ∃ r : Int, decide (r ≥ 0) = t.any q ∧ Ev (fun k => slices_IndexFunc_int_int.l0 q k (p ++ t) ((p ++ t).length : Int) (p.length : Int)) r
 | [], p, _ => by
  refine ⟨-1, by simp, Ev.ret fun k => ?_⟩
  rw [slices_IndexFunc_int_int.l0, if_neg (by simp)]
 | h :: t, p, hn => by
  have hn' : p.length + t.length + 1 ≤ 35184372088832 := by simpa [Nat.add_assoc] using hn
  have hm := len_mid p h t
  cases c : q h with
  | true =>
   refine ⟨p.length, by simp [c], Ev.ret fun k => ?_⟩
   rw [slices_IndexFunc_int_int.l0, if_pos (by omega), if_pos (by omega), if_pos (by omega), rd_mid, c, Option.bind_some, if_pos rfl]
  | false =>
   obtain ⟨r, hr, ih⟩ := zq125 q t (p ++ [h]) (by simp; omega)
   rw [zq1, zq0] at ih
   refine ⟨r, by simpa [c] using hr, Ev.step (fun k => ?_) ih⟩
   show slices_IndexFunc_int_int.l0 q (k + 1) (p ++ h :: t) ((p ++ h :: t).length : Int) (p.length : Int) = _
   rw [slices_IndexFunc_int_int.l0, if_pos (by omega), if_pos (by omega), if_pos (by omega), rd_mid, c, Option.bind_some, if_neg (by simp), w64 (by omega) (by omega)]
theorem zq126 (q : Int → Bool) (l : List Int) (hl : l.length ≤ 35184372088832) : Ev (fun k => slices_ContainsFunc_int_int.f q k l) (l.any q) := by
 obtain ⟨r, hr, h⟩ := zq125 q l [] (by simpa using hl)
 rw [← hr]
 exact Ev.congr (fun k => rfl) (Ev.bind h (Ev.now _))

theorem zq127 (l : List Int) (lo hi : Int) (hl : l.length ≤ 35184372088832) : Ev (fun k => impl_areBetween.f k l lo hi) (inAll lo hi l) := by
 have e : (!(l.any (impl_areBetween_1.p lo hi))) = inAll lo hi l := by
  have hp : ∀ n, impl_areBetween_1.p lo hi n = !(decide (lo ≤ n) && decide (n ≤ hi)) := fun n => by
   simp [impl_areBetween_1.p, zq52]
  unfold inAll
  induction l with
  | nil => rfl
  | cons x t ih =>
   rw [List.any_cons, List.all_cons, Bool.not_or, ih (by simp at hl; omega), hp, Bool.not_not]
 rw [← e]
 exact Ev.congr (fun k => rfl) (Ev.bind (zq126 (impl_areBetween_1.p lo hi) l hl) (Ev.now _))

theorem zq128 (l : List Int) (hl : l.length ≤ 35184372088832) : Ev (fun k => impl_areCars.f k l) (decide (l.length ≤ 8) && inAll 0 99 l) := by
 by_cases c8 : l.length ≤ 8
 ·rw [decide_eq_true c8, Bool.true_and]
  refine Ev.congr (fun k => by rw [impl_areCars.f, if_pos (by omega)]) ?_
  exact Ev.bind (zq127 l 0 99 hl) (Ev.now _)
 ·rw [decide_eq_false c8, Bool.false_and]
  exact Ev.congr (fun k => by rw [impl_areCars.f, if_neg (by omega)]) (Ev.now false)
theorem zq129 (l : List Int) (hl : l.length ≤ 35184372088832) : Ev (fun k => impl_isParking.f k l) (pf l) := by
 refine Ev.congr (fun k => rfl) (Ev.bind (zq128 l hl) ?_)
 cases c : decide (l.length ≤ 8) && inAll 0 99 l with
 | false =>
  have e : pf l = false := by
   cases d : pf l with
   | false => rfl
   | true =>
    obtain ⟨h1, h2, _⟩ := (pf_iff l).1 d
    rw [decide_eq_true h1, Bool.true_and] at c
    have : inAll 0 99 l = true := (zq22 _ _ _).2 fun x hx => by have := h2 x hx; omega
    rw [this] at c; cases c
  rw [e]
  exact Ev.congr (fun k => by rw [if_neg (by simp)]) (Ev.now false)
 | true =>
  have cc : l.length ≤ 8 ∧ inAll 0 99 l = true := by simpa only [Bool.and_eq_true, decide_eq_true_eq] using c
  have hx := (zq22 _ _ _).1 cc.2
  refine Ev.congr (fun k => by rw [if_pos rfl]) ?_
  refine Ev.bind (zq124 l l.length (by omega) (by omega) (by omega) (fun x h => (hx x h).1)) ?_
  have e : (orNone (driveS l.length [] l)).2 = pf l := by
   unfold orNone
   by_cases d : (-1 : Int) ∈ driveS l.length [] l
   ·rw [if_pos d]
    symm
    simp [pf, d]
   ·rw [if_neg d]
    symm
    rw [pf_iff]
    refine ⟨cc.1, fun x h => ⟨(hx x h).1, ?_⟩, d⟩
    have : ¬ (l.length : Int) ≤ x := fun h1 => d (zq89 _ _ _ ⟨x, h, h1⟩)
    omega
  rw [← e]
  exact Ev.now _

def chS (a : Int) : Nat → Int → Int → Int
 | 0, _, acc => acc
 | d + 1, i, acc => chS a d (i + 1) (wrap64 (Int.tdiv (wrap64 (acc * wrap64 (a - i))) (i + 1)))
theorem zq130 (a : Int) (n : Int) (hn : n ≤ 1000) : ∀ (d : Nat) (i acc : Int), 0 ≤ i → i + d = n → Ev (fun k => impl_choose.l0 k a acc n i) (chS a d i acc)
 | 0, i, acc, h0, hd => by
  refine Ev.ret fun k => ?_
  rw [impl_choose.l0, if_neg (by omega), chS]
 | d + 1, i, acc, h0, hd => by
  have ih := zq130 a n hn d (i + 1) (wrap64 (Int.tdiv (wrap64 (acc * wrap64 (a - i))) (i + 1))) (by omega) (by omega)
  rw [chS]
  refine Ev.step (fun k => ?_) ih
  show impl_choose.l0 (k + 1) a acc n i = _
  rw [impl_choose.l0, if_pos (by omega), w64 (x := i + 1) (by omega) (by omega), if_neg (by omega)]
theorem zq131 (a n : Int) (h0 : 0 ≤ n) (hn : n ≤ 1000) : Ev (fun k => impl_choose.f k a n) (chS a n.toNat 0 1) :=
 zq130 a n hn n.toNat 0 1 (by omega) (by omega)
def coS (l : List Int) : List Int → Int → Int → Int
 | [], out, _ => out
 | n :: t, out, left => coS l t (wrap64 (out * chS left (cnt (fun x => decide (x = n)) l).toNat 0 1)) (wrap64 (left - cnt (fun x => decide (x = n)) l))
theorem zq132 (k : Nat) (l : List Int) (n : Int) : impl_countOrders_1.f k l n = impl_countIf.f (fun x => decide (x = n)) k l := rfl
theorem zq133 (l : List Int) (hl : l.length ≤ 1000) : ∀ (t p : List Int) (out left : Int), p.length + t.length ≤ 1000 →
  Ev (fun k => impl_countOrders.l0 k l out left (p ++ t) ((p ++ t).length : Int) (p.length : Int)) (coS l t out left)
 | [], p, out, left, hn => by
  refine Ev.ret fun k => ?_
  rw [impl_countOrders.l0, if_neg (by simp), coS]
 | n :: t, p, out, left, hn => by
  have hn' : p.length + t.length + 1 ≤ 1000 := by simpa [Nat.add_assoc] using hn
  have hm := len_mid p n t
  have hc := zq94 (fun x => decide (x = n)) l
  have ih := zq133 l hl t (p ++ [n]) (wrap64 (out * chS left (cnt (fun x => decide (x = n)) l).toNat 0 1)) (wrap64 (left - cnt (fun x => decide (x = n)) l)) (by simp; omega)
  rw [zq1, zq0] at ih
  rw [coS]
  refine Ev.step (fun k => by rw [impl_countOrders.l0, if_pos (by omega), if_pos (by omega), if_pos (by omega), rd_mid, zq132]) (Ev.bind (zq121 (fun x => decide (x = n)) l (by omega)) ?_)
  refine Ev.bind (zq131 left _ hc.1 (by omega)) ?_
  exact Ev.congr (fun k => by rw [w64 (x := (p.length : Int) + 1) (by omega) (by omega)]) ih
theorem zq134 (l : List Int) (hl : l.length ≤ 8) : Ev (fun k => impl_countOrders.f k l) (coS l (Lib.compact (srt l)) 1 (l.length : Int)) := by
 refine Ev.bind (zq57 l (by omega)) ?_
 refine Ev.bind (a := Lib.compact (srt l)) (Ev.now _) ?_
 have h1 := Lib.compact_length_le (srt l)
 have h2 : (srt l).length = l.length := (zq28 l).length_eq
 exact zq133 l (by omega) (Lib.compact (srt l)) [] 1 (l.length : Int) (by simp; omega)

theorem zq135 (H L : List Int) (h : goodW H L = true) : pwS (dashL H ++ 58 :: dashL L) = (H, L, true) := by
 obtain ⟨g1, g2, _, _⟩ := zq73 h
 rw [pwS, spl_app 58 _ _ (zq72 H g1), spl_no 58 _ (zq72 L g2)]
 show (if goodW (spR (dashL H)) (spR (dashL L)) = true then (spR (dashL H), spR (dashL L), true) else ([], [], false)) = _
 rw [zq79 H g1, zq79 L g2, if_pos h]
theorem zq136 (S : List UInt8) (h : (pwS S).2.2 = true) : goodW (pwS S).1 (pwS S).2.1 = true ∧ S = dashL (pwS S).1 ++ 58 :: dashL (pwS S).2.1 := by
 unfold pwS at h ⊢
 split at h
 ·rename_i H T e
  split at h
  ·rename_i c
   rw [if_pos c]
   obtain ⟨g1, g2, _, _⟩ := zq73 c
   refine ⟨c, ?_⟩
   show S = dashL (spR H) ++ 58 :: dashL (spR T)
   rw [← (zq70 H g1).1, ← (zq70 T g2).1, zq68 58 S H [T] e]
   simp
  ·cases h
 ·cases h
theorem zq137 (l m : List Int) (hl : l.length ≤ 1000000) (hm : m.length ≤ 1000000) : Ev (fun k => laws_wSameWalk.f k l m l m) true :=
 Ev.bind (zq115 l hl) (Ev.congr (fun k => by rw [if_pos rfl]) (Ev.bind (zq115 m hm) (Ev.now _)))
def iotaI (n : Nat) : List Int := (List.range n).map fun i : Nat => (i : Int)
theorem zq138 (n : Nat) : iotaI (n + 1) = iotaI n ++ [(n : Int)] := by simp [iotaI, List.range_succ]
theorem zq139 (l : List Int) (n : Nat) (hn : n ≤ 8) : ∀ (d i : Nat), i + d = n → Ev (fun k => impl_FirstLabels.l0 k (n : Int) (i : Int) l (iotaI i)) (l, iotaI n, true)
 | 0, i, hi => by
  obtain rfl : i = n := by omega
  exact Ev.ret fun k => by rw [impl_FirstLabels.l0, if_neg (by omega)]
 | d + 1, i, hi => by
  have ih := zq139 l n hn d (i + 1) (by omega)
  rw [zq138] at ih
  refine Ev.step (fun k => ?_) ih
  show impl_FirstLabels.l0 (k + 1) (n : Int) (i : Int) l (iotaI i) = _
  rw [impl_FirstLabels.l0, if_pos (by omega), if_pos (by simp [iotaI]; omega), w64 (by omega) (by omega)]
  rfl
def wtCheck (h : List Int) : Bool := goodW h (iotaI h.length) && (pf (backW h (iotaI h.length) h.length 0 (List.replicate h.length 0)) &&
 (match impl_CountLabels.f 40 h, spec_CountLabels.f 40 h with
  | some (x, true), some (y, true) => decide (x = y) && decide (coS (backW h (iotaI h.length) h.length 0 (List.replicate h.length 0)) (Lib.compact (srt (backW h (iotaI h.length) h.length 0 (List.replicate h.length 0)))) 1 (h.length : Int) = x)
  | _, _ => false))
theorem wt00 : htsAll wtCheck 5 0 [0, 0, 0] = true := by decide +kernel
theorem wt01 : htsAll wtCheck 5 1 [0, 0, 1] = true := by decide +kernel
theorem wt10 : htsAll wtCheck 5 0 [0, 1, 0] = true := by decide +kernel
theorem wt11 : htsAll wtCheck 5 1 [0, 1, 1] = true := by decide +kernel
theorem wt12 : htsAll wtCheck 5 2 [0, 1, 2] = true := by decide +kernel
theorem wt0 : htsAll wtCheck 6 0 [0, 0] = true := by
 have h : htsAll wtCheck 6 0 [0, 0] = (wtCheck [0, 0] && (htsAll wtCheck 5 0 [0, 0, 0] && (htsAll wtCheck 5 1 [0, 0, 1] && true))) := rfl
 have h0 : wtCheck [0, 0] = true := by decide +kernel
 rw [h, h0, wt00, wt01]
 rfl
theorem wt1 : htsAll wtCheck 6 1 [0, 1] = true := by
 have h : htsAll wtCheck 6 1 [0, 1] = (wtCheck [0, 1] && (htsAll wtCheck 5 0 [0, 1, 0] && (htsAll wtCheck 5 1 [0, 1, 1] && (htsAll wtCheck 5 2 [0, 1, 2] && true)))) := rfl
 have h0 : wtCheck [0, 1] = true := by decide +kernel
 rw [h, h0, wt10, wt11, wt12]
 rfl
theorem zq140 : htsAll wtCheck 8 (-1) [] = true := by
 have h : htsAll wtCheck 8 (-1) [] = (wtCheck [] && ((wtCheck [0] && (htsAll wtCheck 6 0 [0, 0] && (htsAll wtCheck 6 1 [0, 1] && true))) && true)) := rfl
 have h0 : wtCheck [] = true := by decide +kernel
 have h1 : wtCheck [0] = true := by decide +kernel
 rw [h, h0, h1, wt0, wt1]
 rfl
theorem zq141 (h : List Int) (h8 : h.length ≤ 8) (hh : hts (-1) h = true) : goodW h (iotaI h.length) = true ∧ pf (backW h (iotaI h.length) h.length 0 (List.replicate h.length 0)) = true ∧
  ∃ x, Ev (fun k => impl_CountLabels.f k h) (x, true) ∧ Ev (fun k => spec_CountLabels.f k h) (x, true) ∧ coS (backW h (iotaI h.length) h.length 0 (List.replicate h.length 0)) (Lib.compact (srt (backW h (iotaI h.length) h.length 0 (List.replicate h.length 0)))) 1 (h.length : Int) = x := by
 have hk := zq116 wtCheck 8 (-1) [] zq140 h h8 hh
 rw [List.nil_append, wtCheck, Bool.and_eq_true, Bool.and_eq_true] at hk
 obtain ⟨h1, h2, h3⟩ := hk
 refine ⟨h1, h2, ?_⟩
 split at h3
 ·rename_i x y e1 e2
  rw [Bool.and_eq_true, decide_eq_true_eq, decide_eq_true_eq] at h3
  obtain ⟨rfl, h4⟩ := h3
  exact ⟨x, Ev.of (fun k => impl_CountLabels.mono h k) e1, Ev.of (fun k => spec_CountLabels.mono h k) e2, h4⟩
 ·cases h3
theorem zq142 (h : List Int) (hl : h.length ≤ 1000) : ∃ r : Int × Bool, Ev (fun k => impl_CountLabels.f k h) r ∧ Ev (fun k => spec_CountLabels.f k h) r ∧ Ev (fun k => laws_FnWalkTexts.j4 k h r.1 r.2 false) true := by
 cases c : decide (h.length ≤ 8) && hts (-1) h with
 | false =>
  refine ⟨(0, false), ?_, ?_, ?_⟩
  ·refine Ev.congr (fun k => rfl) (Ev.bind (zq55 h (by omega)) ?_)
   rw [c]; exact Ev.now _
  ·refine Ev.congr (fun k => rfl) (Ev.bind (zq44 h) ?_)
   rw [c]; exact Ev.now _
  ·exact Ev.ret fun k => by rw [laws_FnWalkTexts.j4, if_neg (by simp), if_neg (by simp)]
 | true =>
  obtain ⟨c8, hh⟩ : h.length ≤ 8 ∧ hts (-1) h = true := by simpa only [Bool.and_eq_true, decide_eq_true_eq] using c
  obtain ⟨hg, hp, x, e1, e2, e3⟩ := zq141 h c8 hh
  refine ⟨(x, true), e1, e2, ?_⟩
  have hil : (iotaI h.length).length = h.length := by simp [iotaI]
  have hbl := zq117 h (iotaI h.length) h.length 0 (List.replicate h.length 0)
  rw [List.length_replicate] at hbl
  have eF : Ev (fun k => impl_FirstLabels.f k h) (h, iotaI h.length, true) := by
   refine Ev.congr (fun k => rfl) (Ev.bind (zq55 h (by omega)) ?_)
   rw [c]
   exact Ev.congr (fun k => by rw [if_pos rfl, zq119 h (by omega), Option.bind_some]; rfl) (zq139 h h.length c8 h.length 0 (by omega))
  have eP : Ev (fun k => impl_ParkingOfWalk.f k h (iotaI h.length)) (backW h (iotaI h.length) h.length 0 (List.replicate h.length 0), true) := by
   refine Ev.bind (zq63 h (iotaI h.length) (by omega)) ?_
   rw [hg]
   refine Ev.congr (fun k => by rw [if_pos rfl, if_pos (by omega), if_pos (by rw [hil]; simp; omega)]) ?_
   have h0 := zq118 h (iotaI h.length) hg (iotaI h.length).length 0 (List.replicate (iotaI h.length).length 0) (by omega) (by simp)
   rw [hil] at h0
   rw [hil]
   exact h0
  generalize backW h (iotaI h.length) h.length 0 (List.replicate h.length 0) = p at hp e3 hbl eP
  have eC : Ev (fun k => impl_CountOrders.f k p) (x, true) := by
   refine Ev.bind (zq129 p (by omega)) ?_
   rw [hp]
   have h0 := zq134 p (by omega)
   rw [hbl, e3] at h0
   exact Ev.congr (fun k => by rw [if_pos rfl]) (Ev.bind h0 (Ev.now _))
  refine Ev.step (fun k => by rw [laws_FnWalkTexts.j4, if_neg (by simp), if_pos rfl]) (Ev.bind eF (Ev.bind eP (Ev.bind eC ?_)))
  exact Ev.congr (fun k => by rw [if_pos rfl, if_pos rfl, if_pos rfl, beq_self_eq_true]) (Ev.now _)
theorem FnWalkTexts : laws_FnWalkTexts.Pure := by
 intro l0 l1 hm0 _ hw0 hm1 _ hw1
 have hbig : ∃ b, laws_big.f l0 l1 = some b := by
  unfold laws_big.f
  by_cases c : (l0.length : Int) > 1048576
  ·rw [if_pos c]; exact ⟨true, rfl⟩
  ·rw [if_neg c]; exact ⟨_, rfl⟩
 obtain ⟨b, hb⟩ := hbig
 cases b with
 | true => exact ⟨0, by rw [laws_FnWalkTexts.f, hb]; rfl⟩
 | false =>
  have hc0 : ∀ x ∈ l0, 0 ≤ x ∧ x ≤ 255 := fun x hx => by
   have := hw0 x hx
   simpa [Lit.wf, IntKind.min, IntKind.max, IntKind.signed, IntKind.bits] using this
  have hc1 : ∀ x ∈ l1, 0 ≤ x ∧ x ≤ 255 := fun x hx => by
   have := hw1 x hx
   simpa [Lit.wf, IntKind.min, IntKind.max, IntKind.signed, IntKind.bits] using this
  obtain ⟨h, a2, s2, hh, _, eH⟩ := zq86 l1 hc1 0 0 8 (by omega) 0 ⟨by omega, by omega⟩ (by omega)
  have hDh : Ev (fun k => spec_DrawCountLabels.f k l1) h := Ev.bind eH (Ev.now _)
  obtain ⟨r, ei, es, ej⟩ := zq142 h (by omega)
  have e3 : Ev (fun k => laws_FnWalkTexts.j3 k l1) true := by
   refine Ev.step (fun k => by rw [laws_FnWalkTexts.j3]) (Ev.bind hDh (Ev.bind ei (Ev.bind es ?_)))
   exact Ev.congr (fun k => by rw [bne_self_eq_false, if_neg (by simp), bne_self_eq_false]) ej
  obtain ⟨t, ht, eT⟩ := zq107 l1 hc1
  have p1 := zq78 t (by omega)
  have p2 := zq77 t (by omega)
  obtain ⟨q1, q2⟩ := pwS_len t.data.toList
  have hback := zq136 t.data.toList
  generalize pwS t.data.toList = v at p1 p2 q1 q2 hback
  have e1 : Ev (fun k => laws_FnWalkTexts.j1 k l1) true := by
   refine Ev.step (fun k => by rw [laws_FnWalkTexts.j1]) (Ev.bind eT (Ev.bind p1 (Ev.bind p2 ?_)))
   refine Ev.congr (fun k => by rw [bne_self_eq_false, if_neg (by simp)]) (Ev.bind (zq137 v.1 v.2.1 (by omega) (by omega)) ?_)
   cases cv : v.2.2 with
   | false => exact Ev.step (fun k => by rw [laws_FnWalkTexts.j2, if_neg (by simp), if_neg (by simp)]) e3
   | true =>
    obtain ⟨gv, tv⟩ := hback cv
    have ew := (zq113 v.1 v.2.1 (by omega) (by omega)).2
    rw [wtB, if_pos gv] at ew
    refine Ev.step (fun k => by rw [laws_FnWalkTexts.j2, if_neg (by simp), if_pos rfl]) (Ev.bind ew ?_)
    have hx : ((dashB v.1 ++ (⟨#[58]⟩ : ByteArray)) ++ dashB v.2.1).toList = t.toList := by
     rw [Go.ByteArray.toList_eq, Go.ByteArray.toList_eq, zq76, ← tv]
    exact Ev.congr (fun k => by rw [if_pos rfl, if_pos hx]) e3
  obtain ⟨H, L, a, s, hH, hL, eD⟩ := zq103 l0 hc0
  have hD : Ev (fun k => spec_DrawWalkText.f k l0) (H, L) := Ev.bind eD (Ev.now _)
  obtain ⟨ws, wi⟩ := zq113 H L (by omega) (by omega)
  have eI : Ev (fun k => impl_IsWalk.f k H L) (goodW H L) := Ev.bind (zq63 H L (by omega)) (Ev.now _)
  refine Ev.rounds ?_
  refine Ev.congr (fun k => by rw [laws_FnWalkTexts.f, hb, Option.bind_some, if_neg (by simp)]) (Ev.bind hD (Ev.bind wi (Ev.bind ws ?_)))
  refine Ev.congr (fun k => by rw [bne_self_eq_false, if_neg (by simp), if_pos rfl]) (Ev.bind eI ?_)
  cases c : goodW H L with
  | false =>
   rw [show wtB H L = (⟨#[]⟩, false) by rw [wtB, c]; rfl]
   exact Ev.step (fun k => by rw [laws_FnWalkTexts.j0, if_neg (by simp), if_neg (by simp)]) e1
  | true =>
   rw [show wtB H L = ((dashB H ++ (⟨#[58]⟩ : ByteArray)) ++ dashB L, true) by rw [wtB, c]; rfl]
   obtain ⟨g1, g2, g3, g4⟩ := zq73 c
   have s1 := zq21 H g3
   have s2 := zq21 L g4
   have hts : ((dashB H ++ (⟨#[58]⟩ : ByteArray)) ++ dashB L).size ≤ 201 := by
    rw [ByteArray.size_append, ByteArray.size_append]
    have : (⟨#[58]⟩ : ByteArray).size = 1 := rfl
    omega
   have ep := zq78 ((dashB H ++ (⟨#[58]⟩ : ByteArray)) ++ dashB L) (by omega)
   rw [zq76, zq135 H L c] at ep
   refine Ev.step (fun k => by rw [laws_FnWalkTexts.j0, if_neg (by simp), if_pos rfl]) (Ev.bind ep ?_)
   refine Ev.congr (fun k => by rw [if_pos rfl]) (Ev.bind (zq137 H L (by omega) (by omega)) ?_)
   exact Ev.congr (fun k => by rw [if_pos rfl]) e1

end Go.Proofs.YtlknoidcopkmfaaGreatDoor.Pure
