/- ParseTree of the program and of the reference agree on every text, and nothing is shared. -/
import Derived.Test.YtlknoidcopkmfaaDoorWSized
import Derived.Test.YtlknoidcopkmfaaDoorPFnExactParseTreex
import Derived.Lib.AtoiAllCases
import Derived.Lib.CountLaws
import Derived.Lib.IndexMore
import Derived.Lib.SplitLaws
import Derived.Lib.Strings
namespace Go.Proofs.YtlknoidcopkmfaaDoor.PrintWords
open Go.ChangeShapes Go.WideShapes
/-- The word by the name that the printed row asks for. -/
theorem sized_ints {H : Type} {enc : TypeId × Value → H} {P : Program} {W : World} {base : Nat} {spare : Nat → Bool} {held : Bool} {t e : TypeId} {k : IntKind} {a : Option Addr} {len cap : Nat} {d : DataW H} {ps : List MemPlace} {ts : List TypeId} {ds : List (DataW H)} {j : Nat}
    (hsz : (DataW.weightsEach P ts ds).all (· ≤ reachBytes) = true) (ht : ts[j]? = some t) (hd : ds[j]? = some d) (hu : P.underlying t = some (.slice e)) (he : P.underlying e = some (.int k)) (hc : P.cellsOf e = 1) {B : Nat} (hB : P.bytesOf e = B)
    (h : DataW.Trod enc P W base spare held t (.slice a len cap) d ps) : len * B ≤ 140737488351232 :=
  Go.Proofs.YtlknoidcopkmfaaDoorW.PrintWords.sized_ints hsz ht hd hu he hc hB h
end Go.Proofs.YtlknoidcopkmfaaDoor.PrintWords
namespace Go.Proofs.YtlknoidcopkmfaaDoor.Pure
open Go.RowKit Go.Proofs.YtlknoidcopkmfaaDoor.PFnExactParseTree Go.Proofs.YtlknoidcopkmfaaDoorW.PrintWords Go.Proofs.YtlknoidcopkmfaaDoorW.PrintLast
set_option linter.unusedVariables false
set_option linter.unusedSimpArgs false

theorem w64 {x : Int} (h0 : -9223372036854775808 ≤ x) (h1 : x ≤ 9223372036854775807) : wrap64 x = x := by
  unfold wrap64
  omega
theorem rd_mid (p : List Int) (h : Int) (t : List Int) : rd (p ++ h :: t) (p.length : Int) = h := by
  unfold rd
  simp
theorem rd_nat (l : List Int) (i : Nat) : rd l (i : Int) = l.getD i 0 := by
  unfold rd
  simp
theorem Ev.ret {α : Type} {g : Nat → Option α} {r : α} (h : ∀ k, g (k + 1) = some r) : Ev g r :=
  Ev.step (f := fun _ => some r) h (Ev.now r)

theorem eqIntS_l0 : ∀ (t p : List Int), p.length + t.length ≤ 35184372088832 →
    Ev (fun k => laws_eqIntS.l0 k (p ++ t) (p ++ t) (p.length : Int)) true
  | [], p, _ => by
    refine Ev.ret fun k => ?_
    rw [laws_eqIntS.l0, if_neg (by simp)]
  | h :: t, p, hn => by
    have hn' : p.length + t.length + 1 ≤ 35184372088832 := by simpa [Nat.add_assoc] using hn
    have ih := eqIntS_l0 t (p ++ [h]) (by simp; omega)
    have e1 : (p ++ [h]) ++ t = p ++ h :: t := by simp
    have e2 : (((p ++ [h]).length : Nat) : Int) = (p.length : Int) + 1 := by simp
    rw [e1, e2] at ih
    refine Ev.step (fun k => ?_) ih
    show laws_eqIntS.l0 (k + 1) (p ++ h :: t) (p ++ h :: t) (p.length : Int) = _
    rw [laws_eqIntS.l0, if_pos (by simp; omega), if_pos (by omega), if_pos (by simp; omega), rd_mid, if_pos rfl, w64 (by omega) (by omega)]
theorem ev_eqIntS (l : List Int) (h : l.length ≤ 35184372088832) : Ev (fun k => laws_eqIntS.f k l l) true := by
  have z := eqIntS_l0 l [] (by simpa using h)
  refine Ev.congr (fun k => ?_) z
  show laws_eqIntS.f k l l = _
  rw [laws_eqIntS.f, if_pos rfl]
  rfl

/-- n numbers from one on. -/
def marks (k : Int) : Nat → List Int
  | 0 => []
  | n + 1 => k :: marks (k + 1) n
theorem marks_length : ∀ (n : Nat) (k : Int), (marks k n).length = n
  | 0, _ => rfl
  | n + 1, k => by simp [marks, marks_length n]
theorem markIntS_l0 : ∀ (t p : List Int) (k : Int), 0 ≤ k → k + t.length ≤ 4611686018427387904 → p.length + t.length ≤ 35184372088832 →
    Ev (fun n => laws_markIntS.l0 n (p ++ t) k (p.length : Int)) (k + t.length, p ++ marks k t.length)
  | [], p, k, _, _, _ => by
    refine Ev.ret fun n => ?_
    rw [laws_markIntS.l0, if_neg (by simp)]
    simp [marks]
  | h :: t, p, k, h0, hk, hn => by
    have hn' : p.length + t.length + 1 ≤ 35184372088832 := by simpa [Nat.add_assoc] using hn
    have hk' : k + (t.length : Int) + 1 ≤ 4611686018427387904 := by simp at hk; omega
    have ih := markIntS_l0 t (p ++ [k]) (k + 1) (by omega) (by omega) (by simp; omega)
    have e1 : (p ++ [k]) ++ t = p ++ k :: t := by simp
    have e2 : (((p ++ [k]).length : Nat) : Int) = (p.length : Int) + 1 := by simp
    rw [e1, e2] at ih
    have e3 : ((k + ((h :: t).length : Int), p ++ marks k (h :: t).length) : Int × List Int) = (k + 1 + (t.length : Int), p ++ [k] ++ marks (k + 1) t.length) := by
      simp [marks]; omega
    rw [e3]
    refine Ev.step (fun n => ?_) ih
    show laws_markIntS.l0 (n + 1) (p ++ h :: t) k (p.length : Int) = _
    rw [laws_markIntS.l0, if_pos (by simp; omega), if_pos (by omega), w64 (by omega) (by omega), w64 (by omega) (by omega)]
    congr 1
    simp [List.set_append]
theorem ev_markIntS (l : List Int) (k : Int) (h0 : 0 ≤ k) (hk : k ≤ 4000000000000000000) (hl : l.length ≤ 35184372088832) : Ev (fun n => laws_markIntS.f n l k) (k + l.length, marks k l.length) :=
  markIntS_l0 l [] k h0 (by omega) (by simpa using hl)
theorem heldIntS_l0 : ∀ (m : Nat) (p : List Int) (k : Int), 0 ≤ k → k + m ≤ 4611686018427387904 → p.length + m ≤ 35184372088832 →
    Ev (fun n => laws_heldIntS.l0 n (p ++ marks k m) k (p.length : Int)) (k + m)
  | 0, p, k, _, _, _ => by
    refine Ev.ret fun n => ?_
    rw [laws_heldIntS.l0, if_neg (by simp [marks])]
    simp
  | m + 1, p, k, h0, hk, hn => by
    have ih := heldIntS_l0 m (p ++ [k]) (k + 1) (by omega) (by omega) (by simp; omega)
    have e1 : (p ++ [k]) ++ marks (k + 1) m = p ++ k :: marks (k + 1) m := by simp
    have e2 : (((p ++ [k]).length : Nat) : Int) = (p.length : Int) + 1 := by simp
    rw [e1, e2] at ih
    have e3 : k + ((m + 1 : Nat) : Int) = k + 1 + (m : Int) := by omega
    rw [e3]
    refine Ev.step (fun n => ?_) ih
    show laws_heldIntS.l0 (n + 1) (p ++ k :: marks (k + 1) m) k (p.length : Int) = _
    rw [laws_heldIntS.l0, if_pos (by simp; omega), if_pos (by omega), rd_mid, if_pos rfl, w64 (by omega) (by omega), w64 (by omega) (by omega)]
theorem ev_heldIntS (k : Int) (m : Nat) (h0 : 0 ≤ k) (hk : k ≤ 4000000000000000000) (hm : m ≤ 35184372088832) : Ev (fun n => laws_heldIntS.f n (marks k m) k) (k + m) :=
  heldIntS_l0 m [] k h0 (by omega) (by simpa using hm)

/-- One step of a walk along a list: what stands behind the place. -/
theorem len_snoc (p : List Int) (h : Int) : (((p ++ [h]).length : Nat) : Int) = (p.length : Int) + 1 := by simp
theorem app_snoc (p : List Int) (h : Int) (t : List Int) : (p ++ [h]) ++ t = p ++ h :: t := by simp
theorem len_mid (p : List Int) (h : Int) (t : List Int) : ((p ++ h :: t).length : Int) = (p.length : Int) + t.length + 1 := by simp; omega

/-- The words between the bytes b. -/
def spl (b : UInt8) : List UInt8 → List (List UInt8)
  | [] => [[]]
  | c :: t => if c = b then [] :: spl b t else match spl b t with
    | [] => [[c]]
    | h :: r => (c :: h) :: r
theorem spl_ne (b : UInt8) : ∀ s, spl b s ≠ []
  | [] => by simp [spl]
  | c :: t => by
    rw [spl]
    split
    · simp
    · split <;> simp
theorem spl_len (b : UInt8) : ∀ s, (∀ w ∈ spl b s, w.length ≤ s.length) ∧ (spl b s).length ≤ s.length + 1
  | [] => by simp [spl]
  | c :: t => by
    obtain ⟨h1, h2⟩ := spl_len b t
    rw [spl]
    split
    · refine ⟨fun w hw => ?_, by simp; omega⟩
      rcases List.mem_cons.1 hw with e | e
      · subst e; simp
      · have := h1 w e; simp; omega
    · split
      · rename_i e; exact absurd e (spl_ne b t)
      · rename_i h r e
        rw [e] at h1 h2
        refine ⟨fun w hw => ?_, by simp at h2 ⊢; omega⟩
        rcases List.mem_cons.1 hw with e2 | e2
        · subst e2; have := h1 h (by simp); simp; omega
        · have := h1 w (by simp [e2]); simp; omega
theorem split_spl (b : UInt8) : ∀ s : List UInt8, Go.Lib.splitK [b] 0 (Go.Lib.count s [b]) s = spl b s
  | [] => by
    have h : Go.Lib.count [] [b] = 0 := by rw [Go.Lib.count_one]; rfl
    rw [h, Go.Lib.splitK, spl]
  | c :: t => by
    have ih := split_spl b t
    by_cases e : c = b
    · subst e
      have hix : Go.Lib.index (c :: t) [c] = 0 := by rw [Go.Lib.index]; simp [List.isPrefixOf]
      rw [Go.Lib.count_cons_eq, Nat.add_comm, Go.Lib.splitK, hix, spl, if_pos rfl, ← ih]
      simp
    · have hp : ([b] : List UInt8).isPrefixOf (c :: t) = false := by simp [List.isPrefixOf, Ne.symm e]
      have hix : Go.Lib.index (c :: t) [b] = if Go.Lib.index t [b] == -1 then -1 else Go.Lib.index t [b] + 1 := by rw [Go.Lib.index, hp]; simp
      rw [Go.Lib.count_cons_ne c b t e, spl, if_neg e, ← ih]
      cases hk : Go.Lib.count t [b] with
      | zero => simp [Go.Lib.splitK]
      | succ k =>
        have hge := Go.Lib.index_ge t [b]
        by_cases hm : Go.Lib.index t [b] = -1
        · have := Go.Lib.count_miss hm
          omega
        · obtain ⟨j, hj⟩ : ∃ j : Nat, Go.Lib.index t [b] = j := ⟨(Go.Lib.index t [b]).toNat, by omega⟩
          have hj1 : Go.Lib.index (c :: t) [b] = ((j + 1 : Nat) : Int) := by rw [hix, if_neg (fun e => hm (beq_iff_eq.1 e)), hj]; omega
          rw [Go.Lib.splitK, Go.Lib.splitK, hj1, hj, if_neg (by simp; omega), if_neg (by simp)]
          simp
def toB (l : List (List UInt8)) : List ByteArray := l.map fun w => ⟨w.toArray⟩
theorem ba_ext' {a b : ByteArray} (h : a.data.toList = b.data.toList) : a = b := by
  cases a; cases b
  simpa using h
theorem toB_of {l : List ByteArray} {r : List (List UInt8)} (h : l.map (·.data.toList) = r) : l = toB r := by
  rw [← h, toB, List.map_map]
  refine (List.map_id' l).symm.trans (List.map_congr_left fun x _ => ba_ext' ?_)
  simp
theorem impl_Split (s : ByteArray) (h : s.size ≤ 2000000) : strings_Split.f s ⟨#[44]⟩ = some (toB (spl 44 s.data.toList)) := by
  rw [strings_Split.f, if_pos ⟨h, by decide⟩]
  refine congrArg some (toB_of ?_)
  rw [Go.Lib.splitB_data]
  exact split_spl 44 s.data.toList
theorem extract_data (s : ByteArray) (a b : Nat) : (s.extract a b).data.toList = (s.data.toList.drop a).take (b - a) := by
  rw [ByteArray.data_extract, Array.toList_extract, List.extract_eq_take_drop]
/-- The words, the first one behind what is there. -/
def glue (w : List UInt8) : List (List UInt8) → List (List UInt8)
  | [] => [w]
  | h :: r => (w ++ h) :: r
theorem drop_step {l : List UInt8} {i : Nat} {c : UInt8} {t : List UInt8} (h : l.drop i = c :: t) : ∃ hi : i < l.length, l[i] = c ∧ l.drop (i + 1) = t := by
  have hi : i < l.length := by
    refine Classical.byContradiction fun hn => ?_
    rw [List.drop_eq_nil_of_le (by omega)] at h
    cases h
  rw [List.drop_eq_getElem_cons hi] at h
  exact ⟨hi, (List.cons.inj h).1, (List.cons.inj h).2⟩
theorem bt_get (s : ByteArray) (i : Nat) (c : UInt8) (t : List UInt8) (h : s.data.toList.drop i = c :: t) : bt s (i : Int) = (c.toNat : Int) := by
  obtain ⟨hi, hc, _⟩ := drop_step h
  have hi' : i < s.size := by rw [show s.size = s.data.toList.length from (Array.length_toList).symm]; exact hi
  unfold bt
  rw [Int.toNat_natCast, dif_pos hi', ← hc]
  rfl
theorem spec_Split_l0 (s : ByteArray) (b : UInt8) (hs : s.size ≤ 2000000) : ∀ (d i fr : Nat) (out : List ByteArray), i + d = s.size → fr ≤ i → out.length ≤ i →
    Ev (fun k => spec_l1Split.l0 k s (b.toNat : Int) out (fr : Int) (i : Int)) (out ++ toB (glue ((s.data.toList.drop fr).take (i - fr)) (spl b (s.data.toList.drop i))))
  | 0, i, fr, out, hd, hf, ho => by
    have hl : s.data.toList.length = s.size := Array.length_toList
    refine Ev.ret fun k => ?_
    rw [spec_l1Split.l0, if_neg (by omega), if_pos (by omega), if_pos (by omega), if_pos (by omega), show s.data.toList.drop i = [] from List.drop_eq_nil_of_le (by omega), spl, glue, List.append_nil, toB, List.map_cons, List.map_nil, Int.toNat_natCast]
    refine congrArg some (congrArg (out ++ [·]) (ba_ext' ?_))
    rw [extract_data, show s.size - fr = i - fr by omega]
  | d + 1, i, fr, out, hd, hf, ho => by
    have hl : s.data.toList.length = s.size := Array.length_toList
    obtain ⟨c, t, hct⟩ : ∃ c t, s.data.toList.drop i = c :: t := by
      cases hx : s.data.toList.drop i with
      | nil =>
        have := List.drop_eq_nil_iff.1 hx
        omega
      | cons c t => exact ⟨c, t, rfl⟩
    have hb := bt_get s i c t hct
    obtain ⟨hi, hc, ht⟩ := drop_step hct
    rw [hct, spl]
    by_cases e : c = b
    · subst e
      rw [if_pos rfl]
      have ih := spec_Split_l0 s c hs d (i + 1) (i + 1) (out ++ [s.extract fr i]) (by omega) (Nat.le_refl _) (by simp; omega)
      rw [ht, Nat.sub_self, List.take_zero] at ih
      have eg : glue [] (spl c t) = spl c t := by
        cases hx : spl c t with
        | nil => exact absurd hx (spl_ne c t)
        | cons h r => rfl
      rw [eg] at ih
      have er : out ++ toB (glue ((s.data.toList.drop fr).take (i - fr)) ([] :: spl c t)) = (out ++ [s.extract fr i]) ++ toB (spl c t) := by
        rw [glue, List.append_nil, toB, List.map_cons, List.append_assoc]
        refine congrArg (out ++ ·) (congrArg (· :: toB (spl c t)) (ba_ext' ?_))
        rw [extract_data]
      rw [er]
      refine Ev.step (fun k => ?_) ih
      show spec_l1Split.l0 (k + 1) s (c.toNat : Int) out (fr : Int) (i : Int) = _
      rw [spec_l1Split.l0, if_pos (by omega), if_pos (by omega), if_pos hb, if_pos (by omega), if_pos (by omega), if_pos (by omega), if_pos (by omega), w64 (by omega) (by omega), Int.toNat_natCast, Int.toNat_natCast, show (i : Int) + 1 = ((i + 1 : Nat) : Int) by omega]
    · rw [if_neg e]
      have ih := spec_Split_l0 s b hs d (i + 1) fr out (by omega) (by omega) (by omega)
      rw [ht] at ih
      have hw : (s.data.toList.drop fr).take (i + 1 - fr) = (s.data.toList.drop fr).take (i - fr) ++ [c] := by
        rw [show i + 1 - fr = (i - fr) + 1 by omega, List.take_add_one, List.getElem?_drop, show fr + (i - fr) = i by omega]
        have : s.data.toList[i]? = some c := by rw [List.getElem?_eq_getElem hi, hc]
        rw [this]; rfl
      have eg : glue ((s.data.toList.drop fr).take (i + 1 - fr)) (spl b t) = glue ((s.data.toList.drop fr).take (i - fr)) (match spl b t with | [] => [[c]] | h :: r => (c :: h) :: r) := by
        rw [hw]
        cases hx : spl b t with
        | nil => exact absurd hx (spl_ne b t)
        | cons h r => simp [glue]
      rw [eg] at ih
      refine Ev.step (fun k => ?_) ih
      show spec_l1Split.l0 (k + 1) s (b.toNat : Int) out (fr : Int) (i : Int) = _
      rw [spec_l1Split.l0, if_pos (by omega), if_pos (by omega), if_neg (by rw [hb]; intro h; exact e (UInt8.toNat_inj.1 (by omega))), w64 (by omega) (by omega), show (i : Int) + 1 = ((i + 1 : Nat) : Int) by omega]
theorem ev_spec_Split (s : ByteArray) (b : UInt8) (hs : s.size ≤ 2000000) : Ev (fun k => spec_l1Split.f k s (b.toNat : Int)) (toB (spl b s.data.toList)) := by
  have h := spec_Split_l0 s b hs s.size 0 0 [] (by omega) (Nat.le_refl _) (by simp)
  rw [List.nil_append, Nat.sub_self, List.take_zero, List.drop_zero] at h
  have eg : glue [] (spl b s.data.toList) = spl b s.data.toList := by
    cases hx : spl b s.data.toList with
    | nil => exact absurd hx (spl_ne b _)
    | cons h r => rfl
  rw [eg] at h
  exact h

/-- A digit. -/
def digB (x : Int) : List UInt8 := [UInt8.ofNat (48 + x.toNat)]
theorem num_digits : (List.range 10).all (fun x => decide (Lib.decDigits x = digB (x : Int))) = true := by decide +kernel

/-- What the reference reads out of a word. -/
def rdS (w : List UInt8) : Int := (spec_l1Read.f 20 ⟨w.toArray⟩).getD (-1)
theorem read_loop (s : ByteArray) (hs : s.size ≤ 6) : ∀ (d i acc k : Nat), i + d = s.size → acc < 10 ^ i →
    ∃ v : Int, spec_l1Read.l0 (k + d + 1) s (acc : Int) (i : Int) = some v ∧ (v = -1 ∨ (acc : Int) * (10 ^ d : Nat) ≤ v)
  | 0, i, acc, k, hd, ha => ⟨acc, by rw [spec_l1Read.l0, if_neg (by omega)], .inr (by simp)⟩
  | d + 1, i, acc, k, hd, ha => by
    have hi : i ≤ 5 := by omega
    have hp : 10 ^ i ≤ 100000 := Nat.le_trans (Nat.pow_le_pow_right (by omega) hi) (by decide)
    have hb := bt_range s (i : Int)
    rw [show k + (d + 1) + 1 = (k + d + 1) + 1 by omega, spec_l1Read.l0, if_pos (by omega), if_pos (by omega)]
    by_cases c : bt s (i : Int) < 48
    · exact ⟨-1, by rw [if_pos c], .inl rfl⟩
    · by_cases c2 : bt s (i : Int) > 57
      · exact ⟨-1, by rw [if_neg c, if_pos c2], .inl rfl⟩
      · obtain ⟨q, hq⟩ : ∃ q : Nat, bt s (i : Int) = 48 + (q : Int) := ⟨(bt s (i : Int) - 48).toNat, by omega⟩
        have hm : (48 + (q : Int) - 48) % 256 = (q : Int) := by omega
        obtain ⟨v, e, h⟩ := read_loop s hs d (i + 1) (10 * acc + q) k (by omega) (by rw [Nat.pow_succ]; omega)
        refine ⟨v, ?_, ?_⟩
        · rw [if_neg c, if_neg c2, hq, hm, w64 (x := 10 * (acc : Int)) (by omega) (by omega), w64 (by omega) (by omega), w64 (by omega) (by omega), show 10 * (acc : Int) + (q : Int) = ((10 * acc + q : Nat) : Int) by omega, show (i : Int) + 1 = ((i + 1 : Nat) : Int) by omega]
          exact e
        · rcases h with h | h
          · exact .inl h
          · refine .inr (Int.le_trans ?_ h)
            rw [Nat.pow_succ]
            have : ((acc * (10 ^ d * 10) : Nat) : Int) ≤ (((10 * acc + q) * 10 ^ d : Nat) : Int) := by
              refine Int.ofNat_le.2 ?_
              rw [Nat.add_mul, Nat.mul_comm (10 ^ d) 10, ← Nat.mul_assoc, Nat.mul_comm acc 10]
              exact Nat.le_add_right _ _
            simpa using this
theorem digB_of (a : UInt8) (h0 : 48 ≤ a.toNat) (h1 : a.toNat ≤ 57) : [a] = digB ((a.toNat : Int) - 48) := by
  unfold digB
  rw [show 48 + ((a.toNat : Int) - 48).toNat = a.toNat by omega, UInt8.ofNat_toNat]
theorem rdS_ok (w : List UInt8) : spec_l1Read.f 20 ⟨w.toArray⟩ = some (rdS w) ∧ (0 ≤ rdS w → rdS w ≤ 9 → w = digB (rdS w)) := by
  have hsz : (⟨w.toArray⟩ : ByteArray).size = w.length := rfl
  have key : ∃ v, spec_l1Read.f 20 ⟨w.toArray⟩ = some v ∧ (0 ≤ v → v ≤ 9 → w = digB v) := by
    by_cases hl : 1 ≤ w.length ∧ w.length ≤ 6
    · have e1 : spec_l1In.f ((⟨w.toArray⟩ : ByteArray).size : Int) 1 6 = some true := by rw [hsz, spec_l1In.f, if_pos (by omega), decide_eq_true (by omega)]
      match w, hl with
      | [a], _ =>
        have hb : bt ⟨[a].toArray⟩ 0 = (a.toNat : Int) := bt_get ⟨[a].toArray⟩ 0 a [] rfl
        have hlt := a.toNat_lt
        have h0 : spec_l1Read.f 20 ⟨[a].toArray⟩ = spec_l1Read.l0 19 ⟨[a].toArray⟩ 0 0 := by
          rw [spec_l1Read.f, e1, Option.bind_some, if_pos rfl, if_pos (by rw [hsz]; simp)]
          split
          · rw [spec_l1Read.j0, if_neg (by rw [hsz]; simp)]
          · rw [spec_l1Read.j0, if_neg (by simp)]
        rw [h0, spec_l1Read.l0, if_pos (by rw [hsz]; simp), if_pos (by omega), hb]
        by_cases c : (a.toNat : Int) < 48
        · exact ⟨-1, by rw [if_pos c], fun h => by omega⟩
        · by_cases c2 : (a.toNat : Int) > 57
          · exact ⟨-1, by rw [if_neg c, if_pos c2], fun h => by omega⟩
          · refine ⟨(a.toNat : Int) - 48, ?_, fun _ _ => digB_of a (by omega) (by omega)⟩
            rw [if_neg c, if_neg c2, w64 (x := (0 : Int) + 1) (by omega) (by omega), spec_l1Read.l0, if_neg (by rw [hsz]; simp), show wrap64 (10 * 0) = 0 from by decide +kernel, Int.zero_add, show ((a.toNat : Int) - 48) % 256 = (a.toNat : Int) - 48 by omega, w64 (by omega) (by omega)]
      | a :: b :: t, hl =>
        have hb : bt ⟨(a :: b :: t).toArray⟩ 0 = (a.toNat : Int) := bt_get ⟨(a :: b :: t).toArray⟩ 0 a (b :: t) rfl
        by_cases c48 : (a.toNat : Int) = 48
        · refine ⟨-1, ?_, fun h => by omega⟩
          rw [spec_l1Read.f, e1, Option.bind_some, if_pos rfl, if_pos (by rw [hsz]; simp; omega), hb, if_pos c48, spec_l1Read.j0, if_pos (by rw [hsz]; simp; omega)]
        · have h0 : spec_l1Read.f 20 ⟨(a :: b :: t).toArray⟩ = spec_l1Read.l0 19 ⟨(a :: b :: t).toArray⟩ 0 0 := by
            rw [spec_l1Read.f, e1, Option.bind_some, if_pos rfl, if_pos (by rw [hsz]; simp; omega), hb, if_neg c48, spec_l1Read.j0, if_neg (by simp)]
          rw [h0]
          have hln : t.length ≤ 4 := by simp at hl; omega
          by_cases c : (a.toNat : Int) < 48
          · exact ⟨-1, by rw [spec_l1Read.l0, if_pos (by rw [hsz]; simp; omega), if_pos (by omega), hb, if_pos c], fun h => by omega⟩
          · by_cases c2 : (a.toNat : Int) > 57
            · exact ⟨-1, by rw [spec_l1Read.l0, if_pos (by rw [hsz]; simp; omega), if_pos (by omega), hb, if_neg c, if_pos c2], fun h => by omega⟩
            · obtain ⟨q, hq⟩ : ∃ q : Nat, (a.toNat : Int) = 48 + (q : Int) := ⟨((a.toNat : Int) - 48).toNat, by omega⟩
              obtain ⟨v, e, h⟩ := read_loop ⟨(a :: b :: t).toArray⟩ (by rw [hsz]; simp; omega) (t.length + 1) 1 q (18 - (t.length + 2)) (by rw [hsz]; simp; omega) (by omega)
              refine ⟨v, ?_, fun h0 h9 => ?_⟩
              · rw [spec_l1Read.l0, if_pos (by rw [hsz]; simp; omega), if_pos (by omega), hb, if_neg c, if_neg c2, w64 (x := (0 : Int) + 1) (by omega) (by omega), show wrap64 (10 * 0) = 0 from by decide +kernel, Int.zero_add, hq, show (48 + (q : Int) - 48) % 256 = (q : Int) by omega, w64 (x := (q : Int)) (by omega) (by omega)]
                rw [show 18 - (t.length + 2) + (t.length + 1) + 1 = 18 by omega] at e
                exact e
              · rcases h with h | h
                · omega
                · have hp : 10 ≤ 10 ^ (t.length + 1) := by rw [Nat.pow_succ]; have := Nat.pow_pos (n := t.length) (show 0 < 10 by decide); omega
                  have hq1 : 1 ≤ q := by omega
                  have : ((1 * 10 : Nat) : Int) ≤ ((q * 10 ^ (t.length + 1) : Nat) : Int) := Int.ofNat_le.2 (Nat.mul_le_mul hq1 hp)
                  have h2 : ((q * 10 ^ (t.length + 1) : Nat) : Int) ≤ v := by simpa using h
                  omega
    · have e1 : ∃ b, spec_l1In.f ((⟨w.toArray⟩ : ByteArray).size : Int) 1 6 = some b ∧ b = false := by
        rw [hsz]
        unfold spec_l1In.f
        by_cases d : (w.length : Int) ≥ 1
        · rw [if_pos d]; exact ⟨_, rfl, decide_eq_false (by omega)⟩
        · rw [if_neg d]; exact ⟨_, rfl, rfl⟩
      obtain ⟨b, e1, rfl⟩ := e1
      exact ⟨-1, by rw [spec_l1Read.f, e1, Option.bind_some, if_neg (by simp), spec_l1Read.j0, if_pos rfl], fun h => by omega⟩
  obtain ⟨v, e, h⟩ := key
  have : rdS w = v := by rw [rdS, e]; rfl
  rw [this]
  exact ⟨e, h⟩
theorem read_small : (List.range 10).all (fun x => decide (rdS (digB (x : Int)) = (x : Int)) && decide (impl_readNumber.f ⟨(digB (x : Int)).toArray⟩ = some ((x : Int), true))) = true := by decide +kernel
theorem impl_read (w : List UInt8) (hl : w.length ≤ 2000000) : ∃ n b, impl_readNumber.f ⟨w.toArray⟩ = some (n, b) ∧ (b = true → 0 ≤ n → n ≤ 9 → w = digB n) := by
  rw [impl_readNumber.f, if_pos (show (⟨w.toArray⟩ : ByteArray).size ≤ 2000000 from hl)]
  refine ⟨_, _, rfl, ?_⟩
  have hd : (⟨w.toArray⟩ : ByteArray).data.toList = w := rfl
  rw [hd]
  cases Lib.atoiAll w with
  | ok v =>
    intro hb h0_ h9_
    have h0 : 0 ≤ v := h0_
    have h9 : v ≤ 9 := h9_
    clear h0_ h9_
    show w = digB v
    have hb' : Lib.itoa v = w := by
      have := beq_iff_eq.1 hb
      rw [Go.ByteArray.toList_eq] at this
      exact this
    have hd9 : Lib.decDigits v.toNat = digB v := by
      have h := List.all_eq_true.1 num_digits v.toNat (List.mem_range.2 (by omega))
      rw [show ((v.toNat : Nat) : Int) = v by omega, decide_eq_true_eq] at h
      exact h
    rw [← hb', Lib.itoa, if_neg (by omega), hd9]
  | range => intro hb; cases hb
  | _ => intro hb; cases hb

/-- All numbers lie from lo to hi. -/
def inAll (lo hi : Int) (l : List Int) : Bool := l.all fun n => decide (lo ≤ n) && decide (n ≤ hi)
theorem inAll_iff (lo hi : Int) (l : List Int) : inAll lo hi l = true ↔ ∀ x ∈ l, lo ≤ x ∧ x ≤ hi := by
  simp [inAll, List.all_eq_true]
theorem inAll_cons (lo hi x : Int) (l : List Int) : inAll lo hi (x :: l) = ((decide (lo ≤ x) && decide (x ≤ hi)) && inAll lo hi l) := by
  simp [inAll]

/-- Parents lead to the root in so many steps at most. -/
def climb (par : List Int) : Nat → Int → Bool
  | 0, a => decide (a ≤ 0)
  | m + 1, a => if a > 0 then climb par m (rd par (a - 1)) else true
theorem climb_more (par : List Int) : ∀ (m : Nat) (a : Int), climb par m a = true → climb par (m + 1) a = true
  | 0, a, h => by
    simp only [climb, decide_eq_true_eq] at h
    simp only [climb]
    rw [if_neg (by omega)]
  | m + 1, a, h => by
    rw [climb]
    by_cases c : a > 0
    · rw [if_pos c]
      rw [climb, if_pos c] at h
      exact climb_more par m _ h
    · rw [if_neg c]
/-- The node so many steps above. -/
def up (par : List Int) : Nat → Int → Int
  | 0, a => a
  | m + 1, a => up par m (rd par (a - 1))
theorem climb_up (par : List Int) : ∀ (m : Nat) (a : Int), climb par m a = true ↔ ∃ j, j ≤ m ∧ up par j a ≤ 0
  | 0, a => by
    simp only [climb, decide_eq_true_eq]
    constructor
    · exact fun h => ⟨0, Nat.le_refl _, h⟩
    · rintro ⟨j, hj, h⟩
      obtain rfl : j = 0 := by omega
      exact h
  | m + 1, a => by
    rw [climb]
    by_cases c : a > 0
    · rw [if_pos c, climb_up par m]
      constructor
      · rintro ⟨j, hj, h⟩
        exact ⟨j + 1, by omega, h⟩
      · rintro ⟨j, hj, h⟩
        cases j with
        | zero => exact absurd h (by simp only [up]; omega)
        | succ j => exact ⟨j, by omega, h⟩
    · rw [if_neg c]
      exact ⟨fun _ => ⟨0, by omega, by simp only [up]; omega⟩, fun _ => rfl⟩
theorem up_add (par : List Int) : ∀ (i j : Nat) (a : Int), up par (i + j) a = up par j (up par i a)
  | 0, j, a => by rw [Nat.zero_add]; rfl
  | i + 1, j, a => by
    rw [Nat.add_right_comm]
    exact up_add par i j (rd par (a - 1))
/-- Of n + 1 numbers from 1 to n two are alike. -/
theorem two_alike : ∀ (n : Nat) (f : Nat → Int), (∀ i, i ≤ n → 1 ≤ f i ∧ f i ≤ n) → ∃ i j, i < j ∧ j ≤ n ∧ f i = f j
  | 0, f, h => by have := h 0 (by omega); omega
  | n + 1, f, h => by
    by_cases c : ∃ i, i ≤ n ∧ f i = f (n + 1)
    · obtain ⟨i, hi, e⟩ := c
      exact ⟨i, n + 1, by omega, by omega, e⟩
    · -- the last one's value is left out
      let g : Nat → Int := fun i => if f i > f (n + 1) then f i - 1 else f i
      have hg : ∀ i, i ≤ n → 1 ≤ g i ∧ g i ≤ n := by
        intro i hi
        have h1 := h i (by omega)
        have h2 := h (n + 1) (by omega)
        have h3 : f i ≠ f (n + 1) := fun e => c ⟨i, hi, e⟩
        show 1 ≤ (if f i > f (n + 1) then f i - 1 else f i) ∧ (if f i > f (n + 1) then f i - 1 else f i) ≤ n
        split <;> omega
      obtain ⟨i, j, hij, hj, e⟩ := two_alike n g hg
      have h3 : f i ≠ f (n + 1) := fun e => c ⟨i, by omega, e⟩
      have h4 : f j ≠ f (n + 1) := fun e => c ⟨j, by omega, e⟩
      refine ⟨i, j, hij, by omega, ?_⟩
      have e' : (if f i > f (n + 1) then f i - 1 else f i) = (if f j > f (n + 1) then f j - 1 else f j) := e
      split at e' <;> split at e' <;> omega
/-- What is reached in n + 1 steps is reached in n. -/
theorem climb_less (par : List Int) (hp : ∀ x ∈ par, 0 ≤ x ∧ x ≤ par.length) (a : Int) (ha0 : 0 ≤ a) (ha : a ≤ par.length) (h : climb par (par.length + 1) a = true) : climb par par.length a = true := by
  rw [climb_up] at h ⊢
  obtain ⟨j, hj, hu⟩ := h
  by_cases c : ∃ i, i ≤ par.length ∧ up par i a ≤ 0
  · exact c
  · exfalso
    have hpos : ∀ i, i ≤ par.length → 1 ≤ up par i a := fun i hi => by
      have : ¬ up par i a ≤ 0 := fun e => c ⟨i, hi, e⟩
      omega
    have hle : ∀ i, i ≤ par.length → up par i a ≤ par.length := by
      intro i
      induction i with
      | zero => intro _; exact ha
      | succ i ih =>
        intro hi
        have h1 := hpos i (by omega)
        have h2 := ih (by omega)
        rw [up_add par i 1]
        have hr : rd par (up par i a - 1) ∈ par := by
          unfold rd
          rw [List.getD_eq_getElem?_getD, List.getElem?_eq_getElem (by omega)]
          exact List.getElem_mem _
        exact (hp _ hr).2
    obtain ⟨i, k, hik, hk, e⟩ := two_alike par.length (fun i => up par i a) (fun i hi => ⟨hpos i hi, hle i hi⟩)
    have e : up par i a = up par k a := e
    -- j = n + 1: the same place stood earlier
    have hj' : j = par.length + 1 := by
      rcases Nat.lt_or_ge par.length j with h1 | h1
      · omega
      · exact absurd ⟨j, h1, hu⟩ c
    have e2 : up par j a = up par (i + (j - k)) a := by
      rw [show j = k + (j - k) by omega, up_add par k, up_add par i, ← e]
      congr 1
      omega
    have := hpos (i + (j - k)) (by omega)
    omega
/-- A tree: parents lead to the root from each node. -/
def isTr (par : List Int) : Bool := decide (par.length ≤ 8) && inAll 0 par.length par && (List.range par.length).all fun i => climb par par.length ((i : Int) + 1)

/-- How many steps lead to the root, of so many at most. -/
def hgt (par : List Int) : Nat → Int → Nat
  | 0, _ => 0
  | m + 1, a => if a > 0 then hgt par m (rd par (a - 1)) + 1 else 0
theorem hgt_more (par : List Int) : ∀ (m : Nat) (a : Int), climb par m a = true → hgt par (m + 1) a = hgt par m a
  | 0, a, h => by
    simp only [climb, decide_eq_true_eq] at h
    simp only [hgt]
    rw [if_neg (by omega)]
  | m + 1, a, h => by
    rw [climb] at h
    show (if a > 0 then hgt par (m + 1) (rd par (a - 1)) + 1 else 0) = (if a > 0 then hgt par m (rd par (a - 1)) + 1 else 0)
    by_cases c : a > 0
    · rw [if_pos c] at h
      rw [if_pos c, if_pos c, hgt_more par m _ h]
    · rw [if_neg c, if_neg c]
/-- The depth of a node. -/
def dep (par : List Int) (a : Int) : Nat := hgt par par.length a
theorem isTr_iff (par : List Int) : isTr par = true ↔ par.length ≤ 8 ∧ (∀ x ∈ par, 0 ≤ x ∧ x ≤ par.length) ∧ ∀ a : Int, 1 ≤ a → a ≤ par.length → climb par par.length a = true := by
  simp only [isTr, Bool.and_eq_true, decide_eq_true_eq, inAll_iff, List.all_eq_true, List.mem_range]
  constructor
  · rintro ⟨⟨h1, h2⟩, h3⟩
    refine ⟨h1, h2, fun a ha hb => ?_⟩
    have := h3 (a - 1).toNat (by omega)
    rwa [show (((a - 1).toNat : Nat) : Int) + 1 = a by omega] at this
  · rintro ⟨h1, h2, h3⟩
    exact ⟨⟨h1, h2⟩, fun i hi => h3 _ (by omega) (by omega)⟩
theorem rd_mem (l : List Int) (i : Int) (h0 : 0 ≤ i) (h1 : i < l.length) : rd l i ∈ l := by
  unfold rd
  rw [List.getD_eq_getElem?_getD, List.getElem?_eq_getElem (by omega)]
  exact List.getElem_mem _
/-- In a tree a node is one deeper than its parent. -/
theorem dep_step (par : List Int) (ht : isTr par = true) (a : Int) (h0 : 1 ≤ a) (h1 : a ≤ par.length) : dep par a = dep par (rd par (a - 1)) + 1 := by
  obtain ⟨_, h2, h3⟩ := (isTr_iff par).1 ht
  have hc := h3 a h0 h1
  unfold dep
  obtain ⟨m, hm⟩ : ∃ m, par.length = m + 1 := ⟨par.length - 1, by omega⟩
  rw [hm] at hc ⊢
  rw [climb, if_pos (by omega)] at hc
  rw [hgt, if_pos (by omega), hgt_more par m _ hc]

theorem ev_spec_l1In (a b c : Int) : spec_l1In.f a b c = some (decide (b ≤ a) && decide (a ≤ c)) := by
  unfold spec_l1In.f
  by_cases h : a ≥ b
  · rw [if_pos h]; simp [show b ≤ a from h]
  · rw [if_neg h]; simp [show ¬ b ≤ a from h]

theorem spec_l1All_l0 (lo hi : Int) : ∀ (t p : List Int), p.length + t.length ≤ 35184372088832 →
    Ev (fun k => spec_l1All.l0 k lo hi (p ++ t) ((p ++ t).length : Int) (p.length : Int)) (inAll lo hi t)
  | [], p, _ => by
    refine Ev.ret fun k => ?_
    rw [spec_l1All.l0, if_neg (by simp)]
    rfl
  | h :: t, p, hn => by
    have hn' : p.length + t.length + 1 ≤ 35184372088832 := by simpa [Nat.add_assoc] using hn
    have hm := len_mid p h t
    rw [inAll_cons]
    cases c : decide (lo ≤ h) && decide (h ≤ hi) with
    | true =>
      have ih := spec_l1All_l0 lo hi t (p ++ [h]) (by simp; omega)
      rw [app_snoc, len_snoc] at ih
      rw [Bool.true_and]
      refine Ev.step (fun k => ?_) ih
      show spec_l1All.l0 (k + 1) lo hi (p ++ h :: t) ((p ++ h :: t).length : Int) (p.length : Int) = _
      rw [spec_l1All.l0, if_pos (by omega), if_pos (by omega), if_pos (by omega), rd_mid, ev_spec_l1In, c, Option.bind_some, if_pos rfl, w64 (by omega) (by omega)]
    | false =>
      rw [Bool.false_and]
      refine Ev.ret fun k => ?_
      rw [spec_l1All.l0, if_pos (by omega), if_pos (by omega), if_pos (by omega), rd_mid, ev_spec_l1In, c]
      rfl
theorem ev_spec_l1All (l : List Int) (lo hi : Int) (hl : l.length ≤ 35184372088832) : Ev (fun k => spec_l1All.f k l lo hi) (inAll lo hi l) :=
  spec_l1All_l0 lo hi l [] (by simpa using hl)

theorem spec_trGood_l1 (par : List Int) (n : Int) (hn : n = par.length) (hn8 : par.length ≤ 8) (hp : ∀ x ∈ par, 0 ≤ x ∧ x ≤ par.length) (w i : Int) (r : Bool) (r' : Bool) : ∀ (m : Nat) (a s : Int), 0 ≤ a → a ≤ n → 0 ≤ s → s + m = n →
    Ev (fun k => spec_trGood.l0 k par n w (wrap64 (i + 1))) r → (r' = (climb par m a && r)) → Ev (fun k => spec_trGood.l1 k par n a s w i) r'
  | 0, a, s, h0, h1, hs, hm, h, e => by
    subst e
    simp only [climb]
    by_cases c : a > 0
    · rw [decide_eq_false (by omega), Bool.false_and]
      refine Ev.ret fun k => ?_
      rw [spec_trGood.l1, if_pos c, if_pos (by omega)]
    · rw [decide_eq_true (by omega), Bool.true_and]
      refine Ev.step (fun k => ?_) h
      show spec_trGood.l1 (k + 1) par n a s w i = _
      rw [spec_trGood.l1, if_neg c]
  | m + 1, a, s, h0, h1, hs, hm, h, e => by
    subst e
    by_cases c : a > 0
    · rw [climb, if_pos c]
      have hr : rd par (a - 1) ∈ par := by
        unfold rd
        rw [List.getD_eq_getElem?_getD, List.getElem?_eq_getElem (by omega)]
        exact List.getElem_mem _
      have hb := hp _ hr
      refine Ev.step (fun k => ?_) (spec_trGood_l1 par n hn hn8 hp w i r _ m (rd par (a - 1)) (s + 1) hb.1 (by omega) (by omega) (by omega) h rfl)
      show spec_trGood.l1 (k + 1) par n a s w i = _
      rw [spec_trGood.l1, if_pos c, if_neg (by omega), w64 (x := a - 1) (by omega) (by omega), if_pos (by omega), if_pos (by omega), w64 (by omega) (by omega)]
    · rw [climb, if_neg c, Bool.true_and]
      refine Ev.step (fun k => ?_) h
      show spec_trGood.l1 (k + 1) par n a s w i = _
      rw [spec_trGood.l1, if_neg c]
theorem spec_trGood_l0 (par : List Int) (hn8 : par.length ≤ 8) (hp : ∀ x ∈ par, 0 ≤ x ∧ x ≤ par.length) : ∀ (d i : Nat), i + d = par.length →
    Ev (fun k => spec_trGood.l0 k par (par.length : Int) (par.length : Int) (i : Int)) ((List.range' i d).all fun j => climb par par.length ((j : Int) + 1))
  | 0, i, hi => by
    refine Ev.ret fun k => ?_
    rw [spec_trGood.l0, if_neg (by omega)]
    rfl
  | d + 1, i, hi => by
    have ih := spec_trGood_l0 par hn8 hp d (i + 1) (by omega)
    refine Ev.step (fun k => ?_) (spec_trGood_l1 par (par.length : Int) rfl hn8 hp (par.length : Int) (i : Int) ((List.range' (i + 1) d).all fun j => climb par par.length ((j : Int) + 1)) _ par.length ((i : Int) + 1) 0 (by omega) (by omega) (by omega) (by omega) ?_ ?_)
    · show spec_trGood.l0 (k + 1) par (par.length : Int) (par.length : Int) (i : Int) = _
      rw [spec_trGood.l0, if_pos (by omega), w64 (by omega) (by omega)]
    · rw [w64 (by omega) (by omega)]
      exact ih
    · rw [List.range'_succ, List.all_cons]
theorem ev_spec_trGood (par : List Int) (hl : par.length ≤ 35184372088832) : Ev (fun k => spec_trGood.f k par) (isTr par) := by
  by_cases c8 : par.length ≤ 8
  · cases c : inAll 0 par.length par with
    | false =>
      have e : isTr par = false := by simp [isTr, c]
      rw [e]
      refine Ev.congr (fun k => by rw [spec_trGood.f, if_neg (by omega)]) ?_
      refine Ev.bind (ev_spec_l1All par 0 par.length hl) ?_
      rw [c]
      exact Ev.ret fun k => by rw [spec_trGood.j0]; rfl
    | true =>
      have hp := (inAll_iff _ _ _).1 c
      have e : isTr par = (List.range' 0 par.length).all fun j => climb par par.length ((j : Int) + 1) := by
        simp [isTr, c, c8, List.range_eq_range']
      rw [e]
      refine Ev.congr (fun k => by rw [spec_trGood.f, if_neg (by omega)]) ?_
      refine Ev.bind (ev_spec_l1All par 0 par.length hl) ?_
      rw [c]
      refine Ev.step (fun k => by rw [spec_trGood.j0, if_neg (by simp)]) ?_
      exact spec_trGood_l0 par c8 hp par.length 0 (by omega)
  · have e : isTr par = false := by simp [isTr, c8]
    rw [e]
    refine Ev.congr (fun k => by rw [spec_trGood.f, if_pos (by omega)]) ?_
    exact Ev.ret fun k => by rw [spec_trGood.j0, if_pos rfl]

theorem slices_IndexFunc_l0 (q : Int → Bool) : ∀ (t p : List Int), p.length + t.length ≤ 35184372088832 →
    ∃ r : Int, decide (r ≥ 0) = t.any q ∧ Ev (fun k => slices_IndexFunc_int_int.l0 q k (p ++ t) ((p ++ t).length : Int) (p.length : Int)) r
  | [], p, _ => by
    refine ⟨-1, by simp, Ev.ret fun k => ?_⟩
    rw [slices_IndexFunc_int_int.l0, if_neg (by simp)]
  | h :: t, p, hn => by
    have hn' : p.length + t.length + 1 ≤ 35184372088832 := by simpa [Nat.add_assoc] using hn
    have hm := len_mid p h t
    cases c : q h with
    | true =>
      refine ⟨p.length, by simp [c], Ev.ret fun k => ?_⟩
      rw [slices_IndexFunc_int_int.l0, if_pos (by omega), if_pos (by omega), if_pos (by omega), rd_mid, c, Option.bind_some, if_pos rfl]
    | false =>
      obtain ⟨r, hr, ih⟩ := slices_IndexFunc_l0 q t (p ++ [h]) (by simp; omega)
      rw [app_snoc, len_snoc] at ih
      refine ⟨r, by simpa [c] using hr, Ev.step (fun k => ?_) ih⟩
      show slices_IndexFunc_int_int.l0 q (k + 1) (p ++ h :: t) ((p ++ h :: t).length : Int) (p.length : Int) = _
      rw [slices_IndexFunc_int_int.l0, if_pos (by omega), if_pos (by omega), if_pos (by omega), rd_mid, c, Option.bind_some, if_neg (by simp), w64 (by omega) (by omega)]
theorem ev_containsFunc (q : Int → Bool) (l : List Int) (hl : l.length ≤ 35184372088832) : Ev (fun k => slices_ContainsFunc_int_int.f q k l) (l.any q) := by
  obtain ⟨r, hr, h⟩ := slices_IndexFunc_l0 q l [] (by simpa using hl)
  rw [← hr]
  exact Ev.congr (fun k => rfl) (Ev.bind h (Ev.now _))

theorem ev_impl_between (a b c : Int) : impl_between.f a b c = some (decide (b ≤ a) && decide (a ≤ c)) := by
  unfold impl_between.f
  by_cases h : a ≥ b
  · rw [if_pos h]; simp [show b ≤ a from h]
  · rw [if_neg h]; simp [show ¬ b ≤ a from h]

theorem ev_impl_areBetween (l : List Int) (lo hi : Int) (hl : l.length ≤ 35184372088832) : Ev (fun k => impl_areBetween.f k l lo hi) (inAll lo hi l) := by
  have e : (!(l.any (impl_areBetween_1.p lo hi))) = inAll lo hi l := by
    have hp : ∀ n, impl_areBetween_1.p lo hi n = !(decide (lo ≤ n) && decide (n ≤ hi)) := fun n => by
      simp [impl_areBetween_1.p, ev_impl_between]
    unfold inAll
    induction l with
    | nil => rfl
    | cons x t ih =>
      rw [List.any_cons, List.all_cons, Bool.not_or, ih (by simp at hl; omega), hp, Bool.not_not]
  rw [← e]
  exact Ev.congr (fun k => rfl) (Ev.bind (ev_containsFunc (impl_areBetween_1.p lo hi) l hl) (Ev.now _))

theorem ev_impl_isCars (a : Int) : impl_isCars.f a = some (decide (0 ≤ a) && decide (a ≤ 8)) := by
  unfold impl_isCars.f
  rw [ev_impl_between]
  rfl

theorem impl_isTree_l1 (par : List Int) (n : Int) (hn : n = par.length) (hn8 : par.length ≤ 8) (hp : ∀ x ∈ par, 0 ≤ x ∧ x ≤ par.length) (w i : Int) (r : Bool) (r' : Bool) : ∀ (m : Nat) (a s : Int), 0 ≤ a → a ≤ n → 0 ≤ s → s + m = n + 1 →
    Ev (fun k => impl_isTree.l0 k par n w (wrap64 (i + 1))) r → (r' = (climb par m a && r)) → Ev (fun k => impl_isTree.l1 k par n a s w i) r'
  | 0, a, s, h0, h1, hs, hm, h, e => by
    subst e
    simp only [climb]
    by_cases c : a > 0
    · rw [decide_eq_false (by omega), Bool.false_and]
      refine Ev.ret fun k => ?_
      rw [impl_isTree.l1, if_pos c, if_pos (by omega)]
    · rw [decide_eq_true (by omega), Bool.true_and]
      refine Ev.step (fun k => ?_) h
      show impl_isTree.l1 (k + 1) par n a s w i = _
      rw [impl_isTree.l1, if_neg c]
  | m + 1, a, s, h0, h1, hs, hm, h, e => by
    subst e
    by_cases c : a > 0
    · rw [climb, if_pos c]
      have hr : rd par (a - 1) ∈ par := by
        unfold rd
        rw [List.getD_eq_getElem?_getD, List.getElem?_eq_getElem (by omega)]
        exact List.getElem_mem _
      have hb := hp _ hr
      refine Ev.step (fun k => ?_) (impl_isTree_l1 par n hn hn8 hp w i r _ m (rd par (a - 1)) (s + 1) hb.1 (by omega) (by omega) (by omega) h rfl)
      show impl_isTree.l1 (k + 1) par n a s w i = _
      rw [impl_isTree.l1, if_pos c, if_neg (by omega), w64 (x := a - 1) (by omega) (by omega), if_pos (by omega), if_pos (by omega), w64 (by omega) (by omega)]
    · rw [climb, if_neg c, Bool.true_and]
      refine Ev.step (fun k => ?_) h
      show impl_isTree.l1 (k + 1) par n a s w i = _
      rw [impl_isTree.l1, if_neg c]
theorem impl_isTree_l0 (par : List Int) (hn8 : par.length ≤ 8) (hp : ∀ x ∈ par, 0 ≤ x ∧ x ≤ par.length) : ∀ (d i : Nat), i + d = par.length →
    Ev (fun k => impl_isTree.l0 k par (par.length : Int) (par.length : Int) (i : Int)) ((List.range' i d).all fun j => climb par par.length ((j : Int) + 1))
  | 0, i, hi => by
    refine Ev.ret fun k => ?_
    rw [impl_isTree.l0, if_neg (by omega)]
    rfl
  | d + 1, i, hi => by
    have ih := impl_isTree_l0 par hn8 hp d (i + 1) (by omega)
    refine Ev.step (fun k => ?_) (impl_isTree_l1 par (par.length : Int) rfl hn8 hp (par.length : Int) (i : Int) ((List.range' (i + 1) d).all fun j => climb par par.length ((j : Int) + 1)) _ (par.length + 1) ((i : Int) + 1) 0 (by omega) (by omega) (by omega) (by omega) ?_ ?_)
    · show impl_isTree.l0 (k + 1) par (par.length : Int) (par.length : Int) (i : Int) = _
      rw [impl_isTree.l0, if_pos (by omega), w64 (by omega) (by omega)]
    · rw [w64 (by omega) (by omega)]
      exact ih
    · rw [List.range'_succ, List.all_cons]
      congr 1
      rw [Bool.eq_iff_iff]
      exact ⟨climb_more par _ _, climb_less par hp _ (by omega) (by omega)⟩
theorem ev_impl_isTree (par : List Int) (hl : par.length ≤ 35184372088832) : Ev (fun k => impl_isTree.f k par) (isTr par) := by
  by_cases c8 : par.length ≤ 8
  · have d8 : (decide ((0 : Int) ≤ par.length) && decide ((par.length : Int) ≤ 8)) = true := by
      rw [Bool.and_eq_true, decide_eq_true_eq, decide_eq_true_eq]; omega
    cases c : inAll 0 par.length par with
    | false =>
      have e : isTr par = false := by simp [isTr, c]
      rw [e]
      refine Ev.congr (fun k => by rw [impl_isTree.f, ev_impl_isCars, d8, Option.bind_some, if_pos rfl]) ?_
      refine Ev.bind (ev_impl_areBetween par 0 par.length hl) ?_
      rw [c]
      exact Ev.ret fun k => by rw [impl_isTree.j0]; rfl
    | true =>
      have hp := (inAll_iff _ _ _).1 c
      have e : isTr par = (List.range' 0 par.length).all fun j => climb par par.length ((j : Int) + 1) := by
        simp [isTr, c, c8, List.range_eq_range']
      rw [e]
      refine Ev.congr (fun k => by rw [impl_isTree.f, ev_impl_isCars, d8, Option.bind_some, if_pos rfl]) ?_
      refine Ev.bind (ev_impl_areBetween par 0 par.length hl) ?_
      rw [c]
      refine Ev.step (fun k => by rw [impl_isTree.j0, if_neg (by simp)]) ?_
      exact impl_isTree_l0 par c8 hp par.length 0 (by omega)
  · have e : isTr par = false := by simp [isTr, c8]
    have d8 : (decide ((0 : Int) ≤ par.length) && decide ((par.length : Int) ≤ 8)) = false := by
      rw [Bool.and_eq_false_iff]; right; exact decide_eq_false (by omega)
    rw [e]
    refine Ev.congr (fun k => by rw [impl_isTree.f, ev_impl_isCars, d8, Option.bind_some, if_neg (by simp)]) ?_
    exact Ev.ret fun k => by rw [impl_isTree.j0, if_pos rfl]

theorem rdOf_at (l : List ByteArray) (p : List ByteArray) (x : ByteArray) (t : List ByteArray) : rdOf ByteArray.empty (p ++ x :: t) (p.length : Int) = x := by
  unfold rdOf
  simp
theorem toB_cons (w : List UInt8) (r : List (List UInt8)) : toB (w :: r) = ⟨w.toArray⟩ :: toB r := rfl
theorem ev_spec_read (w : List UInt8) : Ev (fun k => spec_l1Read.f k ⟨w.toArray⟩) (rdS w) := Ev.of (fun k => spec_l1Read.mono _ k) (rdS_ok w).1
theorem spec_Parse_l0 : ∀ (t : List (List UInt8)) (p : List ByteArray) (out : List Int), out.length = p.length → p.length + t.length ≤ 3000000 →
    Ev (fun k => spec_ParseTree.l0 k out (p ++ toB t) ((p ++ toB t).length : Int) (p.length : Int)) (if isTr (out ++ t.map rdS) = true then (out ++ t.map rdS, true) else ([], false))
  | [], p, out, ho, hn => by
    rw [List.map_nil, List.append_nil]
    refine Ev.step (fun k => by rw [spec_ParseTree.l0, if_neg (by simp [toB])]) (Ev.bind (ev_spec_trGood out (by omega)) ?_)
    cases c : isTr out with
    | false => exact Ev.congr (fun k => by rw [if_neg (by simp), if_neg (by simp)]) (Ev.now _)
    | true => exact Ev.congr (fun k => by rw [if_pos rfl, if_pos rfl]) (Ev.now _)
  | w :: t, p, out, ho, hn => by
    have hn' : p.length + t.length + 1 ≤ 3000000 := by simpa [Nat.add_assoc] using hn
    have ih := spec_Parse_l0 t (p ++ [⟨w.toArray⟩]) (out ++ [rdS w]) (by simp; omega) (by simp; omega)
    have ea : (p ++ [⟨w.toArray⟩]) ++ toB t = p ++ toB (w :: t) := by simp [toB]
    have el : (((p ++ [(⟨w.toArray⟩ : ByteArray)]).length : Nat) : Int) = (p.length : Int) + 1 := by simp
    have em : (out ++ [rdS w]) ++ t.map rdS = out ++ (w :: t).map rdS := by simp
    have hm : ((p ++ toB (w :: t)).length : Int) = (p.length : Int) + t.length + 1 := by simp [toB]; omega
    rw [ea, el, em] at ih
    refine Ev.step (fun k => by rw [spec_ParseTree.l0, if_pos (by omega), if_pos (by omega), if_pos (by omega), toB_cons, rdOf_at (toB t)]) (Ev.bind (ev_spec_read w) ?_)
    exact Ev.congr (fun k => by rw [if_pos (by omega), w64 (by omega) (by omega), toB_cons]) ih
/-- What the program reads out of a word. -/
def rdI (w : List UInt8) : Int × Bool := (impl_readNumber.f ⟨w.toArray⟩).getD (0, false)
theorem rdI_ok (w : List UInt8) (hl : w.length ≤ 2000000) : impl_readNumber.f ⟨w.toArray⟩ = some (rdI w) ∧ ((rdI w).2 = true → 0 ≤ (rdI w).1 → (rdI w).1 ≤ 9 → w = digB (rdI w).1) := by
  obtain ⟨n, b, e, h⟩ := impl_read w hl
  have : rdI w = (n, b) := by rw [rdI, e]; rfl
  rw [this]
  exact ⟨e, h⟩
theorem impl_Read_l0 : ∀ (t : List (List UInt8)) (p : List ByteArray) (out : List Int), (∀ w ∈ t, w.length ≤ 2000000) → out.length = p.length → p.length + t.length ≤ 3000000 →
    Ev (fun k => impl_readNumbers.l0 k out (p ++ toB t) ((p ++ toB t).length : Int) (p.length : Int)) (if (t.all fun w => (rdI w).2) = true then (out ++ t.map (fun w => (rdI w).1), true) else ([], false))
  | [], p, out, _, ho, hn => by
    refine Ev.ret fun k => ?_
    rw [impl_readNumbers.l0, if_neg (by simp [toB]), List.map_nil, List.append_nil]
    rfl
  | w :: t, p, out, hw, ho, hn => by
    have hn' : p.length + t.length + 1 ≤ 3000000 := by simpa [Nat.add_assoc] using hn
    have ea : (p ++ [⟨w.toArray⟩]) ++ toB t = p ++ toB (w :: t) := by simp [toB]
    have el : (((p ++ [(⟨w.toArray⟩ : ByteArray)]).length : Nat) : Int) = (p.length : Int) + 1 := by simp
    have hm : ((p ++ toB (w :: t)).length : Int) = (p.length : Int) + t.length + 1 := by simp [toB]; omega
    obtain ⟨e1, _⟩ := rdI_ok w (hw w (List.mem_cons_self ..))
    rw [List.all_cons]
    cases c : (rdI w).2 with
    | false =>
      rw [Bool.false_and, if_neg (by simp)]
      refine Ev.ret fun k => ?_
      rw [impl_readNumbers.l0, if_pos (by omega), if_pos (by omega), if_pos (by omega), toB_cons, rdOf_at (toB t), e1, Option.bind_some, if_neg (by rw [c]; simp)]
    | true =>
      have ih := impl_Read_l0 t (p ++ [⟨w.toArray⟩]) (out ++ [(rdI w).1]) (fun x hx => hw x (List.mem_cons_of_mem _ hx)) (by simp; omega) (by simp; omega)
      rw [ea, el] at ih
      have em : (out ++ [(rdI w).1]) ++ t.map (fun w => (rdI w).1) = out ++ (w :: t).map (fun w => (rdI w).1) := by simp
      rw [em] at ih
      rw [Bool.true_and]
      refine Ev.step (fun k => ?_) ih
      show impl_readNumbers.l0 (k + 1) out (p ++ toB (w :: t)) ((p ++ toB (w :: t)).length : Int) (p.length : Int) = _
      rw [impl_readNumbers.l0, if_pos (by omega), if_pos (by omega), if_pos (by omega), toB_cons, rdOf_at (toB t), e1, Option.bind_some, if_pos c, if_pos (by omega), w64 (by omega) (by omega)]
theorem small_read (x : Int) (h0 : 0 ≤ x) (h9 : x ≤ 9) : rdS (digB x) = x ∧ rdI (digB x) = (x, true) := by
  have h := List.all_eq_true.1 read_small x.toNat (List.mem_range.2 (by omega))
  rw [show ((x.toNat : Nat) : Int) = x by omega] at h
  simp only [Bool.and_eq_true, decide_eq_true_eq] at h
  exact ⟨h.1, by rw [rdI, h.2]; rfl⟩
theorem isTr_small {l : List Int} (h : isTr l = true) : ∀ x ∈ l, 0 ≤ x ∧ x ≤ 9 := fun x hx => by
  obtain ⟨h8, h2, _⟩ := (isTr_iff l).1 h
  have := h2 x hx
  omega
/-- Both readings of words, where one of them gives a tree. -/
theorem words_alike (W : List (List UInt8)) (hw : ∀ w ∈ W, w.length ≤ 2000000) : (if isTr (W.map rdS) = true then (W.map rdS, true) else (([] : List Int), false)) = (if (W.all fun w => (rdI w).2) = true ∧ isTr (W.map fun w => (rdI w).1) = true then (W.map (fun w => (rdI w).1), true) else ([], false)) := by
  by_cases c : isTr (W.map rdS) = true
  · have hs := isTr_small c
    have hr : ∀ w ∈ W, rdI w = (rdS w, true) := fun w hm => by
      have h := hs _ (List.mem_map_of_mem hm)
      have e := (rdS_ok w).2 h.1 h.2
      have := (small_read (rdS w) h.1 h.2).2
      rw [← e] at this
      exact this
    have e : W.map (fun w => (rdI w).1) = W.map rdS := List.map_congr_left fun w hm => by rw [hr w hm]
    rw [if_pos c, e, if_pos ⟨List.all_eq_true.2 fun w hm => by rw [hr w hm], c⟩]
  · rw [if_neg c, if_neg]
    rintro ⟨h1, h2⟩
    have hs := isTr_small h2
    refine c ?_
    have e : W.map rdS = W.map (fun w => (rdI w).1) := List.map_congr_left fun w hm => by
      have h := hs _ (List.mem_map_of_mem (f := fun w => (rdI w).1) hm)
      have e := (rdI_ok w (hw w hm)).2 (List.all_eq_true.1 h1 w hm) h.1 h.2
      have := (small_read (rdI w).1 h.1 h.2).1
      rw [← e] at this
      exact this
    rw [e]
    exact h2
theorem parseTree_both (s : ByteArray) (hs : s.size ≤ 1048576) : ∃ r : List Int × Bool, r.1.length ≤ 35184372088832 ∧ Ev (fun k => spec_ParseTree.f k s) r ∧ Ev (fun k => impl_ParseTree.f k s) r := by
  have htl : s.toList = s.data.toList := Go.ByteArray.toList_eq s
  have hsz : s.size = s.data.toList.length := (Array.length_toList).symm
  by_cases c0 : s.data.toList = [45]
  · refine ⟨([], true), by simp, ?_, ?_⟩
    · exact Ev.congr (fun k => by rw [spec_ParseTree.f, if_pos (by rw [htl, c0])]) (Ev.now _)
    · have hp : strings_HasPrefix.f s ⟨#[45]⟩ = some true := by rw [strings_HasPrefix.f, c0]; rfl
      have ht : strings_TrimPrefix.f s ⟨#[45]⟩ = some ⟨#[]⟩ := by rw [strings_TrimPrefix.f, c0]; rfl
      have e1 : Ev (fun k => impl_readOrDash.f k s) (([] : List Int), true) := by
        refine Ev.congr (fun k => by rw [impl_readOrDash.f, if_neg (by rw [htl, c0]; simp), hp, Option.bind_some, if_pos rfl, htl, c0]) ?_
        refine Ev.step (fun k => by rw [impl_readOrDash.j0, if_neg (by simp), ht, Option.bind_some]) ?_
        refine Ev.bind (a := (([] : List Int), true)) (Ev.congr (fun k => by rw [impl_readNumbers.f, Option.bind_some, if_pos ((Go.ByteArray.toList_eq _).trans rfl)]) (Ev.now _)) (Ev.now _)
      refine Ev.bind e1 (Ev.congr (fun k => by rw [if_pos rfl]) (Ev.bind (ev_impl_isTree [] (by simp)) ?_))
      rw [show isTr [] = true from by decide +kernel]
      exact Ev.now _
  · obtain ⟨hw1, hw2⟩ := spl_len 44 s.data.toList
    have hw : ∀ w ∈ spl 44 s.data.toList, w.length ≤ 2000000 := fun w hm => by have := hw1 w hm; omega
    have hal := words_alike (spl 44 s.data.toList) hw
    have e44 : Ev (fun k => spec_l1Split.f k s 44) (toB (spl 44 s.data.toList)) := by
      have h44 : (((44 : UInt8).toNat : Nat) : Int) = 44 := rfl
      have h := ev_spec_Split s 44 (by omega)
      rwa [h44] at h
    have eS : Ev (fun k => spec_ParseTree.f k s) (if isTr ((spl 44 s.data.toList).map rdS) = true then ((spl 44 s.data.toList).map rdS, true) else ([], false)) := by
      refine Ev.congr (fun k => by rw [spec_ParseTree.f, if_neg (by rw [htl]; exact c0)]) (Ev.bind e44 ?_)
      have h := spec_Parse_l0 (spl 44 s.data.toList) [] [] rfl (by simp; omega)
      simp only [List.nil_append] at h
      exact h
    refine ⟨_, ?_, eS, ?_⟩
    · split
      · rename_i c
        have := ((isTr_iff _).1 c).1
        show (List.map rdS _).length ≤ _
        omega
      · simp
    · have fin : ∀ r : List Int × Bool, Ev (fun k => impl_readOrDash.f k s) r → (r.1.length ≤ 35184372088832) → (if isTr ((spl 44 s.data.toList).map rdS) = true then ((spl 44 s.data.toList).map rdS, true) else (([] : List Int), false)) = (if r.2 = true ∧ isTr r.1 = true then (r.1, true) else ([], false)) → Ev (fun k => impl_ParseTree.f k s) (if isTr ((spl 44 s.data.toList).map rdS) = true then ((spl 44 s.data.toList).map rdS, true) else ([], false)) := by
        intro r hr hl he
        rw [he]
        refine Ev.bind hr ?_
        by_cases c2 : r.2 = true
        · refine Ev.congr (fun k => by rw [if_pos c2]) (Ev.bind (ev_impl_isTree r.1 hl) ?_)
          by_cases c3 : isTr r.1 = true
          · rw [show (if r.2 = true ∧ isTr r.1 = true then (r.1, true) else (([] : List Int), false)) = (r.1, true) from if_pos ⟨c2, c3⟩]
            exact Ev.congr (fun k => by rw [if_pos c3]) (Ev.now _)
          · rw [show (if r.2 = true ∧ isTr r.1 = true then (r.1, true) else (([] : List Int), false)) = ([], false) from if_neg (fun h => c3 h.2)]
            exact Ev.congr (fun k => by rw [if_neg c3]) (Ev.now _)
        · rw [if_neg (fun h => c2 h.1)]
          exact Ev.congr (fun k => by rw [if_neg c2]) (Ev.now _)
      have none_ : ∀ (w : List UInt8) (r : List (List UInt8)), spl 44 s.data.toList = w :: r → (∀ x : Int, 0 ≤ x → x ≤ 9 → w ≠ digB x) → isTr ((spl 44 s.data.toList).map rdS) ≠ true := by
        intro w r he hn h
        have hs := isTr_small h (rdS w) (by rw [he]; simp)
        exact hn _ hs.1 hs.2 ((rdS_ok w).2 hs.1 hs.2)
      obtain hx | ⟨a, t, hx⟩ : s.data.toList = [] ∨ ∃ a t, s.data.toList = a :: t := by
        cases s.data.toList with
        | nil => exact .inl rfl
        | cons a t => exact .inr ⟨a, t, rfl⟩
      · refine fin ([], false) ?_ (by simp) ?_
        · exact Ev.congr (fun k => by rw [impl_readOrDash.f, if_pos (by rw [htl, hx])]) (Ev.ret fun k => by rw [impl_readOrDash.j0, if_pos rfl])
        · rw [if_neg (none_ [] [] (by rw [hx]; rfl) (fun x _ _ => by simp [digB])), if_neg (by simp)]
      · by_cases ca : a = 45
        · have hp : strings_HasPrefix.f s ⟨#[45]⟩ = some true := by rw [strings_HasPrefix.f, hx, ca]; rfl
          refine fin ([], false) ?_ (by simp) ?_
          · refine Ev.congr (fun k => by rw [impl_readOrDash.f, if_neg (by rw [htl, hx]; simp), hp, Option.bind_some, if_pos rfl, htl, bne_iff_ne.2 c0]) ?_
            exact Ev.ret fun k => by rw [impl_readOrDash.j0, if_pos rfl]
          · obtain ⟨w, r, he⟩ : ∃ w r, spl 44 s.data.toList = (45 :: w) :: r := by
              rw [hx, ca, spl, if_neg (by decide)]
              split
              · exact ⟨[], [], rfl⟩
              · exact ⟨_, _, rfl⟩
            rw [if_neg (none_ _ _ he (fun x h0 h9 e => by
              have h := (List.cons.inj e).1
              have : (45 : UInt8).toNat = (UInt8.ofNat (48 + x.toNat)).toNat := congrArg UInt8.toNat h
              rw [UInt8.toNat_ofNat_of_lt' (by show 48 + x.toNat < 256; omega)] at this
              have h45 : (45 : UInt8).toNat = 45 := rfl
              omega)), if_neg (by simp)]
        · have hpf : Go.Lib.hasPrefix s.data.toList [45] = false := by
            rw [hx]
            simp [Go.Lib.hasPrefix, List.isPrefixOf, Ne.symm ca]
          have hp : strings_HasPrefix.f s ⟨#[45]⟩ = some false := by rw [strings_HasPrefix.f, hpf]
          have ht : strings_TrimPrefix.f s ⟨#[45]⟩ = some s := by
            rw [strings_TrimPrefix.f, Go.Lib.trimPrefix, hpf, if_neg (by simp)]
          refine fin (if ((spl 44 s.data.toList).all fun w => (rdI w).2) = true then ((spl 44 s.data.toList).map (fun w => (rdI w).1), true) else ([], false)) ?_ ?_ ?_
          · refine Ev.congr (fun k => by rw [impl_readOrDash.f, if_neg (by rw [htl, hx]; simp), hp, Option.bind_some, if_neg (by simp)]) ?_
            refine Ev.step (fun k => by rw [impl_readOrDash.j0, if_neg (by simp), ht, Option.bind_some]) ?_
            refine Ev.bind ?_ (Ev.now _)
            refine Ev.congr (fun k => by rw [impl_readNumbers.f, Option.bind_some, if_neg (by rw [htl, hx]; simp), impl_Split s (by omega), Option.bind_some]) ?_
            have h := impl_Read_l0 (spl 44 s.data.toList) [] [] hw rfl (by simp; omega)
            simp only [List.nil_append] at h
            exact h
          · split
            · show (List.map _ _).length ≤ _
              rw [List.length_map]
              omega
            · simp
          · rw [hal]
            by_cases c5 : ((spl 44 s.data.toList).all fun w => (rdI w).2) = true
            · rw [if_pos c5]
              by_cases c6 : isTr ((spl 44 s.data.toList).map fun w => (rdI w).1) = true
              · rw [if_pos ⟨c5, c6⟩, if_pos ⟨rfl, c6⟩]
              · rw [if_neg (fun h => c6 h.2), if_neg (fun h => c6 h.2)]
            · rw [if_neg c5, if_neg (fun h => c5 h.1), if_neg (by simp)]
theorem FnExactParseTree : laws_FnExactParseTree.Pure := by
  intro s _
  by_cases c0 : (s.size : Int) > 1048576
  · exact ⟨0, by rw [laws_FnExactParseTree.f, if_pos c0]⟩
  obtain ⟨r, hr, hs, hi⟩ := parseTree_both s (by omega)
  refine Ev.rounds ?_
  refine Ev.congr (fun k => by rw [laws_FnExactParseTree.f, if_neg c0]) ?_
  refine Ev.bind hs (Ev.bind hi (Ev.bind (ev_eqIntS r.1 hr) ?_))
  refine Ev.congr (fun k => by rw [if_pos rfl, bne_self_eq_false]) ?_
  refine Ev.step (fun k => by rw [laws_FnExactParseTree.j0, if_neg (by simp)]) ?_
  refine Ev.bind (ev_markIntS r.1 1 (by omega) (by omega) hr) ?_
  refine Ev.bind (ev_heldIntS 1 r.1.length (by omega) (by omega) hr) ?_
  refine Ev.congr (fun k => by rw [if_neg (by omega), if_pos rfl]) ?_
  refine Ev.bind hi (Ev.bind (ev_eqIntS r.1 hr) ?_)
  refine Ev.congr (fun k => by rw [if_pos rfl, bne_self_eq_false]) ?_
  refine Ev.step (fun k => by rw [laws_FnExactParseTree.j1, if_neg (by simp)]) ?_
  refine Ev.bind (ev_heldIntS 1 r.1.length (by omega) (by omega) hr) ?_
  refine Ev.congr (fun k => by rw [if_neg (by omega), if_pos rfl]) ?_
  exact Ev.now true

end Go.Proofs.YtlknoidcopkmfaaDoor.Pure
