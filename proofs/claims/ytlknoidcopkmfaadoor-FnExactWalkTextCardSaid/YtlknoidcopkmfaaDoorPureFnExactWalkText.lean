/- WalkText of the program and of the reference agree on every walk, and the argument stays. -/
import Derived.Test.YtlknoidcopkmfaaDoorWSized
import Derived.Test.YtlknoidcopkmfaaDoorPFnExactWalkTextx
namespace Go.Proofs.YtlknoidcopkmfaaDoor.PrintWords
open Go.ChangeShapes Go.WideShapes
/-- The word by the name that the printed row asks for. -/
theorem sized_ints {H : Type} {enc : TypeId × Value → H} {P : Program} {W : World} {base : Nat} {spare : Nat → Bool} {held : Bool} {t e : TypeId} {k : IntKind} {a : Option Addr} {len cap : Nat} {d : DataW H} {ps : List MemPlace} {ts : List TypeId} {ds : List (DataW H)} {j : Nat}
    (hsz : (DataW.weightsEach P ts ds).all (· ≤ reachBytes) = true) (ht : ts[j]? = some t) (hd : ds[j]? = some d) (hu : P.underlying t = some (.slice e)) (he : P.underlying e = some (.int k)) (hc : P.cellsOf e = 1) {B : Nat} (hB : P.bytesOf e = B)
    (h : DataW.Trod enc P W base spare held t (.slice a len cap) d ps) : len * B ≤ 140737488351232 :=
  Go.Proofs.YtlknoidcopkmfaaDoorW.PrintWords.sized_ints hsz ht hd hu he hc hB h
end Go.Proofs.YtlknoidcopkmfaaDoor.PrintWords
namespace Go.Proofs.YtlknoidcopkmfaaDoor.Pure
open Go.RowKit Go.Proofs.YtlknoidcopkmfaaDoor.PFnExactWalkText Go.Proofs.YtlknoidcopkmfaaDoorW.PrintWords Go.Proofs.YtlknoidcopkmfaaDoorW.PrintLast
set_option linter.unusedVariables false
set_option linter.unusedSimpArgs false

theorem w64 {x : Int} (h0 : -9223372036854775808 ≤ x) (h1 : x ≤ 9223372036854775807) : wrap64 x = x := by
  unfold wrap64
  omega
theorem rd_mid (p : List Int) (h : Int) (t : List Int) : rd (p ++ h :: t) (p.length : Int) = h := by
  unfold rd
  simp
theorem rd_nat (l : List Int) (i : Nat) : rd l (i : Int) = l.getD i 0 := by
  unfold rd
  simp
theorem Ev.ret {α : Type} {g : Nat → Option α} {r : α} (h : ∀ k, g (k + 1) = some r) : Ev g r :=
  Ev.step (f := fun _ => some r) h (Ev.now r)

theorem toIntS_l0 : ∀ (t p : List Int), p.length + t.length ≤ 35184372088832 →
    Ev (fun k => laws_toIntS.l0 k (p ++ t) (p ++ List.replicate t.length 0) (p.length : Int)) (p ++ t)
  | [], p, _ => by
    refine Ev.ret fun k => ?_
    rw [laws_toIntS.l0, if_neg (by simp)]
    simp
  | h :: t, p, hn => by
    have hn' : p.length + t.length + 1 ≤ 35184372088832 := by simpa [Nat.add_assoc] using hn
    have ih := toIntS_l0 t (p ++ [h]) (by simp; omega)
    have e1 : (p ++ [h]) ++ t = p ++ h :: t := by simp
    have e2 : (((p ++ [h]).length : Nat) : Int) = (p.length : Int) + 1 := by simp
    rw [e1, e2] at ih
    refine Ev.step (fun k => ?_) ih
    show laws_toIntS.l0 (k + 1) (p ++ h :: t) (p ++ List.replicate (h :: t).length 0) (p.length : Int) = _
    rw [laws_toIntS.l0, if_pos (by simp; omega), if_pos (by omega), if_pos (by simp; omega), rd_mid, w64 (by omega) (by omega)]
    congr 1
    simp [List.replicate_succ, List.set_append]
theorem ev_toIntS (l : List Int) (h : l.length ≤ 35184372088832) : Ev (fun k => laws_toIntS.f k l) l := by
  have z := toIntS_l0 l [] (by simpa using h)
  refine Ev.congr (fun k => ?_) z
  show laws_toIntS.f k l = _
  rw [laws_toIntS.f, if_pos (by omega), if_pos (by simpa using h)]
  simp

theorem eqIntS_l0 : ∀ (t p : List Int), p.length + t.length ≤ 35184372088832 →
    Ev (fun k => laws_eqIntS.l0 k (p ++ t) (p ++ t) (p.length : Int)) true
  | [], p, _ => by
    refine Ev.ret fun k => ?_
    rw [laws_eqIntS.l0, if_neg (by simp)]
  | h :: t, p, hn => by
    have hn' : p.length + t.length + 1 ≤ 35184372088832 := by simpa [Nat.add_assoc] using hn
    have ih := eqIntS_l0 t (p ++ [h]) (by simp; omega)
    have e1 : (p ++ [h]) ++ t = p ++ h :: t := by simp
    have e2 : (((p ++ [h]).length : Nat) : Int) = (p.length : Int) + 1 := by simp
    rw [e1, e2] at ih
    refine Ev.step (fun k => ?_) ih
    show laws_eqIntS.l0 (k + 1) (p ++ h :: t) (p ++ h :: t) (p.length : Int) = _
    rw [laws_eqIntS.l0, if_pos (by simp; omega), if_pos (by omega), if_pos (by simp; omega), rd_mid, if_pos rfl, w64 (by omega) (by omega)]
theorem ev_eqIntS (l : List Int) (h : l.length ≤ 35184372088832) : Ev (fun k => laws_eqIntS.f k l l) true := by
  have z := eqIntS_l0 l [] (by simpa using h)
  refine Ev.congr (fun k => ?_) z
  show laws_eqIntS.f k l l = _
  rw [laws_eqIntS.f, if_pos rfl]
  rfl

theorem ev_eqWalk (a b : List Int) (ha : a.length ≤ 35184372088832) (hb : b.length ≤ 35184372088832) : Ev (fun k => laws_eqWalk.f k a b a b) true :=
  Ev.congr (fun k => rfl) (Ev.bind (ev_eqIntS a ha) (Ev.congr (fun k => if_pos rfl) (Ev.bind (ev_eqIntS b hb) (Ev.congr (fun k => if_pos rfl) (Ev.now true)))))

theorem ev_szWalk (a b : List Int) (ha : a.length ≤ maxLen) (hb : b.length ≤ maxLen) : ∃ z, laws_szWalk.f a b 1048576 = some z ∧ (0 ≤ z → a.length + b.length ≤ 1048576) := by
  have hm : maxLen ≤ 9223372036854775807 := by decide
  unfold laws_szWalk.f laws_szIntS.f
  rw [w64 (x := 1048576 - (a.length : Int)) (by omega) (by omega)]
  by_cases c : 1048576 - (a.length : Int) < 0
  · rw [if_pos c, Option.bind_some, if_pos (by omega)]
    exact ⟨-1, rfl, by omega⟩
  · rw [if_neg c, Option.bind_some, if_neg c, w64 (by omega) (by omega)]
    by_cases d : 1048576 - (a.length : Int) - (b.length : Int) < 0
    · rw [if_pos d, Option.bind_some, if_pos (by omega)]
      exact ⟨-1, rfl, by omega⟩
    · rw [if_neg d, Option.bind_some, if_neg d]
      exact ⟨_, rfl, by omega⟩
theorem ev_toWalk (a b : List Int) (ha : a.length ≤ 35184372088832) (hb : b.length ≤ 35184372088832) : Ev (fun k => laws_toWalk.f k a b) (a, b) :=
  Ev.bind (ev_toIntS a ha) (Ev.bind (ev_toIntS b hb) (Ev.now _))

/-- One step of a walk along a list: what stands behind the place. -/
theorem len_snoc (p : List Int) (h : Int) : (((p ++ [h]).length : Nat) : Int) = (p.length : Int) + 1 := by simp
theorem app_snoc (p : List Int) (h : Int) (t : List Int) : (p ++ [h]) ++ t = p ++ h :: t := by simp
theorem len_mid (p : List Int) (h : Int) (t : List Int) : ((p ++ h :: t).length : Int) = (p.length : Int) + t.length + 1 := by simp; omega

/-- A digit. -/
def digB (x : Int) : List UInt8 := [UInt8.ofNat (48 + x.toNat)]
/-- Numbers with commas between them. -/
def txtL : List Int → List UInt8
  | [] => []
  | x :: t => digB x ++ t.flatMap fun y => 44 :: digB y
theorem tail_join : ∀ (t : List Int), Lib.joinTail [44] (t.map digB) = t.flatMap fun y => 44 :: digB y
  | [] => rfl
  | x :: t => by
    have ih := tail_join t
    unfold Lib.joinTail at ih ⊢
    rw [List.map_cons, List.map_cons, List.flatten_cons, ih, List.flatMap_cons]
    rfl
theorem txt_join (l : List Int) : Lib.join (l.map digB) [44] = txtL l := by
  cases l with
  | nil => rfl
  | cons x t => rw [List.map_cons, Lib.join_cons, tail_join, txtL]
theorem num_small : (List.range 10).all (fun x => decide (strOfNums [(wrap64 (48 + (x : Int))) % 256] = ⟨(digB (x : Int)).toArray⟩) && decide (Lib.decDigits x = digB (x : Int))) = true := by decide +kernel
theorem spec_num (k : Nat) (x : Int) (h0 : 0 ≤ x) (h1 : x < 10) : spec_l1Num.f (k + 1) x = some ⟨(digB x).toArray⟩ := by
  have h := List.all_eq_true.1 num_small x.toNat (List.mem_range.2 (by omega))
  rw [show ((x.toNat : Nat) : Int) = x by omega] at h
  simp only [Bool.and_eq_true, decide_eq_true_eq] at h
  rw [spec_l1Num.f, if_pos (by omega), h.1]
theorem impl_num (x : Int) (h0 : 0 ≤ x) (h1 : x < 10) : strconv_Itoa_46.f x = some ⟨(digB x).toArray⟩ := by
  have h := List.all_eq_true.1 num_small x.toNat (List.mem_range.2 (by omega))
  rw [show ((x.toNat : Nat) : Int) = x by omega] at h
  simp only [Bool.and_eq_true, decide_eq_true_eq] at h
  rw [strconv_Itoa_46.f, if_pos ⟨h0, by omega⟩, h.2]
theorem ba_ext {a b : ByteArray} (h : a.data.toList = b.data.toList) : a = b := by
  cases a; cases b
  simpa using h
theorem ba_app (a b : ByteArray) : (a ++ b).data.toList = a.data.toList ++ b.data.toList := by
  rw [ByteArray.data_append, Array.toList_append]
theorem ba_size (a : ByteArray) : a.size = a.data.toList.length := (Array.length_toList).symm
theorem tail_len : ∀ (t : List Int), (t.flatMap fun y => 44 :: digB y).length = 2 * t.length
  | [] => rfl
  | x :: t => by
    have := tail_len t
    rw [List.flatMap_cons, List.length_append, this]
    simp [digB]
    omega
theorem spec_trText_l0 : ∀ (t p : List Int) (acc : ByteArray), 0 < p.length → p.length + t.length ≤ 1000 → acc.size ≤ 2 * p.length → (∀ x ∈ t, 0 ≤ x ∧ x < 10) →
    Ev (fun k => spec_trText.l0 k acc (p ++ t) ((p ++ t).length : Int) (p.length : Int)) ⟨(acc.data.toList ++ t.flatMap fun y => 44 :: digB y).toArray⟩
  | [], p, acc, _, _, _, _ => by
    refine Ev.ret fun k => ?_
    rw [spec_trText.l0, if_neg (by simp)]
    exact congrArg some (ba_ext (by rw [List.flatMap_nil, List.append_nil]))
  | x :: t, p, acc, hp, hn, ha, hx => by
    have hn' : p.length + t.length + 1 ≤ 1000 := by simpa [Nat.add_assoc] using hn
    have hm := len_mid p x t
    obtain ⟨x0, x1⟩ := hx x (List.mem_cons_self ..)
    have hs1 : (acc ++ (⟨#[44]⟩ : ByteArray)).size = acc.size + 1 := by rw [ba_size, ba_app, List.length_append, ← ba_size]; rfl
    have hs2 : (⟨(digB x).toArray⟩ : ByteArray).size = 1 := rfl
    have hs3 : ((acc ++ (⟨#[44]⟩ : ByteArray)) ++ (⟨(digB x).toArray⟩ : ByteArray)).size = acc.size + 2 := by rw [ba_size, ba_app, List.length_append, ← ba_size, hs1]; rfl
    have ih := spec_trText_l0 t (p ++ [x]) ((acc ++ (⟨#[44]⟩ : ByteArray)) ++ (⟨(digB x).toArray⟩ : ByteArray)) (by simp) (by simp; omega) (by rw [hs3]; simp; omega) (fun y hy => hx y (List.mem_cons_of_mem _ hy))
    rw [app_snoc, len_snoc] at ih
    have e : (((acc ++ (⟨#[44]⟩ : ByteArray)) ++ (⟨(digB x).toArray⟩ : ByteArray)).data.toList ++ t.flatMap fun y => 44 :: digB y) = acc.data.toList ++ (x :: t).flatMap fun y => 44 :: digB y := by
      rw [ba_app, ba_app, List.flatMap_cons]
      simp
    rw [e] at ih
    refine Ev.step (f := fun k => (spec_l1Num.f k x).bind fun t113 => if (acc ++ (⟨#[44]⟩ : ByteArray)).size + t113.size ≤ 9223372036854775807 then spec_trText.l0 k ((acc ++ (⟨#[44]⟩ : ByteArray)) ++ t113) (p ++ x :: t) ((p ++ x :: t).length : Int) (wrap64 ((p.length : Int) + 1)) else none) (fun k => by rw [spec_trText.l0, if_pos (by omega), if_pos (by omega), if_pos (by omega), if_pos (by omega), if_pos (by omega), rd_mid]) ?_
    refine Ev.bind (Ev.ret (fun k => spec_num k x x0 x1)) ?_
    exact Ev.congr (fun k => by rw [if_pos (by rw [hs1, hs2]; omega), w64 (by omega) (by omega)]) ih
theorem ev_spec_trText (l : List Int) (hl : l.length ≤ 8) (hx : ∀ x ∈ l, 0 ≤ x ∧ x < 10) : Ev (fun k => spec_trText.f k l) (if l.length = 0 then ⟨#[45]⟩ else ⟨(txtL l).toArray⟩) := by
  cases l with
  | nil =>
    rw [if_pos (by rfl)]
    exact Ev.congr (fun k => by rw [spec_trText.f, if_pos (by simp)]) (Ev.now _)
  | cons x t =>
    obtain ⟨x0, x1⟩ := hx x (List.mem_cons_self ..)
    rw [if_neg (by simp)]
    refine Ev.congr (fun k => by rw [spec_trText.f, if_neg (by simp; omega)]) ?_
    have ih := spec_trText_l0 t [x] ((⟨#[]⟩ : ByteArray) ++ (⟨(digB x).toArray⟩ : ByteArray)) (by simp) (by simp at hl ⊢; omega) (by rw [ba_size, ba_app]; simp [digB]) (fun y hy => hx y (List.mem_cons_of_mem _ hy))
    have e : (((⟨#[]⟩ : ByteArray) ++ (⟨(digB x).toArray⟩ : ByteArray)).data.toList ++ t.flatMap fun y => 44 :: digB y) = txtL (x :: t) := by
      rw [ba_app, txtL]
      simp
    rw [e] at ih
    have hm : ((x :: t).length : Int) = t.length + 1 := by simp
    refine Ev.step (f := fun k => (spec_l1Num.f k x).bind fun t114 => if (⟨#[]⟩ : ByteArray).size + t114.size ≤ 9223372036854775807 then spec_trText.l0 k ((⟨#[]⟩ : ByteArray) ++ t114) (x :: t) ((x :: t).length : Int) (wrap64 ((0 : Int) + 1)) else none) (fun k => by rw [spec_trText.l0, if_pos (by omega), if_pos (by omega), if_pos (by omega), if_neg (by omega)]; rfl) ?_
    refine Ev.bind (Ev.ret (fun k => spec_num k x x0 x1)) ?_
    exact Ev.congr (fun k => by rw [if_pos (Nat.le_trans (Nat.le_of_eq (show (⟨#[]⟩ : ByteArray).size + (⟨(digB x).toArray⟩ : ByteArray).size = 1 from rfl)) (by decide)), w64 (by omega) (by omega)]; rfl) ih
theorem impl_joined_l0 : ∀ (t p : List Int) (out : List ByteArray), out = p.map (fun x => ⟨(digB x).toArray⟩) → p.length + t.length ≤ 1000 → (∀ x ∈ t, 0 ≤ x ∧ x < 10) →
    Ev (fun k => impl_joined.l0 k ⟨#[44]⟩ out (p ++ t) ((p ++ t).length : Int) (p.length : Int)) ⟨(txtL (p ++ t)).toArray⟩
  | [], p, out, ho, hn, _ => by
    refine Ev.ret fun k => ?_
    have hmap : out.map (·.data.toList) = p.map digB := by rw [ho, List.map_map]; exact List.map_congr_left fun x _ => rfl
    have hj : Lib.join (out.map (·.data.toList)) (⟨#[44]⟩ : ByteArray).data.toList = txtL p := by rw [hmap]; exact txt_join p
    have hlen : (txtL p).length ≤ 3000 := by
      cases p with
      | nil => simp [txtL]
      | cons x q =>
        rw [txtL, List.length_append, tail_len]
        simp [digB] at hn ⊢
        omega
    rw [impl_joined.l0, if_neg (by simp), strings_Join.f, if_pos ⟨by rw [ho, List.length_map]; simp at hn; omega, by rw [hj]; omega⟩, hj, List.append_nil]
    rfl
  | x :: t, p, out, ho, hn, hx => by
    have hn' : p.length + t.length + 1 ≤ 1000 := by simpa [Nat.add_assoc] using hn
    have hm := len_mid p x t
    obtain ⟨x0, x1⟩ := hx x (List.mem_cons_self ..)
    have ih := impl_joined_l0 t (p ++ [x]) (out ++ [⟨(digB x).toArray⟩]) (by rw [ho, List.map_append]; rfl) (by simp; omega) (fun y hy => hx y (List.mem_cons_of_mem _ hy))
    rw [app_snoc, len_snoc] at ih
    have hol : out.length = p.length := by rw [ho, List.length_map]
    refine Ev.step (fun k => ?_) ih
    show impl_joined.l0 (k + 1) ⟨#[44]⟩ out (p ++ x :: t) ((p ++ x :: t).length : Int) (p.length : Int) = _
    rw [impl_joined.l0, if_pos (by omega), if_pos (by omega), if_pos (by omega), rd_mid, impl_num x x0 x1, Option.bind_some, if_pos (by omega), w64 (by omega) (by omega)]
theorem ev_impl_orDash (l : List Int) (hl : l.length ≤ 8) (hx : ∀ x ∈ l, 0 ≤ x ∧ x < 10) : Ev (fun k => impl_orDash.f k l) (if l.length = 0 then ⟨#[45]⟩ else ⟨(txtL l).toArray⟩) := by
  by_cases c : l.length = 0
  · rw [if_pos c]
    exact Ev.congr (fun k => by rw [impl_orDash.f, if_pos (by omega)]) (Ev.now _)
  · rw [if_neg c]
    refine Ev.congr (fun k => by rw [impl_orDash.f, if_neg (by omega)]) (Ev.bind ?_ (Ev.now _))
    have h := impl_joined_l0 l [] [] rfl (by simp; omega) hx
    exact h

/-- All numbers lie from lo to hi. -/
def inAll (lo hi : Int) (l : List Int) : Bool := l.all fun n => decide (lo ≤ n) && decide (n ≤ hi)
theorem inAll_iff (lo hi : Int) (l : List Int) : inAll lo hi l = true ↔ ∀ x ∈ l, lo ≤ x ∧ x ≤ hi := by
  simp [inAll, List.all_eq_true]
theorem inAll_cons (lo hi x : Int) (l : List Int) : inAll lo hi (x :: l) = ((decide (lo ≤ x) && decide (x ≤ hi)) && inAll lo hi l) := by
  simp [inAll]

/-- Parents lead to the root in so many steps at most. -/
def climb (par : List Int) : Nat → Int → Bool
  | 0, a => decide (a ≤ 0)
  | m + 1, a => if a > 0 then climb par m (rd par (a - 1)) else true
theorem climb_more (par : List Int) : ∀ (m : Nat) (a : Int), climb par m a = true → climb par (m + 1) a = true
  | 0, a, h => by
    simp only [climb, decide_eq_true_eq] at h
    simp only [climb]
    rw [if_neg (by omega)]
  | m + 1, a, h => by
    rw [climb]
    by_cases c : a > 0
    · rw [if_pos c]
      rw [climb, if_pos c] at h
      exact climb_more par m _ h
    · rw [if_neg c]
/-- The node so many steps above. -/
def up (par : List Int) : Nat → Int → Int
  | 0, a => a
  | m + 1, a => up par m (rd par (a - 1))
theorem climb_up (par : List Int) : ∀ (m : Nat) (a : Int), climb par m a = true ↔ ∃ j, j ≤ m ∧ up par j a ≤ 0
  | 0, a => by
    simp only [climb, decide_eq_true_eq]
    constructor
    · exact fun h => ⟨0, Nat.le_refl _, h⟩
    · rintro ⟨j, hj, h⟩
      obtain rfl : j = 0 := by omega
      exact h
  | m + 1, a => by
    rw [climb]
    by_cases c : a > 0
    · rw [if_pos c, climb_up par m]
      constructor
      · rintro ⟨j, hj, h⟩
        exact ⟨j + 1, by omega, h⟩
      · rintro ⟨j, hj, h⟩
        cases j with
        | zero => exact absurd h (by simp only [up]; omega)
        | succ j => exact ⟨j, by omega, h⟩
    · rw [if_neg c]
      exact ⟨fun _ => ⟨0, by omega, by simp only [up]; omega⟩, fun _ => rfl⟩
theorem up_add (par : List Int) : ∀ (i j : Nat) (a : Int), up par (i + j) a = up par j (up par i a)
  | 0, j, a => by rw [Nat.zero_add]; rfl
  | i + 1, j, a => by
    rw [Nat.add_right_comm]
    exact up_add par i j (rd par (a - 1))
/-- Of n + 1 numbers from 1 to n two are alike. -/
theorem two_alike : ∀ (n : Nat) (f : Nat → Int), (∀ i, i ≤ n → 1 ≤ f i ∧ f i ≤ n) → ∃ i j, i < j ∧ j ≤ n ∧ f i = f j
  | 0, f, h => by have := h 0 (by omega); omega
  | n + 1, f, h => by
    by_cases c : ∃ i, i ≤ n ∧ f i = f (n + 1)
    · obtain ⟨i, hi, e⟩ := c
      exact ⟨i, n + 1, by omega, by omega, e⟩
    · -- the last one's value is left out
      let g : Nat → Int := fun i => if f i > f (n + 1) then f i - 1 else f i
      have hg : ∀ i, i ≤ n → 1 ≤ g i ∧ g i ≤ n := by
        intro i hi
        have h1 := h i (by omega)
        have h2 := h (n + 1) (by omega)
        have h3 : f i ≠ f (n + 1) := fun e => c ⟨i, hi, e⟩
        show 1 ≤ (if f i > f (n + 1) then f i - 1 else f i) ∧ (if f i > f (n + 1) then f i - 1 else f i) ≤ n
        split <;> omega
      obtain ⟨i, j, hij, hj, e⟩ := two_alike n g hg
      have h3 : f i ≠ f (n + 1) := fun e => c ⟨i, by omega, e⟩
      have h4 : f j ≠ f (n + 1) := fun e => c ⟨j, by omega, e⟩
      refine ⟨i, j, hij, by omega, ?_⟩
      have e' : (if f i > f (n + 1) then f i - 1 else f i) = (if f j > f (n + 1) then f j - 1 else f j) := e
      split at e' <;> split at e' <;> omega
/-- What is reached in n + 1 steps is reached in n. -/
theorem climb_less (par : List Int) (hp : ∀ x ∈ par, 0 ≤ x ∧ x ≤ par.length) (a : Int) (ha0 : 0 ≤ a) (ha : a ≤ par.length) (h : climb par (par.length + 1) a = true) : climb par par.length a = true := by
  rw [climb_up] at h ⊢
  obtain ⟨j, hj, hu⟩ := h
  by_cases c : ∃ i, i ≤ par.length ∧ up par i a ≤ 0
  · exact c
  · exfalso
    have hpos : ∀ i, i ≤ par.length → 1 ≤ up par i a := fun i hi => by
      have : ¬ up par i a ≤ 0 := fun e => c ⟨i, hi, e⟩
      omega
    have hle : ∀ i, i ≤ par.length → up par i a ≤ par.length := by
      intro i
      induction i with
      | zero => intro _; exact ha
      | succ i ih =>
        intro hi
        have h1 := hpos i (by omega)
        have h2 := ih (by omega)
        rw [up_add par i 1]
        have hr : rd par (up par i a - 1) ∈ par := by
          unfold rd
          rw [List.getD_eq_getElem?_getD, List.getElem?_eq_getElem (by omega)]
          exact List.getElem_mem _
        exact (hp _ hr).2
    obtain ⟨i, k, hik, hk, e⟩ := two_alike par.length (fun i => up par i a) (fun i hi => ⟨hpos i hi, hle i hi⟩)
    have e : up par i a = up par k a := e
    -- j = n + 1: the same place stood earlier
    have hj' : j = par.length + 1 := by
      rcases Nat.lt_or_ge par.length j with h1 | h1
      · omega
      · exact absurd ⟨j, h1, hu⟩ c
    have e2 : up par j a = up par (i + (j - k)) a := by
      rw [show j = k + (j - k) by omega, up_add par k, up_add par i, ← e]
      congr 1
      omega
    have := hpos (i + (j - k)) (by omega)
    omega
/-- A tree: parents lead to the root from each node. -/
def isTr (par : List Int) : Bool := decide (par.length ≤ 8) && inAll 0 par.length par && (List.range par.length).all fun i => climb par par.length ((i : Int) + 1)

theorem nodup_at {l : List Int} (h : l.Nodup) {i j : Nat} (hi : i < j) (hj : j < l.length) : l[i]'(by omega) ≠ l[j] :=
  List.pairwise_iff_getElem.1 h i j (by omega) hj hi
theorem nodup_length (n : Nat) (l : List Int) (h : l.Nodup) (hr : ∀ v ∈ l, 0 ≤ v ∧ v ≤ n) : l.length ≤ n + 1 := by
  refine Classical.byContradiction fun c => ?_
  obtain ⟨i, j, hij, hj, e⟩ := two_alike (n + 1) (fun i => l.getD i 0 + 1) (fun i hi => by
    have hm : l.getD i 0 ∈ l := by
      rw [List.getD_eq_getElem?_getD, List.getElem?_eq_getElem (by omega)]
      exact List.getElem_mem _
    have := hr _ hm
    show 1 ≤ l.getD i 0 + 1 ∧ l.getD i 0 + 1 ≤ ((n + 1 : Nat) : Int)
    omega)
  have e2 : l.getD i 0 + 1 = l.getD j 0 + 1 := e
  rw [List.getD_eq_getElem?_getD, List.getD_eq_getElem?_getD, List.getElem?_eq_getElem (by omega), List.getElem?_eq_getElem (by omega)] at e2
  simp only [Option.getD_some] at e2
  exact nodup_at h hij (by omega) (by omega)

/-- Rising, with equal ones. -/
def Up (l : List Int) : Prop := l.Pairwise (· ≤ ·)
/-- A number put where it belongs. -/
def put (x : Int) : List Int → List Int
  | [] => [x]
  | h :: t => if x ≤ h then x :: h :: t else h :: put x t
/-- A list in order. -/
def srt : List Int → List Int
  | [] => []
  | h :: t => put h (srt t)
theorem put_perm (x : Int) : ∀ l : List Int, (put x l).Perm (x :: l)
  | [] => .refl _
  | h :: t => by
    rw [put]
    split
    · exact .refl _
    · exact ((put_perm x t).cons h).trans (.swap x h t)
theorem put_up (x : Int) : ∀ l : List Int, Up l → Up (put x l)
  | [], _ => by simp [put, Up]
  | h :: t, hl => by
    have h1 := List.pairwise_cons.1 hl
    rw [put]
    split
    · refine List.pairwise_cons.2 ⟨fun y hy => ?_, hl⟩
      rcases List.mem_cons.1 hy with e | e
      · omega
      · have := h1.1 y e; omega
    · refine List.pairwise_cons.2 ⟨fun y hy => ?_, put_up x t h1.2⟩
      rcases List.mem_cons.1 ((put_perm x t).mem_iff.1 hy) with e | e
      · omega
      · exact h1.1 y e
theorem srt_perm : ∀ l : List Int, (srt l).Perm l
  | [] => .refl _
  | h :: t => (put_perm h (srt t)).trans ((srt_perm t).cons h)
theorem srt_up : ∀ l : List Int, Up (srt l)
  | [] => by simp [srt, Up]
  | h :: t => put_up h _ (srt_up t)
theorem up_unique : ∀ (a b : List Int), Up a → Up b → a.Perm b → a = b
  | [], b, _, _, h => by simpa using h.length_eq.symm
  | x :: a, [], _, _, h => by simpa using h.length_eq
  | x :: a, y :: b, ha, hb, h => by
    have h1 := List.pairwise_cons.1 ha
    have h2 := List.pairwise_cons.1 hb
    have e : x = y := by
      have hx : x ∈ y :: b := h.mem_iff.1 (by simp)
      have hy : y ∈ x :: a := h.mem_iff.2 (by simp)
      rcases List.mem_cons.1 hx with e | e
      · exact e
      · rcases List.mem_cons.1 hy with e' | e'
        · exact e'.symm
        · have := h1.1 y e'
          have := h2.1 x e
          omega
    subst e
    rw [up_unique a b h1.2 h2.2 (List.perm_cons x |>.1 h)]

theorem rise_unique : ∀ (a b : List Int), a.Pairwise (· < ·) → b.Pairwise (· < ·) → (∀ x, x ∈ a ↔ x ∈ b) → a = b
  | [], [], _, _, _ => rfl
  | [], y :: b, _, _, h => by have := (h y).2 (by simp); simp at this
  | x :: a, [], _, _, h => by have := (h x).1 (by simp); simp at this
  | x :: a, y :: b, ha, hb, h => by
    have h1 := List.pairwise_cons.1 ha
    have h2 := List.pairwise_cons.1 hb
    have e : x = y := by
      rcases List.mem_cons.1 ((h x).1 (by simp)) with e | e
      · exact e
      · rcases List.mem_cons.1 ((h y).2 (by simp)) with e' | e'
        · exact e'.symm
        · have := h1.1 y e'
          have := h2.1 x e
          omega
    subst e
    rw [rise_unique a b h1.2 h2.2 fun z => ?_]
    constructor
    · intro hz
      rcases List.mem_cons.1 ((h z).1 (by simp [hz])) with e | e
      · have := h1.1 z hz; omega
      · exact e
    · intro hz
      rcases List.mem_cons.1 ((h z).2 (by simp [hz])) with e | e
      · have := h2.1 z hz; omega
      · exact e
theorem srt_rising (l : List Int) (h : l.Nodup) : (srt l).Pairwise (· < ·) := by
  have h1 := srt_up l
  have h2 : (srt l).Nodup := (srt_perm l).nodup_iff.2 h
  refine List.pairwise_iff_getElem.2 fun i j hi hj hij => ?_
  have h3 := List.pairwise_iff_getElem.1 h1 i j hi hj hij
  have h4 := List.pairwise_iff_getElem.1 h2 i j hi hj hij
  omega

/-- Heights that go on behind a last one. -/
def hts (last : Int) : List Int → Bool
  | [] => true
  | h :: t => decide (0 ≤ h) && decide (h ≤ last + 1) && hts h t
theorem hts_mem : ∀ (l : List Int) (last : Int), hts last l = true → ∀ x ∈ l, 0 ≤ x ∧ x ≤ last + l.length
  | [], _, _, x, hx => by cases hx
  | h :: t, last, hh, x, hx => by
    simp only [hts, Bool.and_eq_true, decide_eq_true_eq] at hh
    have e : ((h :: t).length : Int) = (t.length : Int) + 1 := by simp
    rw [e]
    cases hx with
    | head => omega
    | tail _ hx =>
      have := hts_mem t h hh.2 x hx
      omega
theorem rd_prev (q : List Int) (x : Int) (t : List Int) : rd ((q ++ [x]) ++ t) (((q ++ [x]).length : Int) - 1) = x := by
  unfold rd
  have : (((q ++ [x]).length : Int) - 1).toNat = q.length := by simp
  rw [this]
  simp

/-- How many steps lead to the root, of so many at most. -/
def hgt (par : List Int) : Nat → Int → Nat
  | 0, _ => 0
  | m + 1, a => if a > 0 then hgt par m (rd par (a - 1)) + 1 else 0
theorem hgt_more (par : List Int) : ∀ (m : Nat) (a : Int), climb par m a = true → hgt par (m + 1) a = hgt par m a
  | 0, a, h => by
    simp only [climb, decide_eq_true_eq] at h
    simp only [hgt]
    rw [if_neg (by omega)]
  | m + 1, a, h => by
    rw [climb] at h
    show (if a > 0 then hgt par (m + 1) (rd par (a - 1)) + 1 else 0) = (if a > 0 then hgt par m (rd par (a - 1)) + 1 else 0)
    by_cases c : a > 0
    · rw [if_pos c] at h
      rw [if_pos c, if_pos c, hgt_more par m _ h]
    · rw [if_neg c, if_neg c]
/-- The depth of a node. -/
def dep (par : List Int) (a : Int) : Nat := hgt par par.length a
theorem isTr_iff (par : List Int) : isTr par = true ↔ par.length ≤ 8 ∧ (∀ x ∈ par, 0 ≤ x ∧ x ≤ par.length) ∧ ∀ a : Int, 1 ≤ a → a ≤ par.length → climb par par.length a = true := by
  simp only [isTr, Bool.and_eq_true, decide_eq_true_eq, inAll_iff, List.all_eq_true, List.mem_range]
  constructor
  · rintro ⟨⟨h1, h2⟩, h3⟩
    refine ⟨h1, h2, fun a ha hb => ?_⟩
    have := h3 (a - 1).toNat (by omega)
    rwa [show (((a - 1).toNat : Nat) : Int) + 1 = a by omega] at this
  · rintro ⟨h1, h2, h3⟩
    exact ⟨⟨h1, h2⟩, fun i hi => h3 _ (by omega) (by omega)⟩
theorem rd_mem (l : List Int) (i : Int) (h0 : 0 ≤ i) (h1 : i < l.length) : rd l i ∈ l := by
  unfold rd
  rw [List.getD_eq_getElem?_getD, List.getElem?_eq_getElem (by omega)]
  exact List.getElem_mem _
/-- In a tree a node is one deeper than its parent. -/
theorem dep_step (par : List Int) (ht : isTr par = true) (a : Int) (h0 : 1 ≤ a) (h1 : a ≤ par.length) : dep par a = dep par (rd par (a - 1)) + 1 := by
  obtain ⟨_, h2, h3⟩ := (isTr_iff par).1 ht
  have hc := h3 a h0 h1
  unfold dep
  obtain ⟨m, hm⟩ : ∃ m, par.length = m + 1 := ⟨par.length - 1, by omega⟩
  rw [hm] at hc ⊢
  rw [climb, if_pos (by omega)] at hc
  rw [hgt, if_pos (by omega), hgt_more par m _ hc]

/-- So many numbers from one on. -/
def iota : Nat → Int → List Int
  | 0, _ => []
  | n + 1, i => i :: iota n (i + 1)
theorem iota_mem (x : Int) : ∀ (n : Nat) (i : Int), x ∈ iota n i ↔ i ≤ x ∧ x < i + n
  | 0, i => by
    simp only [iota, List.not_mem_nil, false_iff]
    omega
  | n + 1, i => by
    rw [iota, List.mem_cons, iota_mem x n (i + 1)]
    omega
theorem iota_rising : ∀ (n : Nat) (i : Int), (iota n i).Pairwise (· < ·)
  | 0, i => by simp [iota]
  | n + 1, i => List.pairwise_cons.2 ⟨fun x hx => by have := (iota_mem x n (i + 1)).1 hx; omega, iota_rising n (i + 1)⟩
theorem iota_length : ∀ (n : Nat) (i : Int), (iota n i).length = n
  | 0, _ => rfl
  | n + 1, i => by rw [iota, List.length_cons, iota_length n]
theorem rising_nodup {l : List Int} (h : l.Pairwise (· < ·)) : l.Nodup := h.imp fun hab => by omega
/-- Each number stands where it belongs. -/
def isUp : List Int → Int → Bool
  | [], _ => true
  | h :: t, i => decide (h = i) && isUp t (i + 1)
theorem isUp_iff : ∀ (l : List Int) (i : Int), isUp l i = true ↔ l = iota l.length i
  | [], i => by simp [isUp, iota]
  | h :: t, i => by
    rw [isUp, Bool.and_eq_true, decide_eq_true_eq, isUp_iff t (i + 1), List.length_cons, iota]
    constructor
    · rintro ⟨h1, h2⟩
      rw [h1, ← h2]
    · intro e
      injection e with h1 h2
      exact ⟨h1, h2⟩
theorem order_iff (l : List Int) : isUp (srt l) 0 = true ↔ inAll 0 ((l.length : Int) - 1) l = true ∧ l.Nodup := by
  rw [isUp_iff, (srt_perm l).length_eq, inAll_iff]
  constructor
  · intro e
    have hm : ∀ x, x ∈ l ↔ 0 ≤ x ∧ x < 0 + (l.length : Int) := fun x => by
      rw [← iota_mem x l.length 0, ← e]
      exact (srt_perm l).mem_iff.symm
    refine ⟨fun x hx => by have := (hm x).1 hx; omega, ?_⟩
    rw [← (srt_perm l).nodup_iff, e]
    exact rising_nodup (iota_rising _ _)
  · rintro ⟨h1, h2⟩
    refine rise_unique _ _ (srt_rising l h2) (iota_rising _ _) fun x => ?_
    rw [(srt_perm l).mem_iff, iota_mem]
    constructor
    · intro hx
      have := h1 x hx
      omega
    · intro hx
      refine Classical.byContradiction fun hn => ?_
      have hc : (x :: l).Nodup := List.nodup_cons.2 ⟨hn, h2⟩
      have := nodup_length (l.length - 1) (x :: l) hc fun v hv => by
        rcases List.mem_cons.1 hv with e | e
        · omega
        · have := h1 v e; omega
      rw [List.length_cons] at this
      omega
/-- Where a height is one more than the one ahead of it, labels don't fall: so many places from one on. -/
def labsFrom (H L : List Int) : Nat → Nat → Bool
  | 0, _ => true
  | d + 1, i => if rd H i = rd H ((i : Int) - 1) + 1 ∧ rd L ((i : Int) - 1) > rd L i then false else labsFrom H L d (i + 1)
theorem labsFrom_iff (H L : List Int) : ∀ (d i : Nat), labsFrom H L d i = true ↔ ∀ j : Nat, i ≤ j → j < i + d → rd H j = rd H ((j : Int) - 1) + 1 → rd L ((j : Int) - 1) ≤ rd L j
  | 0, i => by
    simp only [labsFrom, true_iff]
    intro j h1 h2
    omega
  | d + 1, i => by
    rw [labsFrom]
    have ih := labsFrom_iff H L d (i + 1)
    by_cases c : rd H i = rd H ((i : Int) - 1) + 1 ∧ rd L ((i : Int) - 1) > rd L i
    · rw [if_pos c]
      constructor
      · intro h; cases h
      · intro h
        have := h i (Nat.le_refl _) (by omega) c.1
        omega
    · rw [if_neg c, ih]
      constructor
      · intro h j h1 h2 h3
        by_cases e : j = i
        · subst e
          refine Classical.byContradiction fun h4 => c ⟨h3, by omega⟩
        · exact h j (by omega) (by omega) h3
      · intro h j h1 h2 h3
        exact h j (by omega) (by omega) h3
/-- The same, and no label stands twice. -/
def bothFrom (H L : List Int) : Nat → Nat → Bool
  | 0, _ => true
  | d + 1, i => if rd L i ∈ L.take i then false else if 0 < i ∧ rd H i = rd H ((i : Int) - 1) + 1 ∧ rd L ((i : Int) - 1) > rd L i then false else bothFrom H L d (i + 1)
theorem bothFrom_iff (H L : List Int) : ∀ (d i : Nat), bothFrom H L d i = true ↔ ∀ j : Nat, i ≤ j → j < i + d → rd L j ∉ L.take j ∧ (0 < j → rd H j = rd H ((j : Int) - 1) + 1 → rd L ((j : Int) - 1) ≤ rd L j)
  | 0, i => by
    simp only [bothFrom, true_iff]
    intro j h1 h2
    omega
  | d + 1, i => by
    rw [bothFrom]
    have ih := bothFrom_iff H L d (i + 1)
    by_cases g : rd L i ∈ L.take i
    · rw [if_pos g]
      constructor
      · intro h; cases h
      · intro h
        exact absurd g (h i (Nat.le_refl _) (by omega)).1
    · rw [if_neg g]
      by_cases c : 0 < i ∧ rd H i = rd H ((i : Int) - 1) + 1 ∧ rd L ((i : Int) - 1) > rd L i
      · rw [if_pos c]
        constructor
        · intro h; cases h
        · intro h
          have := (h i (Nat.le_refl _) (by omega)).2 c.1 c.2.1
          omega
      · rw [if_neg c, ih]
        constructor
        · intro h j h1 h2
          by_cases e : j = i
          · subst e
            exact ⟨g, fun h3 h4 => Classical.byContradiction fun h5 => c ⟨h3, h4, by omega⟩⟩
          · exact h j (by omega) (by omega)
        · intro h j h1 h2
          exact h j (by omega) (by omega)
theorem nodup_take (L : List Int) : L.Nodup ↔ ∀ j : Nat, j < L.length → rd L j ∉ L.take j := by
  constructor
  · intro h j hj hm
    obtain ⟨i, hi, e⟩ := List.mem_iff_getElem.1 hm
    rw [List.getElem_take] at e
    have hij : i < j := by simp at hi; omega
    rw [rd_nat, List.getD_eq_getElem?_getD, List.getElem?_eq_getElem hj] at e
    exact nodup_at h hij hj e
  · intro h
    refine List.pairwise_iff_getElem.2 fun i j hi hj hij e => h j hj ?_
    rw [rd_nat, List.getD_eq_getElem?_getD, List.getElem?_eq_getElem hj]
    refine List.mem_iff_getElem.2 ⟨i, by simp; omega, ?_⟩
    rw [List.getElem_take]
    exact e
theorem both_alike (H L : List Int) : bothFrom H L L.length 0 = (decide L.Nodup && labsFrom H L (L.length - 1) 1) := by
  rw [Bool.eq_iff_iff, Bool.and_eq_true, decide_eq_true_eq, bothFrom_iff, labsFrom_iff, nodup_take]
  constructor
  · intro h
    exact ⟨fun j hj => (h j (by omega) (by omega)).1, fun j h1 h2 => (h j (by omega) (by omega)).2 (by omega)⟩
  · rintro ⟨h1, h2⟩ j _ h3
    exact ⟨h1 j (by omega), fun h4 => h2 j (by omega) (by omega)⟩
/-- A walk: heights, and labels that are an order of as many and rise where heights rise. -/
def goodW (H L : List Int) : Bool := (decide (H.length ≤ 8) && hts (-1) H) && (decide ((L.length : Int) = (H.length : Int)) && (inAll 0 ((H.length : Int) - 1) L && (decide L.Nodup && labsFrom H L (L.length - 1) 1)))
theorem goodW_iff (H L : List Int) : goodW H L = true ↔ (H.length ≤ 8 ∧ hts (-1) H = true) ∧ L.length = H.length ∧ (∀ x ∈ L, 0 ≤ x ∧ x ≤ (H.length : Int) - 1) ∧ L.Nodup ∧ labsFrom H L (L.length - 1) 1 = true := by
  simp only [goodW, Bool.and_eq_true, decide_eq_true_eq, inAll_iff]
  constructor
  · rintro ⟨h1, h2, h3⟩
    exact ⟨h1, by omega, h3⟩
  · rintro ⟨h1, h2, h3⟩
    exact ⟨h1, by omega, h3⟩
theorem hts_rd {H : List Int} (h8 : H.length ≤ 8) (h : hts (-1) H = true) (i : Int) (h0 : 0 ≤ i) (h1 : i < H.length) : 0 ≤ rd H i ∧ rd H i ≤ 8 := by
  have := hts_mem H (-1) h _ (rd_mem H i h0 h1)
  omega

theorem ev_spec_l1In (a b c : Int) : spec_l1In.f a b c = some (decide (b ≤ a) && decide (a ≤ c)) := by
  unfold spec_l1In.f
  by_cases h : a ≥ b
  · rw [if_pos h]; simp [show b ≤ a from h]
  · rw [if_neg h]; simp [show ¬ b ≤ a from h]

theorem spec_waHeights_l0 : ∀ (t p : List Int) (last : Int), -1 ≤ last → last ≤ p.length → p.length + t.length ≤ 8 →
    Ev (fun k => spec_waHeights.l0 k last (p ++ t) ((p ++ t).length : Int) (p.length : Int)) (hts last t)
  | [], p, last, _, _, _ => by
    refine Ev.ret fun k => ?_
    rw [spec_waHeights.l0, if_neg (by simp)]
    rfl
  | h :: t, p, last, h0, h1, hn => by
    have hn' : p.length + t.length + 1 ≤ 8 := by simpa [Nat.add_assoc] using hn
    have e1 : (p ++ [h]) ++ t = p ++ h :: t := by simp
    have e2 : (((p ++ [h]).length : Nat) : Int) = (p.length : Int) + 1 := by simp
    by_cases c : 0 ≤ h ∧ h ≤ last + 1
    · have ih := spec_waHeights_l0 t (p ++ [h]) h (by omega) (by omega) (by simp; omega)
      rw [e1, e2] at ih
      have er : hts last (h :: t) = hts h t := by simp [hts, c]
      rw [er]
      refine Ev.step (fun k => ?_) ih
      show spec_waHeights.l0 (k + 1) last (p ++ h :: t) ((p ++ h :: t).length : Int) (p.length : Int) = _
      rw [spec_waHeights.l0, if_pos (by simp; omega), if_pos (by omega), if_pos (by simp; omega), rd_mid, ev_spec_l1In, w64 (by omega) (by omega), w64 (by omega) (by omega)]
      simp [c]
    · have er : hts last (h :: t) = false := by
        simp only [hts, Bool.and_eq_false_iff, decide_eq_false_iff_not]
        omega
      rw [er]
      refine Ev.ret fun k => ?_
      rw [spec_waHeights.l0, if_pos (by simp; omega), if_pos (by omega), if_pos (by simp; omega), rd_mid, ev_spec_l1In, w64 (by omega) (by omega)]
      have : (decide (0 ≤ h) && decide (h ≤ last + 1)) = false := by
        simp only [Bool.and_eq_false_iff, decide_eq_false_iff_not]
        omega
      rw [this]
      rfl
theorem ev_spec_waHeights (l : List Int) : Ev (fun k => spec_waHeights.f k l) (decide (l.length ≤ 8) && hts (-1) l) := by
  by_cases c : l.length ≤ 8
  · have z := spec_waHeights_l0 l [] (-1) (by omega) (by simp) (by simpa using c)
    rw [decide_eq_true c, Bool.true_and]
    refine Ev.congr (fun k => ?_) z
    show spec_waHeights.f k l = _
    rw [spec_waHeights.f, if_neg (by omega)]
    rfl
  · rw [decide_eq_false c, Bool.false_and]
    refine Ev.congr (fun k => ?_) (Ev.now false)
    show spec_waHeights.f k l = _
    rw [spec_waHeights.f, if_pos (by omega)]

theorem spec_l1All_l0 (lo hi : Int) : ∀ (t p : List Int), p.length + t.length ≤ 35184372088832 →
    Ev (fun k => spec_l1All.l0 k lo hi (p ++ t) ((p ++ t).length : Int) (p.length : Int)) (inAll lo hi t)
  | [], p, _ => by
    refine Ev.ret fun k => ?_
    rw [spec_l1All.l0, if_neg (by simp)]
    rfl
  | h :: t, p, hn => by
    have hn' : p.length + t.length + 1 ≤ 35184372088832 := by simpa [Nat.add_assoc] using hn
    have hm := len_mid p h t
    rw [inAll_cons]
    cases c : decide (lo ≤ h) && decide (h ≤ hi) with
    | true =>
      have ih := spec_l1All_l0 lo hi t (p ++ [h]) (by simp; omega)
      rw [app_snoc, len_snoc] at ih
      rw [Bool.true_and]
      refine Ev.step (fun k => ?_) ih
      show spec_l1All.l0 (k + 1) lo hi (p ++ h :: t) ((p ++ h :: t).length : Int) (p.length : Int) = _
      rw [spec_l1All.l0, if_pos (by omega), if_pos (by omega), if_pos (by omega), rd_mid, ev_spec_l1In, c, Option.bind_some, if_pos rfl, w64 (by omega) (by omega)]
    | false =>
      rw [Bool.false_and]
      refine Ev.ret fun k => ?_
      rw [spec_l1All.l0, if_pos (by omega), if_pos (by omega), if_pos (by omega), rd_mid, ev_spec_l1In, c]
      rfl
theorem ev_spec_l1All (l : List Int) (lo hi : Int) (hl : l.length ≤ 35184372088832) : Ev (fun k => spec_l1All.f k l lo hi) (inAll lo hi l) :=
  spec_l1All_l0 lo hi l [] (by simpa using hl)

theorem spec_l1Has_l0 (x : Int) : ∀ (t p : List Int), p.length + t.length ≤ 35184372088832 →
    Ev (fun k => spec_l1Has.l0 k x (p ++ t) ((p ++ t).length : Int) (p.length : Int)) (decide (x ∈ t))
  | [], p, _ => by
    refine Ev.ret fun k => ?_
    rw [spec_l1Has.l0, if_neg (by simp)]
    simp
  | h :: t, p, hn => by
    have hn' : p.length + t.length + 1 ≤ 35184372088832 := by simpa [Nat.add_assoc] using hn
    have hm := len_mid p h t
    by_cases c : h = x
    · rw [decide_eq_true (by simp [c] : x ∈ h :: t)]
      refine Ev.ret fun k => ?_
      rw [spec_l1Has.l0, if_pos (by omega), if_pos (by omega), if_pos (by omega), rd_mid, if_pos c]
    · have ih := spec_l1Has_l0 x t (p ++ [h]) (by simp; omega)
      rw [app_snoc, len_snoc] at ih
      have e : decide (x ∈ h :: t) = decide (x ∈ t) := decide_eq_decide.2 (by simp [Ne.symm c])
      rw [e]
      refine Ev.step (fun k => ?_) ih
      show spec_l1Has.l0 (k + 1) x (p ++ h :: t) ((p ++ h :: t).length : Int) (p.length : Int) = _
      rw [spec_l1Has.l0, if_pos (by omega), if_pos (by omega), if_pos (by omega), rd_mid, if_neg c, w64 (by omega) (by omega)]
theorem ev_spec_l1Has (l : List Int) (x : Int) (hl : l.length ≤ 35184372088832) : Ev (fun k => spec_l1Has.f k l x) (decide (x ∈ l)) :=
  spec_l1Has_l0 x l [] (by simpa using hl)

theorem spec_waGood_l0 (H L : List Int) (h8 : H.length ≤ 8) (hh : hts (-1) H = true) (hl : L.length = H.length) : ∀ (d i : Nat), i + d = L.length →
    Ev (fun k => spec_waGood.l0 k L (L.length : Int) (i : Int) H L) (bothFrom H L d i)
  | 0, i, hd => by
    refine Ev.ret fun k => ?_
    rw [spec_waGood.l0, if_neg (by omega), bothFrom]
  | d + 1, i, hd => by
    have ih := spec_waGood_l0 H L h8 hh hl d (i + 1) (by omega)
    rw [show ((i + 1 : Nat) : Int) = (i : Int) + 1 by omega] at ih
    rw [bothFrom]
    refine Ev.step (f := fun k => (spec_l1Has.f k (L.take i) (rd L i)).bind fun t135 => if t135 = true then some false else if (i : Int) > 0 then (if (i : Int) < (H.length : Int) then (if 0 ≤ wrap64 ((i : Int) - 1) then (if wrap64 ((i : Int) - 1) < (H.length : Int) then (if rd H i = wrap64 (rd H (wrap64 ((i : Int) - 1)) + 1) then (if wrap64 ((i : Int) - 1) < (L.length : Int) then (if rd L (wrap64 ((i : Int) - 1)) > rd L i then some false else spec_waGood.l0 k L (L.length : Int) (wrap64 ((i : Int) + 1)) H L) else none) else spec_waGood.l0 k L (L.length : Int) (wrap64 ((i : Int) + 1)) H L) else none) else none) else none) else spec_waGood.l0 k L (L.length : Int) (wrap64 ((i : Int) + 1)) H L) (fun k => ?_) (Ev.bind (ev_spec_l1Has (L.take i) (rd L i) (by simp; omega)) ?_)
    · rw [spec_waGood.l0, if_pos (by omega), if_pos (by omega), if_pos (by omega), if_pos (by omega), Int.toNat_natCast]
    · by_cases g : rd L i ∈ L.take i
      · rw [if_pos g]
        exact Ev.congr (fun k => by rw [if_pos (by simpa using g)]) (Ev.now _)
      · rw [if_neg g]
        refine Ev.congr (fun k => by rw [if_neg (by simpa using g), w64 (x := (i : Int) - 1) (by omega) (by omega), w64 (x := (i : Int) + 1) (by omega) (by omega)]) ?_
        by_cases c0 : 0 < i
        · have hr := hts_rd h8 hh ((i : Int) - 1) (by omega) (by omega)
          refine Ev.congr (fun k => by rw [if_pos (by omega), if_pos (by omega), if_pos (by omega), if_pos (by omega), w64 (by omega) (by omega)]) ?_
          by_cases c1 : rd H i = rd H ((i : Int) - 1) + 1
          · by_cases c2 : rd L ((i : Int) - 1) > rd L i
            · rw [if_pos ⟨c0, c1, c2⟩]
              exact Ev.congr (fun k => by rw [if_pos c1, if_pos (by omega), if_pos c2]) (Ev.now _)
            · rw [if_neg (fun h => c2 h.2.2)]
              exact Ev.congr (fun k => by rw [if_pos c1, if_pos (by omega), if_neg c2]) ih
          · rw [if_neg (fun h => c1 h.2.1)]
            exact Ev.congr (fun k => by rw [if_neg c1]) ih
        · rw [if_neg (fun h => c0 h.1)]
          exact Ev.congr (fun k => by rw [if_neg (by omega)]) ih
theorem spec_waGood_no (H L : List Int) : Ev (fun k => spec_waGood.j0 k true H L) false :=
  Ev.ret fun k => by rw [spec_waGood.j0, if_pos rfl]
theorem ev_spec_waGood (H L : List Int) (hL : L.length ≤ 35184372088832) : Ev (fun k => spec_waGood.f k H L) (goodW H L) := by
  refine Ev.bind (ev_spec_waHeights H) ?_
  cases c : decide (H.length ≤ 8) && hts (-1) H with
  | false =>
    rw [show goodW H L = false by rw [goodW, c, Bool.false_and]]
    exact Ev.congr (fun k => by rw [if_neg (by simp)]) (spec_waGood_no H L)
  | true =>
    have cc : H.length ≤ 8 ∧ hts (-1) H = true := by simpa using c
    refine Ev.congr (fun k => by rw [if_pos rfl]) ?_
    by_cases d : (L.length : Int) = (H.length : Int)
    · refine Ev.congr (fun k => by rw [if_pos d, w64 (by omega) (by omega)]) ?_
      refine Ev.bind (ev_spec_l1All L 0 ((H.length : Int) - 1) hL) ?_
      cases e : inAll 0 ((H.length : Int) - 1) L with
      | false =>
        rw [show goodW H L = false by rw [goodW, e, Bool.false_and, Bool.and_false, Bool.and_false]]
        exact Ev.congr (fun k => by rw [Bool.not_false]) (spec_waGood_no H L)
      | true =>
        rw [show goodW H L = bothFrom H L L.length 0 by rw [goodW, c, decide_eq_true d, e, Bool.true_and, Bool.true_and, Bool.true_and, both_alike]]
        refine Ev.step (fun k => by rw [spec_waGood.j0, if_neg (by simp)]) ?_
        exact spec_waGood_l0 H L cc.1 cc.2 (by omega) L.length 0 (by omega)
    · rw [show goodW H L = false by rw [goodW, decide_eq_false d, Bool.false_and, Bool.and_false]]
      exact Ev.congr (fun k => by rw [if_neg d]) (spec_waGood_no H L)

theorem ev_impl_between (a b c : Int) : impl_between.f a b c = some (decide (b ≤ a) && decide (a ≤ c)) := by
  unfold impl_between.f
  by_cases h : a ≥ b
  · rw [if_pos h]; simp [show b ≤ a from h]
  · rw [if_neg h]; simp [show ¬ b ≤ a from h]

theorem ev_impl_isCars (a : Int) : impl_isCars.f a = some (decide (0 ≤ a) && decide (a ≤ 8)) := by
  unfold impl_isCars.f
  rw [ev_impl_between]
  rfl

theorem impl_areHeights_l0 : ∀ (t p : List Int) (last : Int), p.length + t.length ≤ 35184372088832 →
    (p = [] ∧ last = -1 ∨ ∃ q, p = q ++ [last]) → -1 ≤ last → last < p.length →
    Ev (fun k => impl_areHeights.l0 k (p ++ t) (p ++ t) ((p ++ t).length : Int) (p.length : Int)) (hts last t && decide ((p ++ t).length ≤ 8))
  | [], p, last, _, _, _, _ => by
    refine Ev.ret fun k => ?_
    rw [impl_areHeights.l0, if_neg (by simp), ev_impl_isCars]
    simp only [hts, Bool.true_and, Option.bind_some, Option.some.injEq]
    rw [Bool.eq_iff_iff]
    simp only [Bool.and_eq_true, decide_eq_true_eq]
    omega
  | h :: t, p, last, hn, hp, h0, h1 => by
    have hn' : p.length + t.length + 1 ≤ 35184372088832 := by simpa [Nat.add_assoc] using hn
    have e1 : (p ++ [h]) ++ t = p ++ h :: t := by simp
    have e2 : (((p ++ [h]).length : Nat) : Int) = (p.length : Int) + 1 := by simp
    by_cases c : 0 ≤ h ∧ h ≤ last + 1
    · have ih := impl_areHeights_l0 t (p ++ [h]) h (by simp; omega) (.inr ⟨p, rfl⟩) (by omega) (by omega)
      rw [e1, e2] at ih
      have er : hts last (h :: t) = hts h t := by simp [hts, c]
      rw [er]
      refine Ev.step (fun k => ?_) ih
      show impl_areHeights.l0 (k + 1) (p ++ h :: t) (p ++ h :: t) ((p ++ h :: t).length : Int) (p.length : Int) = _
      rw [impl_areHeights.l0, if_pos (by simp; omega), if_pos (by omega), if_pos (by simp; omega), rd_mid, if_neg (by omega)]
      rcases hp with ⟨rfl, rfl⟩ | ⟨q, rfl⟩
      · rw [if_pos (by simp), if_neg (by omega), if_neg (by simp), w64 (by simp) (by simp)]
      · have hl : ((q ++ [last]).length : Int) = (q.length : Int) + 1 := by simp
        have ep : wrap64 (((q ++ [last]).length : Int) - 1) = ((q ++ [last]).length : Int) - 1 := w64 (by omega) (by omega)
        rw [if_neg (by omega), if_pos (by omega), ep, if_pos (by omega), if_pos (by simp; omega), rd_prev, w64 (by omega) (by omega), if_neg (by omega), w64 (by omega) (by omega)]
    · have er : hts last (h :: t) = false := by
        simp only [hts, Bool.and_eq_false_iff, decide_eq_false_iff_not]
        omega
      rw [er, Bool.false_and]
      refine Ev.ret fun k => ?_
      rw [impl_areHeights.l0, if_pos (by simp; omega), if_pos (by omega), if_pos (by simp; omega), rd_mid]
      by_cases c0 : h < 0
      · rw [if_pos c0]
      · rw [if_neg c0]
        rcases hp with ⟨rfl, rfl⟩ | ⟨q, rfl⟩
        · rw [if_pos (by simp), if_pos (by omega)]
        · have hl : ((q ++ [last]).length : Int) = (q.length : Int) + 1 := by simp
          have ep : wrap64 (((q ++ [last]).length : Int) - 1) = ((q ++ [last]).length : Int) - 1 := w64 (by omega) (by omega)
          rw [if_neg (by omega), if_pos (by omega), ep, if_pos (by omega), if_pos (by simp; omega), rd_prev, w64 (by omega) (by omega), if_pos (by omega)]
theorem ev_impl_areHeights (l : List Int) (hl : l.length ≤ 35184372088832) : Ev (fun k => impl_areHeights.f k l) (decide (l.length ≤ 8) && hts (-1) l) := by
  have z := impl_areHeights_l0 l [] (-1) (by simpa using hl) (.inl ⟨rfl, rfl⟩) (by omega) (by simp)
  rw [Bool.and_comm]
  exact z

theorem mergeSort_srt (l : List Int) : (l.mergeSort fun x y => decide (x ≤ y)) = srt l := by
  refine up_unique _ _ ?_ (srt_up l) ((List.mergeSort_perm l _).trans (srt_perm l).symm)
  have h := List.pairwise_mergeSort (le := fun x y : Int => decide (x ≤ y)) (fun a b c h1 h2 => by simp at h1 h2 ⊢; omega) (fun a b => by simp; omega) l
  exact h.imp fun hab => by simpa using hab
theorem ev_impl_sortedL (l : List Int) (hl : l.length ≤ 10000000) : Ev (fun k => impl_sorted.f k l) (srt l) := by
  refine Ev.congr (fun k => ?_) (Ev.now (srt l))
  show impl_sorted.f k l = _
  rw [impl_sorted.f, if_pos hl, slices_Sort_int_int.f, if_pos (by omega), mergeSort_srt]

theorem ev_impl_sorted (l : List Int) (hl : l.length ≤ 12) : Ev (fun k => impl_sorted.f k l) (srt l) := ev_impl_sortedL l (by omega)

theorem impl_isOrder_l0 (l0 : List Int) : ∀ (t p : List Int), p.length + t.length ≤ 35184372088832 →
    Ev (fun k => impl_isOrder.l0 k l0 (p ++ t) ((p ++ t).length : Int) (p.length : Int)) (isUp t p.length && decide ((l0.length : Int) ≤ 8))
  | [], p, _ => by
    refine Ev.ret fun k => ?_
    rw [impl_isOrder.l0, if_neg (by simp), isUp, Bool.true_and]
  | h :: t, p, hn => by
    have hn' : p.length + t.length + 1 ≤ 35184372088832 := by simpa [Nat.add_assoc] using hn
    have hm := len_mid p h t
    rw [isUp]
    by_cases c : h = (p.length : Int)
    · have ih := impl_isOrder_l0 l0 t (p ++ [h]) (by simp; omega)
      rw [app_snoc p h t, len_snoc p h] at ih
      rw [decide_eq_true c, Bool.true_and]
      refine Ev.step (fun k => ?_) ih
      show impl_isOrder.l0 (k + 1) l0 (p ++ h :: t) ((p ++ h :: t).length : Int) (p.length : Int) = _
      rw [impl_isOrder.l0, if_pos (by omega), if_pos (by omega), if_pos (by omega), rd_mid, if_pos c, w64 (by omega) (by omega)]
    · rw [decide_eq_false c, Bool.false_and, Bool.false_and]
      refine Ev.ret fun k => ?_
      rw [impl_isOrder.l0, if_pos (by omega), if_pos (by omega), if_pos (by omega), rd_mid, if_neg c]
theorem ev_impl_isOrder (l : List Int) (hl : l.length ≤ 12) : Ev (fun k => impl_isOrder.f k l) (isUp (srt l) 0 && decide ((l.length : Int) ≤ 8)) := by
  refine Ev.bind (ev_impl_sorted l hl) ?_
  exact impl_isOrder_l0 l (srt l) [] (by have := (srt_perm l).length_eq; simp; omega)

theorem impl_isWalk_l0 (H L : List Int) (h8 : H.length ≤ 8) (hh : hts (-1) H = true) (hl : L.length = H.length) : ∀ (d i : Nat), 1 ≤ i → i + d = max 1 H.length →
    Ev (fun k => impl_isWalk.l0 k (i : Int) H L) (labsFrom H L d i)
  | 0, i, h1, hd => by
    refine Ev.ret fun k => ?_
    rw [impl_isWalk.l0, if_neg (by omega), labsFrom]
  | d + 1, i, h1, hd => by
    have ih := impl_isWalk_l0 H L h8 hh hl d (i + 1) (by omega) (by omega)
    rw [show ((i + 1 : Nat) : Int) = (i : Int) + 1 by omega] at ih
    have hr := hts_rd h8 hh ((i : Int) - 1) (by omega) (by omega)
    rw [labsFrom]
    by_cases c1 : rd H i = rd H ((i : Int) - 1) + 1
    · by_cases c2 : rd L ((i : Int) - 1) > rd L i
      · rw [if_pos ⟨c1, c2⟩]
        refine Ev.ret fun k => ?_
        rw [impl_isWalk.l0, w64 (x := (i : Int) - 1) (by omega) (by omega), w64 (x := rd H ((i : Int) - 1) + 1) (by omega) (by omega), if_pos (by omega), if_pos (by omega), if_pos (by omega), if_pos (by omega), if_pos c1, if_pos (by omega), if_pos (by omega), if_pos c2]
      · rw [if_neg (fun h => c2 h.2)]
        refine Ev.step (fun k => ?_) ih
        show impl_isWalk.l0 (k + 1) (i : Int) H L = _
        rw [impl_isWalk.l0, w64 (x := (i : Int) - 1) (by omega) (by omega), w64 (x := rd H ((i : Int) - 1) + 1) (by omega) (by omega), if_pos (by omega), if_pos (by omega), if_pos (by omega), if_pos (by omega), if_pos c1, if_pos (by omega), if_pos (by omega), if_neg c2, w64 (by omega) (by omega)]
    · rw [if_neg (fun h => c1 h.1)]
      refine Ev.step (fun k => ?_) ih
      show impl_isWalk.l0 (k + 1) (i : Int) H L = _
      rw [impl_isWalk.l0, w64 (x := (i : Int) - 1) (by omega) (by omega), w64 (x := rd H ((i : Int) - 1) + 1) (by omega) (by omega), if_pos (by omega), if_pos (by omega), if_pos (by omega), if_pos (by omega), if_neg c1, w64 (by omega) (by omega)]
theorem impl_isWalk_no (H L : List Int) : Ev (fun k => impl_isWalk.j0 k true H L) false :=
  Ev.ret fun k => by rw [impl_isWalk.j0, if_pos rfl]
theorem ev_impl_isWalk (H L : List Int) (hH : H.length ≤ 35184372088832) : Ev (fun k => impl_isWalk.f k H L) (goodW H L) := by
  refine Ev.bind (ev_impl_areHeights H hH) ?_
  cases c : decide (H.length ≤ 8) && hts (-1) H with
  | false =>
    rw [show goodW H L = false by rw [goodW, c, Bool.false_and]]
    exact Ev.congr (fun k => by rw [if_neg (by simp)]) (impl_isWalk_no H L)
  | true =>
    have cc : H.length ≤ 8 ∧ hts (-1) H = true := by simpa using c
    refine Ev.congr (fun k => by rw [if_pos rfl]) ?_
    by_cases d : (L.length : Int) = (H.length : Int)
    · refine Ev.congr (fun k => by rw [if_pos d]) ?_
      refine Ev.bind (ev_impl_isOrder L (by omega)) ?_
      have e8 : decide ((L.length : Int) ≤ 8) = true := decide_eq_true (by omega)
      rw [e8, Bool.and_true]
      have ho := order_iff L
      cases e : isUp (srt L) 0 with
      | false =>
        have : goodW H L = false := by
          refine Bool.eq_false_iff.2 fun h => ?_
          obtain ⟨_, _, h3, h4, _⟩ := (goodW_iff H L).1 h
          have := ho.2 ⟨(inAll_iff _ _ _).2 fun x hx => by have := h3 x hx; omega, h4⟩
          rw [e] at this
          cases this
        rw [this]
        exact Ev.congr (fun k => by rw [Bool.not_false]) (impl_isWalk_no H L)
      | true =>
        obtain ⟨h1, h2⟩ := ho.1 e
        rw [d] at h1
        rw [show goodW H L = labsFrom H L (L.length - 1) 1 by rw [goodW, c, decide_eq_true d, h1, decide_eq_true h2, Bool.true_and, Bool.true_and, Bool.true_and, Bool.true_and]]
        refine Ev.step (fun k => by rw [impl_isWalk.j0, if_neg (by simp)]) ?_
        exact impl_isWalk_l0 H L cc.1 cc.2 (by omega) (L.length - 1) 1 (by omega) (by omega)
    · rw [show goodW H L = false by rw [goodW, decide_eq_false d, Bool.false_and, Bool.and_false]]
      exact Ev.congr (fun k => by rw [if_neg d]) (impl_isWalk_no H L)

def dashB (l : List Int) : ByteArray := if l.length = 0 then ⟨#[45]⟩ else ⟨(txtL l).toArray⟩
theorem dashB_size (l : List Int) (h8 : l.length ≤ 8) : (dashB l).size ≤ 100 := by
  unfold dashB
  split
  · decide
  · rw [ba_size]
    cases l with
    | nil => simp [txtL]
    | cons x t =>
      rw [txtL, List.toList_toArray, List.length_append, tail_len]
      simp [digB] at h8 ⊢
      omega
theorem walkText_both (l m : List Int) (hl : l.length ≤ 35184372088832) (hm : m.length ≤ 35184372088832) : ∃ r : ByteArray × Bool, Ev (fun k => spec_WalkText.f k l m) r ∧ Ev (fun k => impl_WalkText.f k l m) r := by
  cases c : goodW l m with
  | false =>
    refine ⟨(⟨#[]⟩, false), Ev.bind (ev_spec_waGood l m hm) ?_, Ev.bind (ev_impl_isWalk l m hl) ?_⟩
    · rw [c]; exact Ev.now _
    · rw [c]; exact Ev.now _
  | true =>
    obtain ⟨⟨h8, hh⟩, h2, h3, _⟩ := (goodW_iff l m).1 c
    have hx : ∀ x ∈ l, 0 ≤ x ∧ x < 10 := fun x hx => by have := hts_mem l (-1) hh x hx; omega
    have hy : ∀ x ∈ m, 0 ≤ x ∧ x < 10 := fun x hx => by have := h3 x hx; omega
    have s1 := dashB_size l h8
    have s2 := dashB_size m (by omega)
    have s3 : ((dashB l) ++ (⟨#[58]⟩ : ByteArray)).size ≤ 101 := by
      rw [ba_size, ba_app, List.length_append, ← ba_size]
      exact Nat.add_le_add s1 (Nat.le_refl 1)
    have e1 : Ev (fun k => spec_trText.f k l) (dashB l) := ev_spec_trText l h8 hx
    have e2 : Ev (fun k => spec_trText.f k m) (dashB m) := ev_spec_trText m (by omega) hy
    have e3 : Ev (fun k => impl_orDash.f k l) (dashB l) := ev_impl_orDash l h8 hx
    have e4 : Ev (fun k => impl_orDash.f k m) (dashB m) := ev_impl_orDash m (by omega) hy
    refine ⟨((dashB l ++ (⟨#[58]⟩ : ByteArray)) ++ dashB m, true), Ev.bind (ev_spec_waGood l m hm) ?_, Ev.bind (ev_impl_isWalk l m hl) ?_⟩
    · rw [c]
      refine Ev.congr (fun k => by rw [if_pos rfl]) (Ev.bind (a := (dashB l ++ (⟨#[58]⟩ : ByteArray)) ++ dashB m) ?_ (Ev.now _))
      refine Ev.bind e1 ?_
      refine Ev.congr (fun k => by rw [if_pos (show (dashB l).size + 1 ≤ 9223372036854775807 by omega)]) ?_
      refine Ev.bind e2 ?_
      exact Ev.congr (fun k => by rw [if_pos (show ((dashB l) ++ (⟨#[58]⟩ : ByteArray)).size + (dashB m).size ≤ 9223372036854775807 by omega)]) (Ev.now _)
    · rw [c]
      refine Ev.congr (fun k => by rw [if_pos rfl]) ?_
      refine Ev.bind e3 ?_
      refine Ev.congr (fun k => by rw [if_pos (show (dashB l).size + 1 ≤ 9223372036854775807 by omega)]) ?_
      refine Ev.bind e4 ?_
      exact Ev.congr (fun k => by rw [if_pos (show ((dashB l) ++ (⟨#[58]⟩ : ByteArray)).size + (dashB m).size ≤ 9223372036854775807 by omega)]) (Ev.now _)

theorem FnExactWalkText : ∀ (l m : List Int), l.length ≤ maxLen → (∀ x ∈ l, (Lit.int .i64 x).wf = true) → m.length ≤ maxLen → (∀ x ∈ m, (Lit.int .i64 x).wf = true) → ∃ k, laws_FnExactWalkText.f k l m = some true := by
  intro l m hl0 _ hm0 _
  obtain ⟨z, hz, hz2⟩ := ev_szWalk l m hl0 hm0
  by_cases c0 : z < 0
  · refine ⟨0, ?_⟩
    rw [laws_FnExactWalkText.f, hz, Option.bind_some, if_pos c0]
  have hl : l.length ≤ 35184372088832 := by omega
  have hm : m.length ≤ 35184372088832 := by omega
  obtain ⟨r, hs, hi⟩ := walkText_both l m hl hm
  refine Ev.rounds ?_
  refine Ev.congr (fun k => by rw [laws_FnExactWalkText.f, hz, Option.bind_some, if_neg c0]) ?_
  refine Ev.bind (ev_toWalk l m hl hm) ?_
  refine Ev.bind (hs) ?_
  refine Ev.bind (ev_toWalk l m hl hm) ?_
  refine Ev.bind (hi) ?_
  refine Ev.congr (fun k => by rw [if_pos rfl, bne_self_eq_false]) ?_
  refine Ev.step (fun k => by rw [laws_FnExactWalkText.j0, if_neg (by simp)]) ?_
  refine Ev.bind (ev_toWalk l m hl hm) ?_
  refine Ev.bind (ev_eqWalk l m hl hm) ?_
  refine Ev.congr (fun k => by rw [if_pos rfl]) ?_
  exact Ev.now true

end Go.Proofs.YtlknoidcopkmfaaDoor.Pure
