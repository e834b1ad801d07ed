/- TreeText of the program and of the reference agree on every list, and the argument stays. -/
import Derived.Test.YtlknoidcopkmfaaDoorWSized
import Derived.Test.YtlknoidcopkmfaaDoorPFnExactTreeTextx
namespace Go.Proofs.YtlknoidcopkmfaaDoor.PrintWords
open Go.ChangeShapes Go.WideShapes
/-- The word by the name that the printed row asks for. -/
theorem sized_ints {H : Type} {enc : TypeId × Value → H} {P : Program} {W : World} {base : Nat} {spare : Nat → Bool} {held : Bool} {t e : TypeId} {k : IntKind} {a : Option Addr} {len cap : Nat} {d : DataW H} {ps : List MemPlace} {ts : List TypeId} {ds : List (DataW H)} {j : Nat}
    (hsz : (DataW.weightsEach P ts ds).all (· ≤ reachBytes) = true) (ht : ts[j]? = some t) (hd : ds[j]? = some d) (hu : P.underlying t = some (.slice e)) (he : P.underlying e = some (.int k)) (hc : P.cellsOf e = 1) {B : Nat} (hB : P.bytesOf e = B)
    (h : DataW.Trod enc P W base spare held t (.slice a len cap) d ps) : len * B ≤ 140737488351232 :=
  Go.Proofs.YtlknoidcopkmfaaDoorW.PrintWords.sized_ints hsz ht hd hu he hc hB h
end Go.Proofs.YtlknoidcopkmfaaDoor.PrintWords
namespace Go.Proofs.YtlknoidcopkmfaaDoor.Pure
open Go.RowKit Go.Proofs.YtlknoidcopkmfaaDoor.PFnExactTreeText Go.Proofs.YtlknoidcopkmfaaDoorW.PrintWords Go.Proofs.YtlknoidcopkmfaaDoorW.PrintLast
set_option linter.unusedVariables false
set_option linter.unusedSimpArgs false

theorem w64 {x : Int} (h0 : -9223372036854775808 ≤ x) (h1 : x ≤ 9223372036854775807) : wrap64 x = x := by
  unfold wrap64
  omega
theorem rd_mid (p : List Int) (h : Int) (t : List Int) : rd (p ++ h :: t) (p.length : Int) = h := by
  unfold rd
  simp
theorem rd_nat (l : List Int) (i : Nat) : rd l (i : Int) = l.getD i 0 := by
  unfold rd
  simp
theorem Ev.ret {α : Type} {g : Nat → Option α} {r : α} (h : ∀ k, g (k + 1) = some r) : Ev g r :=
  Ev.step (f := fun _ => some r) h (Ev.now r)

theorem toIntS_l0 : ∀ (t p : List Int), p.length + t.length ≤ 35184372088832 →
    Ev (fun k => laws_toIntS.l0 k (p ++ t) (p ++ List.replicate t.length 0) (p.length : Int)) (p ++ t)
  | [], p, _ => by
    refine Ev.ret fun k => ?_
    rw [laws_toIntS.l0, if_neg (by simp)]
    simp
  | h :: t, p, hn => by
    have hn' : p.length + t.length + 1 ≤ 35184372088832 := by simpa [Nat.add_assoc] using hn
    have ih := toIntS_l0 t (p ++ [h]) (by simp; omega)
    have e1 : (p ++ [h]) ++ t = p ++ h :: t := by simp
    have e2 : (((p ++ [h]).length : Nat) : Int) = (p.length : Int) + 1 := by simp
    rw [e1, e2] at ih
    refine Ev.step (fun k => ?_) ih
    show laws_toIntS.l0 (k + 1) (p ++ h :: t) (p ++ List.replicate (h :: t).length 0) (p.length : Int) = _
    rw [laws_toIntS.l0, if_pos (by simp; omega), if_pos (by omega), if_pos (by simp; omega), rd_mid, w64 (by omega) (by omega)]
    congr 1
    simp [List.replicate_succ, List.set_append]
theorem ev_toIntS (l : List Int) (h : l.length ≤ 35184372088832) : Ev (fun k => laws_toIntS.f k l) l := by
  have z := toIntS_l0 l [] (by simpa using h)
  refine Ev.congr (fun k => ?_) z
  show laws_toIntS.f k l = _
  rw [laws_toIntS.f, if_pos (by omega), if_pos (by simpa using h)]
  simp

theorem eqIntS_l0 : ∀ (t p : List Int), p.length + t.length ≤ 35184372088832 →
    Ev (fun k => laws_eqIntS.l0 k (p ++ t) (p ++ t) (p.length : Int)) true
  | [], p, _ => by
    refine Ev.ret fun k => ?_
    rw [laws_eqIntS.l0, if_neg (by simp)]
  | h :: t, p, hn => by
    have hn' : p.length + t.length + 1 ≤ 35184372088832 := by simpa [Nat.add_assoc] using hn
    have ih := eqIntS_l0 t (p ++ [h]) (by simp; omega)
    have e1 : (p ++ [h]) ++ t = p ++ h :: t := by simp
    have e2 : (((p ++ [h]).length : Nat) : Int) = (p.length : Int) + 1 := by simp
    rw [e1, e2] at ih
    refine Ev.step (fun k => ?_) ih
    show laws_eqIntS.l0 (k + 1) (p ++ h :: t) (p ++ h :: t) (p.length : Int) = _
    rw [laws_eqIntS.l0, if_pos (by simp; omega), if_pos (by omega), if_pos (by simp; omega), rd_mid, if_pos rfl, w64 (by omega) (by omega)]
theorem ev_eqIntS (l : List Int) (h : l.length ≤ 35184372088832) : Ev (fun k => laws_eqIntS.f k l l) true := by
  have z := eqIntS_l0 l [] (by simpa using h)
  refine Ev.congr (fun k => ?_) z
  show laws_eqIntS.f k l l = _
  rw [laws_eqIntS.f, if_pos rfl]
  rfl

/-- One step of a walk along a list: what stands behind the place. -/
theorem len_snoc (p : List Int) (h : Int) : (((p ++ [h]).length : Nat) : Int) = (p.length : Int) + 1 := by simp
theorem app_snoc (p : List Int) (h : Int) (t : List Int) : (p ++ [h]) ++ t = p ++ h :: t := by simp
theorem len_mid (p : List Int) (h : Int) (t : List Int) : ((p ++ h :: t).length : Int) = (p.length : Int) + t.length + 1 := by simp; omega

/-- A digit. -/
def digB (x : Int) : List UInt8 := [UInt8.ofNat (48 + x.toNat)]
/-- Numbers with commas between them. -/
def txtL : List Int → List UInt8
  | [] => []
  | x :: t => digB x ++ t.flatMap fun y => 44 :: digB y
theorem tail_join : ∀ (t : List Int), Lib.joinTail [44] (t.map digB) = t.flatMap fun y => 44 :: digB y
  | [] => rfl
  | x :: t => by
    have ih := tail_join t
    unfold Lib.joinTail at ih ⊢
    rw [List.map_cons, List.map_cons, List.flatten_cons, ih, List.flatMap_cons]
    rfl
theorem txt_join (l : List Int) : Lib.join (l.map digB) [44] = txtL l := by
  cases l with
  | nil => rfl
  | cons x t => rw [List.map_cons, Lib.join_cons, tail_join, txtL]
theorem num_small : (List.range 10).all (fun x => decide (strOfNums [(wrap64 (48 + (x : Int))) % 256] = ⟨(digB (x : Int)).toArray⟩) && decide (Lib.decDigits x = digB (x : Int))) = true := by decide +kernel
theorem spec_num (k : Nat) (x : Int) (h0 : 0 ≤ x) (h1 : x < 10) : spec_l1Num.f (k + 1) x = some ⟨(digB x).toArray⟩ := by
  have h := List.all_eq_true.1 num_small x.toNat (List.mem_range.2 (by omega))
  rw [show ((x.toNat : Nat) : Int) = x by omega] at h
  simp only [Bool.and_eq_true, decide_eq_true_eq] at h
  rw [spec_l1Num.f, if_pos (by omega), h.1]
theorem impl_num (x : Int) (h0 : 0 ≤ x) (h1 : x < 10) : strconv_Itoa_46.f x = some ⟨(digB x).toArray⟩ := by
  have h := List.all_eq_true.1 num_small x.toNat (List.mem_range.2 (by omega))
  rw [show ((x.toNat : Nat) : Int) = x by omega] at h
  simp only [Bool.and_eq_true, decide_eq_true_eq] at h
  rw [strconv_Itoa_46.f, if_pos ⟨h0, by omega⟩, h.2]
theorem ba_ext {a b : ByteArray} (h : a.data.toList = b.data.toList) : a = b := by
  cases a; cases b
  simpa using h
theorem ba_app (a b : ByteArray) : (a ++ b).data.toList = a.data.toList ++ b.data.toList := by
  rw [ByteArray.data_append, Array.toList_append]
theorem ba_size (a : ByteArray) : a.size = a.data.toList.length := (Array.length_toList).symm
theorem tail_len : ∀ (t : List Int), (t.flatMap fun y => 44 :: digB y).length = 2 * t.length
  | [] => rfl
  | x :: t => by
    have := tail_len t
    rw [List.flatMap_cons, List.length_append, this]
    simp [digB]
    omega
theorem spec_trText_l0 : ∀ (t p : List Int) (acc : ByteArray), 0 < p.length → p.length + t.length ≤ 1000 → acc.size ≤ 2 * p.length → (∀ x ∈ t, 0 ≤ x ∧ x < 10) →
    Ev (fun k => spec_trText.l0 k acc (p ++ t) ((p ++ t).length : Int) (p.length : Int)) ⟨(acc.data.toList ++ t.flatMap fun y => 44 :: digB y).toArray⟩
  | [], p, acc, _, _, _, _ => by
    refine Ev.ret fun k => ?_
    rw [spec_trText.l0, if_neg (by simp)]
    exact congrArg some (ba_ext (by rw [List.flatMap_nil, List.append_nil]))
  | x :: t, p, acc, hp, hn, ha, hx => by
    have hn' : p.length + t.length + 1 ≤ 1000 := by simpa [Nat.add_assoc] using hn
    have hm := len_mid p x t
    obtain ⟨x0, x1⟩ := hx x (List.mem_cons_self ..)
    have hs1 : (acc ++ (⟨#[44]⟩ : ByteArray)).size = acc.size + 1 := by rw [ba_size, ba_app, List.length_append, ← ba_size]; rfl
    have hs2 : (⟨(digB x).toArray⟩ : ByteArray).size = 1 := rfl
    have hs3 : ((acc ++ (⟨#[44]⟩ : ByteArray)) ++ (⟨(digB x).toArray⟩ : ByteArray)).size = acc.size + 2 := by rw [ba_size, ba_app, List.length_append, ← ba_size, hs1]; rfl
    have ih := spec_trText_l0 t (p ++ [x]) ((acc ++ (⟨#[44]⟩ : ByteArray)) ++ (⟨(digB x).toArray⟩ : ByteArray)) (by simp) (by simp; omega) (by rw [hs3]; simp; omega) (fun y hy => hx y (List.mem_cons_of_mem _ hy))
    rw [app_snoc, len_snoc] at ih
    have e : (((acc ++ (⟨#[44]⟩ : ByteArray)) ++ (⟨(digB x).toArray⟩ : ByteArray)).data.toList ++ t.flatMap fun y => 44 :: digB y) = acc.data.toList ++ (x :: t).flatMap fun y => 44 :: digB y := by
      rw [ba_app, ba_app, List.flatMap_cons]
      simp
    rw [e] at ih
    refine Ev.step (f := fun k => (spec_l1Num.f k x).bind fun t113 => if (acc ++ (⟨#[44]⟩ : ByteArray)).size + t113.size ≤ 9223372036854775807 then spec_trText.l0 k ((acc ++ (⟨#[44]⟩ : ByteArray)) ++ t113) (p ++ x :: t) ((p ++ x :: t).length : Int) (wrap64 ((p.length : Int) + 1)) else none) (fun k => by rw [spec_trText.l0, if_pos (by omega), if_pos (by omega), if_pos (by omega), if_pos (by omega), if_pos (by omega), rd_mid]) ?_
    refine Ev.bind (Ev.ret (fun k => spec_num k x x0 x1)) ?_
    exact Ev.congr (fun k => by rw [if_pos (by rw [hs1, hs2]; omega), w64 (by omega) (by omega)]) ih
theorem ev_spec_trText (l : List Int) (hl : l.length ≤ 8) (hx : ∀ x ∈ l, 0 ≤ x ∧ x < 10) : Ev (fun k => spec_trText.f k l) (if l.length = 0 then ⟨#[45]⟩ else ⟨(txtL l).toArray⟩) := by
  cases l with
  | nil =>
    rw [if_pos (by rfl)]
    exact Ev.congr (fun k => by rw [spec_trText.f, if_pos (by simp)]) (Ev.now _)
  | cons x t =>
    obtain ⟨x0, x1⟩ := hx x (List.mem_cons_self ..)
    rw [if_neg (by simp)]
    refine Ev.congr (fun k => by rw [spec_trText.f, if_neg (by simp; omega)]) ?_
    have ih := spec_trText_l0 t [x] ((⟨#[]⟩ : ByteArray) ++ (⟨(digB x).toArray⟩ : ByteArray)) (by simp) (by simp at hl ⊢; omega) (by rw [ba_size, ba_app]; simp [digB]) (fun y hy => hx y (List.mem_cons_of_mem _ hy))
    have e : (((⟨#[]⟩ : ByteArray) ++ (⟨(digB x).toArray⟩ : ByteArray)).data.toList ++ t.flatMap fun y => 44 :: digB y) = txtL (x :: t) := by
      rw [ba_app, txtL]
      simp
    rw [e] at ih
    have hm : ((x :: t).length : Int) = t.length + 1 := by simp
    refine Ev.step (f := fun k => (spec_l1Num.f k x).bind fun t114 => if (⟨#[]⟩ : ByteArray).size + t114.size ≤ 9223372036854775807 then spec_trText.l0 k ((⟨#[]⟩ : ByteArray) ++ t114) (x :: t) ((x :: t).length : Int) (wrap64 ((0 : Int) + 1)) else none) (fun k => by rw [spec_trText.l0, if_pos (by omega), if_pos (by omega), if_pos (by omega), if_neg (by omega)]; rfl) ?_
    refine Ev.bind (Ev.ret (fun k => spec_num k x x0 x1)) ?_
    exact Ev.congr (fun k => by rw [if_pos (Nat.le_trans (Nat.le_of_eq (show (⟨#[]⟩ : ByteArray).size + (⟨(digB x).toArray⟩ : ByteArray).size = 1 from rfl)) (by decide)), w64 (by omega) (by omega)]; rfl) ih
theorem impl_joined_l0 : ∀ (t p : List Int) (out : List ByteArray), out = p.map (fun x => ⟨(digB x).toArray⟩) → p.length + t.length ≤ 1000 → (∀ x ∈ t, 0 ≤ x ∧ x < 10) →
    Ev (fun k => impl_joined.l0 k ⟨#[44]⟩ out (p ++ t) ((p ++ t).length : Int) (p.length : Int)) ⟨(txtL (p ++ t)).toArray⟩
  | [], p, out, ho, hn, _ => by
    refine Ev.ret fun k => ?_
    have hmap : out.map (·.data.toList) = p.map digB := by rw [ho, List.map_map]; exact List.map_congr_left fun x _ => rfl
    have hj : Lib.join (out.map (·.data.toList)) (⟨#[44]⟩ : ByteArray).data.toList = txtL p := by rw [hmap]; exact txt_join p
    have hlen : (txtL p).length ≤ 3000 := by
      cases p with
      | nil => simp [txtL]
      | cons x q =>
        rw [txtL, List.length_append, tail_len]
        simp [digB] at hn ⊢
        omega
    rw [impl_joined.l0, if_neg (by simp), strings_Join.f, if_pos ⟨by rw [ho, List.length_map]; simp at hn; omega, by rw [hj]; omega⟩, hj, List.append_nil]
    rfl
  | x :: t, p, out, ho, hn, hx => by
    have hn' : p.length + t.length + 1 ≤ 1000 := by simpa [Nat.add_assoc] using hn
    have hm := len_mid p x t
    obtain ⟨x0, x1⟩ := hx x (List.mem_cons_self ..)
    have ih := impl_joined_l0 t (p ++ [x]) (out ++ [⟨(digB x).toArray⟩]) (by rw [ho, List.map_append]; rfl) (by simp; omega) (fun y hy => hx y (List.mem_cons_of_mem _ hy))
    rw [app_snoc, len_snoc] at ih
    have hol : out.length = p.length := by rw [ho, List.length_map]
    refine Ev.step (fun k => ?_) ih
    show impl_joined.l0 (k + 1) ⟨#[44]⟩ out (p ++ x :: t) ((p ++ x :: t).length : Int) (p.length : Int) = _
    rw [impl_joined.l0, if_pos (by omega), if_pos (by omega), if_pos (by omega), rd_mid, impl_num x x0 x1, Option.bind_some, if_pos (by omega), w64 (by omega) (by omega)]
theorem ev_impl_orDash (l : List Int) (hl : l.length ≤ 8) (hx : ∀ x ∈ l, 0 ≤ x ∧ x < 10) : Ev (fun k => impl_orDash.f k l) (if l.length = 0 then ⟨#[45]⟩ else ⟨(txtL l).toArray⟩) := by
  by_cases c : l.length = 0
  · rw [if_pos c]
    exact Ev.congr (fun k => by rw [impl_orDash.f, if_pos (by omega)]) (Ev.now _)
  · rw [if_neg c]
    refine Ev.congr (fun k => by rw [impl_orDash.f, if_neg (by omega)]) (Ev.bind ?_ (Ev.now _))
    have h := impl_joined_l0 l [] [] rfl (by simp; omega) hx
    exact h

/-- All numbers lie from lo to hi. -/
def inAll (lo hi : Int) (l : List Int) : Bool := l.all fun n => decide (lo ≤ n) && decide (n ≤ hi)
theorem inAll_iff (lo hi : Int) (l : List Int) : inAll lo hi l = true ↔ ∀ x ∈ l, lo ≤ x ∧ x ≤ hi := by
  simp [inAll, List.all_eq_true]
theorem inAll_cons (lo hi x : Int) (l : List Int) : inAll lo hi (x :: l) = ((decide (lo ≤ x) && decide (x ≤ hi)) && inAll lo hi l) := by
  simp [inAll]

/-- Parents lead to the root in so many steps at most. -/
def climb (par : List Int) : Nat → Int → Bool
  | 0, a => decide (a ≤ 0)
  | m + 1, a => if a > 0 then climb par m (rd par (a - 1)) else true
theorem climb_more (par : List Int) : ∀ (m : Nat) (a : Int), climb par m a = true → climb par (m + 1) a = true
  | 0, a, h => by
    simp only [climb, decide_eq_true_eq] at h
    simp only [climb]
    rw [if_neg (by omega)]
  | m + 1, a, h => by
    rw [climb]
    by_cases c : a > 0
    · rw [if_pos c]
      rw [climb, if_pos c] at h
      exact climb_more par m _ h
    · rw [if_neg c]
/-- The node so many steps above. -/
def up (par : List Int) : Nat → Int → Int
  | 0, a => a
  | m + 1, a => up par m (rd par (a - 1))
theorem climb_up (par : List Int) : ∀ (m : Nat) (a : Int), climb par m a = true ↔ ∃ j, j ≤ m ∧ up par j a ≤ 0
  | 0, a => by
    simp only [climb, decide_eq_true_eq]
    constructor
    · exact fun h => ⟨0, Nat.le_refl _, h⟩
    · rintro ⟨j, hj, h⟩
      obtain rfl : j = 0 := by omega
      exact h
  | m + 1, a => by
    rw [climb]
    by_cases c : a > 0
    · rw [if_pos c, climb_up par m]
      constructor
      · rintro ⟨j, hj, h⟩
        exact ⟨j + 1, by omega, h⟩
      · rintro ⟨j, hj, h⟩
        cases j with
        | zero => exact absurd h (by simp only [up]; omega)
        | succ j => exact ⟨j, by omega, h⟩
    · rw [if_neg c]
      exact ⟨fun _ => ⟨0, by omega, by simp only [up]; omega⟩, fun _ => rfl⟩
theorem up_add (par : List Int) : ∀ (i j : Nat) (a : Int), up par (i + j) a = up par j (up par i a)
  | 0, j, a => by rw [Nat.zero_add]; rfl
  | i + 1, j, a => by
    rw [Nat.add_right_comm]
    exact up_add par i j (rd par (a - 1))
/-- Of n + 1 numbers from 1 to n two are alike. -/
theorem two_alike : ∀ (n : Nat) (f : Nat → Int), (∀ i, i ≤ n → 1 ≤ f i ∧ f i ≤ n) → ∃ i j, i < j ∧ j ≤ n ∧ f i = f j
  | 0, f, h => by have := h 0 (by omega); omega
  | n + 1, f, h => by
    by_cases c : ∃ i, i ≤ n ∧ f i = f (n + 1)
    · obtain ⟨i, hi, e⟩ := c
      exact ⟨i, n + 1, by omega, by omega, e⟩
    · -- the last one's value is left out
      let g : Nat → Int := fun i => if f i > f (n + 1) then f i - 1 else f i
      have hg : ∀ i, i ≤ n → 1 ≤ g i ∧ g i ≤ n := by
        intro i hi
        have h1 := h i (by omega)
        have h2 := h (n + 1) (by omega)
        have h3 : f i ≠ f (n + 1) := fun e => c ⟨i, hi, e⟩
        show 1 ≤ (if f i > f (n + 1) then f i - 1 else f i) ∧ (if f i > f (n + 1) then f i - 1 else f i) ≤ n
        split <;> omega
      obtain ⟨i, j, hij, hj, e⟩ := two_alike n g hg
      have h3 : f i ≠ f (n + 1) := fun e => c ⟨i, by omega, e⟩
      have h4 : f j ≠ f (n + 1) := fun e => c ⟨j, by omega, e⟩
      refine ⟨i, j, hij, by omega, ?_⟩
      have e' : (if f i > f (n + 1) then f i - 1 else f i) = (if f j > f (n + 1) then f j - 1 else f j) := e
      split at e' <;> split at e' <;> omega
/-- What is reached in n + 1 steps is reached in n. -/
theorem climb_less (par : List Int) (hp : ∀ x ∈ par, 0 ≤ x ∧ x ≤ par.length) (a : Int) (ha0 : 0 ≤ a) (ha : a ≤ par.length) (h : climb par (par.length + 1) a = true) : climb par par.length a = true := by
  rw [climb_up] at h ⊢
  obtain ⟨j, hj, hu⟩ := h
  by_cases c : ∃ i, i ≤ par.length ∧ up par i a ≤ 0
  · exact c
  · exfalso
    have hpos : ∀ i, i ≤ par.length → 1 ≤ up par i a := fun i hi => by
      have : ¬ up par i a ≤ 0 := fun e => c ⟨i, hi, e⟩
      omega
    have hle : ∀ i, i ≤ par.length → up par i a ≤ par.length := by
      intro i
      induction i with
      | zero => intro _; exact ha
      | succ i ih =>
        intro hi
        have h1 := hpos i (by omega)
        have h2 := ih (by omega)
        rw [up_add par i 1]
        have hr : rd par (up par i a - 1) ∈ par := by
          unfold rd
          rw [List.getD_eq_getElem?_getD, List.getElem?_eq_getElem (by omega)]
          exact List.getElem_mem _
        exact (hp _ hr).2
    obtain ⟨i, k, hik, hk, e⟩ := two_alike par.length (fun i => up par i a) (fun i hi => ⟨hpos i hi, hle i hi⟩)
    have e : up par i a = up par k a := e
    -- j = n + 1: the same place stood earlier
    have hj' : j = par.length + 1 := by
      rcases Nat.lt_or_ge par.length j with h1 | h1
      · omega
      · exact absurd ⟨j, h1, hu⟩ c
    have e2 : up par j a = up par (i + (j - k)) a := by
      rw [show j = k + (j - k) by omega, up_add par k, up_add par i, ← e]
      congr 1
      omega
    have := hpos (i + (j - k)) (by omega)
    omega
/-- A tree: parents lead to the root from each node. -/
def isTr (par : List Int) : Bool := decide (par.length ≤ 8) && inAll 0 par.length par && (List.range par.length).all fun i => climb par par.length ((i : Int) + 1)

/-- How many steps lead to the root, of so many at most. -/
def hgt (par : List Int) : Nat → Int → Nat
  | 0, _ => 0
  | m + 1, a => if a > 0 then hgt par m (rd par (a - 1)) + 1 else 0
theorem hgt_more (par : List Int) : ∀ (m : Nat) (a : Int), climb par m a = true → hgt par (m + 1) a = hgt par m a
  | 0, a, h => by
    simp only [climb, decide_eq_true_eq] at h
    simp only [hgt]
    rw [if_neg (by omega)]
  | m + 1, a, h => by
    rw [climb] at h
    show (if a > 0 then hgt par (m + 1) (rd par (a - 1)) + 1 else 0) = (if a > 0 then hgt par m (rd par (a - 1)) + 1 else 0)
    by_cases c : a > 0
    · rw [if_pos c] at h
      rw [if_pos c, if_pos c, hgt_more par m _ h]
    · rw [if_neg c, if_neg c]
/-- The depth of a node. -/
def dep (par : List Int) (a : Int) : Nat := hgt par par.length a
theorem isTr_iff (par : List Int) : isTr par = true ↔ par.length ≤ 8 ∧ (∀ x ∈ par, 0 ≤ x ∧ x ≤ par.length) ∧ ∀ a : Int, 1 ≤ a → a ≤ par.length → climb par par.length a = true := by
  simp only [isTr, Bool.and_eq_true, decide_eq_true_eq, inAll_iff, List.all_eq_true, List.mem_range]
  constructor
  · rintro ⟨⟨h1, h2⟩, h3⟩
    refine ⟨h1, h2, fun a ha hb => ?_⟩
    have := h3 (a - 1).toNat (by omega)
    rwa [show (((a - 1).toNat : Nat) : Int) + 1 = a by omega] at this
  · rintro ⟨h1, h2, h3⟩
    exact ⟨⟨h1, h2⟩, fun i hi => h3 _ (by omega) (by omega)⟩
theorem rd_mem (l : List Int) (i : Int) (h0 : 0 ≤ i) (h1 : i < l.length) : rd l i ∈ l := by
  unfold rd
  rw [List.getD_eq_getElem?_getD, List.getElem?_eq_getElem (by omega)]
  exact List.getElem_mem _
/-- In a tree a node is one deeper than its parent. -/
theorem dep_step (par : List Int) (ht : isTr par = true) (a : Int) (h0 : 1 ≤ a) (h1 : a ≤ par.length) : dep par a = dep par (rd par (a - 1)) + 1 := by
  obtain ⟨_, h2, h3⟩ := (isTr_iff par).1 ht
  have hc := h3 a h0 h1
  unfold dep
  obtain ⟨m, hm⟩ : ∃ m, par.length = m + 1 := ⟨par.length - 1, by omega⟩
  rw [hm] at hc ⊢
  rw [climb, if_pos (by omega)] at hc
  rw [hgt, if_pos (by omega), hgt_more par m _ hc]

theorem ev_spec_l1In (a b c : Int) : spec_l1In.f a b c = some (decide (b ≤ a) && decide (a ≤ c)) := by
  unfold spec_l1In.f
  by_cases h : a ≥ b
  · rw [if_pos h]; simp [show b ≤ a from h]
  · rw [if_neg h]; simp [show ¬ b ≤ a from h]

theorem spec_l1All_l0 (lo hi : Int) : ∀ (t p : List Int), p.length + t.length ≤ 35184372088832 →
    Ev (fun k => spec_l1All.l0 k lo hi (p ++ t) ((p ++ t).length : Int) (p.length : Int)) (inAll lo hi t)
  | [], p, _ => by
    refine Ev.ret fun k => ?_
    rw [spec_l1All.l0, if_neg (by simp)]
    rfl
  | h :: t, p, hn => by
    have hn' : p.length + t.length + 1 ≤ 35184372088832 := by simpa [Nat.add_assoc] using hn
    have hm := len_mid p h t
    rw [inAll_cons]
    cases c : decide (lo ≤ h) && decide (h ≤ hi) with
    | true =>
      have ih := spec_l1All_l0 lo hi t (p ++ [h]) (by simp; omega)
      rw [app_snoc, len_snoc] at ih
      rw [Bool.true_and]
      refine Ev.step (fun k => ?_) ih
      show spec_l1All.l0 (k + 1) lo hi (p ++ h :: t) ((p ++ h :: t).length : Int) (p.length : Int) = _
      rw [spec_l1All.l0, if_pos (by omega), if_pos (by omega), if_pos (by omega), rd_mid, ev_spec_l1In, c, Option.bind_some, if_pos rfl, w64 (by omega) (by omega)]
    | false =>
      rw [Bool.false_and]
      refine Ev.ret fun k => ?_
      rw [spec_l1All.l0, if_pos (by omega), if_pos (by omega), if_pos (by omega), rd_mid, ev_spec_l1In, c]
      rfl
theorem ev_spec_l1All (l : List Int) (lo hi : Int) (hl : l.length ≤ 35184372088832) : Ev (fun k => spec_l1All.f k l lo hi) (inAll lo hi l) :=
  spec_l1All_l0 lo hi l [] (by simpa using hl)

theorem spec_trGood_l1 (par : List Int) (n : Int) (hn : n = par.length) (hn8 : par.length ≤ 8) (hp : ∀ x ∈ par, 0 ≤ x ∧ x ≤ par.length) (w i : Int) (r : Bool) (r' : Bool) : ∀ (m : Nat) (a s : Int), 0 ≤ a → a ≤ n → 0 ≤ s → s + m = n →
    Ev (fun k => spec_trGood.l0 k par n w (wrap64 (i + 1))) r → (r' = (climb par m a && r)) → Ev (fun k => spec_trGood.l1 k par n a s w i) r'
  | 0, a, s, h0, h1, hs, hm, h, e => by
    subst e
    simp only [climb]
    by_cases c : a > 0
    · rw [decide_eq_false (by omega), Bool.false_and]
      refine Ev.ret fun k => ?_
      rw [spec_trGood.l1, if_pos c, if_pos (by omega)]
    · rw [decide_eq_true (by omega), Bool.true_and]
      refine Ev.step (fun k => ?_) h
      show spec_trGood.l1 (k + 1) par n a s w i = _
      rw [spec_trGood.l1, if_neg c]
  | m + 1, a, s, h0, h1, hs, hm, h, e => by
    subst e
    by_cases c : a > 0
    · rw [climb, if_pos c]
      have hr : rd par (a - 1) ∈ par := by
        unfold rd
        rw [List.getD_eq_getElem?_getD, List.getElem?_eq_getElem (by omega)]
        exact List.getElem_mem _
      have hb := hp _ hr
      refine Ev.step (fun k => ?_) (spec_trGood_l1 par n hn hn8 hp w i r _ m (rd par (a - 1)) (s + 1) hb.1 (by omega) (by omega) (by omega) h rfl)
      show spec_trGood.l1 (k + 1) par n a s w i = _
      rw [spec_trGood.l1, if_pos c, if_neg (by omega), w64 (x := a - 1) (by omega) (by omega), if_pos (by omega), if_pos (by omega), w64 (by omega) (by omega)]
    · rw [climb, if_neg c, Bool.true_and]
      refine Ev.step (fun k => ?_) h
      show spec_trGood.l1 (k + 1) par n a s w i = _
      rw [spec_trGood.l1, if_neg c]
theorem spec_trGood_l0 (par : List Int) (hn8 : par.length ≤ 8) (hp : ∀ x ∈ par, 0 ≤ x ∧ x ≤ par.length) : ∀ (d i : Nat), i + d = par.length →
    Ev (fun k => spec_trGood.l0 k par (par.length : Int) (par.length : Int) (i : Int)) ((List.range' i d).all fun j => climb par par.length ((j : Int) + 1))
  | 0, i, hi => by
    refine Ev.ret fun k => ?_
    rw [spec_trGood.l0, if_neg (by omega)]
    rfl
  | d + 1, i, hi => by
    have ih := spec_trGood_l0 par hn8 hp d (i + 1) (by omega)
    refine Ev.step (fun k => ?_) (spec_trGood_l1 par (par.length : Int) rfl hn8 hp (par.length : Int) (i : Int) ((List.range' (i + 1) d).all fun j => climb par par.length ((j : Int) + 1)) _ par.length ((i : Int) + 1) 0 (by omega) (by omega) (by omega) (by omega) ?_ ?_)
    · show spec_trGood.l0 (k + 1) par (par.length : Int) (par.length : Int) (i : Int) = _
      rw [spec_trGood.l0, if_pos (by omega), w64 (by omega) (by omega)]
    · rw [w64 (by omega) (by omega)]
      exact ih
    · rw [List.range'_succ, List.all_cons]
theorem ev_spec_trGood (par : List Int) (hl : par.length ≤ 35184372088832) : Ev (fun k => spec_trGood.f k par) (isTr par) := by
  by_cases c8 : par.length ≤ 8
  · cases c : inAll 0 par.length par with
    | false =>
      have e : isTr par = false := by simp [isTr, c]
      rw [e]
      refine Ev.congr (fun k => by rw [spec_trGood.f, if_neg (by omega)]) ?_
      refine Ev.bind (ev_spec_l1All par 0 par.length hl) ?_
      rw [c]
      exact Ev.ret fun k => by rw [spec_trGood.j0]; rfl
    | true =>
      have hp := (inAll_iff _ _ _).1 c
      have e : isTr par = (List.range' 0 par.length).all fun j => climb par par.length ((j : Int) + 1) := by
        simp [isTr, c, c8, List.range_eq_range']
      rw [e]
      refine Ev.congr (fun k => by rw [spec_trGood.f, if_neg (by omega)]) ?_
      refine Ev.bind (ev_spec_l1All par 0 par.length hl) ?_
      rw [c]
      refine Ev.step (fun k => by rw [spec_trGood.j0, if_neg (by simp)]) ?_
      exact spec_trGood_l0 par c8 hp par.length 0 (by omega)
  · have e : isTr par = false := by simp [isTr, c8]
    rw [e]
    refine Ev.congr (fun k => by rw [spec_trGood.f, if_pos (by omega)]) ?_
    exact Ev.ret fun k => by rw [spec_trGood.j0, if_pos rfl]

theorem slices_IndexFunc_l0 (q : Int → Bool) : ∀ (t p : List Int), p.length + t.length ≤ 35184372088832 →
    ∃ r : Int, decide (r ≥ 0) = t.any q ∧ Ev (fun k => slices_IndexFunc_int_int.l0 q k (p ++ t) ((p ++ t).length : Int) (p.length : Int)) r
  | [], p, _ => by
    refine ⟨-1, by simp, Ev.ret fun k => ?_⟩
    rw [slices_IndexFunc_int_int.l0, if_neg (by simp)]
  | h :: t, p, hn => by
    have hn' : p.length + t.length + 1 ≤ 35184372088832 := by simpa [Nat.add_assoc] using hn
    have hm := len_mid p h t
    cases c : q h with
    | true =>
      refine ⟨p.length, by simp [c], Ev.ret fun k => ?_⟩
      rw [slices_IndexFunc_int_int.l0, if_pos (by omega), if_pos (by omega), if_pos (by omega), rd_mid, c, Option.bind_some, if_pos rfl]
    | false =>
      obtain ⟨r, hr, ih⟩ := slices_IndexFunc_l0 q t (p ++ [h]) (by simp; omega)
      rw [app_snoc, len_snoc] at ih
      refine ⟨r, by simpa [c] using hr, Ev.step (fun k => ?_) ih⟩
      show slices_IndexFunc_int_int.l0 q (k + 1) (p ++ h :: t) ((p ++ h :: t).length : Int) (p.length : Int) = _
      rw [slices_IndexFunc_int_int.l0, if_pos (by omega), if_pos (by omega), if_pos (by omega), rd_mid, c, Option.bind_some, if_neg (by simp), w64 (by omega) (by omega)]
theorem ev_containsFunc (q : Int → Bool) (l : List Int) (hl : l.length ≤ 35184372088832) : Ev (fun k => slices_ContainsFunc_int_int.f q k l) (l.any q) := by
  obtain ⟨r, hr, h⟩ := slices_IndexFunc_l0 q l [] (by simpa using hl)
  rw [← hr]
  exact Ev.congr (fun k => rfl) (Ev.bind h (Ev.now _))

theorem ev_impl_between (a b c : Int) : impl_between.f a b c = some (decide (b ≤ a) && decide (a ≤ c)) := by
  unfold impl_between.f
  by_cases h : a ≥ b
  · rw [if_pos h]; simp [show b ≤ a from h]
  · rw [if_neg h]; simp [show ¬ b ≤ a from h]

theorem ev_impl_areBetween (l : List Int) (lo hi : Int) (hl : l.length ≤ 35184372088832) : Ev (fun k => impl_areBetween.f k l lo hi) (inAll lo hi l) := by
  have e : (!(l.any (impl_areBetween_1.p lo hi))) = inAll lo hi l := by
    have hp : ∀ n, impl_areBetween_1.p lo hi n = !(decide (lo ≤ n) && decide (n ≤ hi)) := fun n => by
      simp [impl_areBetween_1.p, ev_impl_between]
    unfold inAll
    induction l with
    | nil => rfl
    | cons x t ih =>
      rw [List.any_cons, List.all_cons, Bool.not_or, ih (by simp at hl; omega), hp, Bool.not_not]
  rw [← e]
  exact Ev.congr (fun k => rfl) (Ev.bind (ev_containsFunc (impl_areBetween_1.p lo hi) l hl) (Ev.now _))

theorem ev_impl_isCars (a : Int) : impl_isCars.f a = some (decide (0 ≤ a) && decide (a ≤ 8)) := by
  unfold impl_isCars.f
  rw [ev_impl_between]
  rfl

theorem impl_isTree_l1 (par : List Int) (n : Int) (hn : n = par.length) (hn8 : par.length ≤ 8) (hp : ∀ x ∈ par, 0 ≤ x ∧ x ≤ par.length) (w i : Int) (r : Bool) (r' : Bool) : ∀ (m : Nat) (a s : Int), 0 ≤ a → a ≤ n → 0 ≤ s → s + m = n + 1 →
    Ev (fun k => impl_isTree.l0 k par n w (wrap64 (i + 1))) r → (r' = (climb par m a && r)) → Ev (fun k => impl_isTree.l1 k par n a s w i) r'
  | 0, a, s, h0, h1, hs, hm, h, e => by
    subst e
    simp only [climb]
    by_cases c : a > 0
    · rw [decide_eq_false (by omega), Bool.false_and]
      refine Ev.ret fun k => ?_
      rw [impl_isTree.l1, if_pos c, if_pos (by omega)]
    · rw [decide_eq_true (by omega), Bool.true_and]
      refine Ev.step (fun k => ?_) h
      show impl_isTree.l1 (k + 1) par n a s w i = _
      rw [impl_isTree.l1, if_neg c]
  | m + 1, a, s, h0, h1, hs, hm, h, e => by
    subst e
    by_cases c : a > 0
    · rw [climb, if_pos c]
      have hr : rd par (a - 1) ∈ par := by
        unfold rd
        rw [List.getD_eq_getElem?_getD, List.getElem?_eq_getElem (by omega)]
        exact List.getElem_mem _
      have hb := hp _ hr
      refine Ev.step (fun k => ?_) (impl_isTree_l1 par n hn hn8 hp w i r _ m (rd par (a - 1)) (s + 1) hb.1 (by omega) (by omega) (by omega) h rfl)
      show impl_isTree.l1 (k + 1) par n a s w i = _
      rw [impl_isTree.l1, if_pos c, if_neg (by omega), w64 (x := a - 1) (by omega) (by omega), if_pos (by omega), if_pos (by omega), w64 (by omega) (by omega)]
    · rw [climb, if_neg c, Bool.true_and]
      refine Ev.step (fun k => ?_) h
      show impl_isTree.l1 (k + 1) par n a s w i = _
      rw [impl_isTree.l1, if_neg c]
theorem impl_isTree_l0 (par : List Int) (hn8 : par.length ≤ 8) (hp : ∀ x ∈ par, 0 ≤ x ∧ x ≤ par.length) : ∀ (d i : Nat), i + d = par.length →
    Ev (fun k => impl_isTree.l0 k par (par.length : Int) (par.length : Int) (i : Int)) ((List.range' i d).all fun j => climb par par.length ((j : Int) + 1))
  | 0, i, hi => by
    refine Ev.ret fun k => ?_
    rw [impl_isTree.l0, if_neg (by omega)]
    rfl
  | d + 1, i, hi => by
    have ih := impl_isTree_l0 par hn8 hp d (i + 1) (by omega)
    refine Ev.step (fun k => ?_) (impl_isTree_l1 par (par.length : Int) rfl hn8 hp (par.length : Int) (i : Int) ((List.range' (i + 1) d).all fun j => climb par par.length ((j : Int) + 1)) _ (par.length + 1) ((i : Int) + 1) 0 (by omega) (by omega) (by omega) (by omega) ?_ ?_)
    · show impl_isTree.l0 (k + 1) par (par.length : Int) (par.length : Int) (i : Int) = _
      rw [impl_isTree.l0, if_pos (by omega), w64 (by omega) (by omega)]
    · rw [w64 (by omega) (by omega)]
      exact ih
    · rw [List.range'_succ, List.all_cons]
      congr 1
      rw [Bool.eq_iff_iff]
      exact ⟨climb_more par _ _, climb_less par hp _ (by omega) (by omega)⟩
theorem ev_impl_isTree (par : List Int) (hl : par.length ≤ 35184372088832) : Ev (fun k => impl_isTree.f k par) (isTr par) := by
  by_cases c8 : par.length ≤ 8
  · have d8 : (decide ((0 : Int) ≤ par.length) && decide ((par.length : Int) ≤ 8)) = true := by
      rw [Bool.and_eq_true, decide_eq_true_eq, decide_eq_true_eq]; omega
    cases c : inAll 0 par.length par with
    | false =>
      have e : isTr par = false := by simp [isTr, c]
      rw [e]
      refine Ev.congr (fun k => by rw [impl_isTree.f, ev_impl_isCars, d8, Option.bind_some, if_pos rfl]) ?_
      refine Ev.bind (ev_impl_areBetween par 0 par.length hl) ?_
      rw [c]
      exact Ev.ret fun k => by rw [impl_isTree.j0]; rfl
    | true =>
      have hp := (inAll_iff _ _ _).1 c
      have e : isTr par = (List.range' 0 par.length).all fun j => climb par par.length ((j : Int) + 1) := by
        simp [isTr, c, c8, List.range_eq_range']
      rw [e]
      refine Ev.congr (fun k => by rw [impl_isTree.f, ev_impl_isCars, d8, Option.bind_some, if_pos rfl]) ?_
      refine Ev.bind (ev_impl_areBetween par 0 par.length hl) ?_
      rw [c]
      refine Ev.step (fun k => by rw [impl_isTree.j0, if_neg (by simp)]) ?_
      exact impl_isTree_l0 par c8 hp par.length 0 (by omega)
  · have e : isTr par = false := by simp [isTr, c8]
    have d8 : (decide ((0 : Int) ≤ par.length) && decide ((par.length : Int) ≤ 8)) = false := by
      rw [Bool.and_eq_false_iff]; right; exact decide_eq_false (by omega)
    rw [e]
    refine Ev.congr (fun k => by rw [impl_isTree.f, ev_impl_isCars, d8, Option.bind_some, if_neg (by simp)]) ?_
    exact Ev.ret fun k => by rw [impl_isTree.j0, if_pos rfl]

theorem FnExactTreeText : laws_FnExactTreeText.Pure := by
  intro l0 _ _ _
  by_cases c0 : (l0.length : Int) > 1048576
  · refine ⟨0, ?_⟩
    rw [laws_FnExactTreeText.f, if_pos c0]
  have hl0 : l0.length ≤ 35184372088832 := by omega
  obtain ⟨r, hs, hi⟩ : ∃ r : ByteArray × Bool, Ev (fun k => spec_TreeText.f k l0) r ∧ Ev (fun k => impl_TreeText.f k l0) r := by
    cases c : isTr l0 with
    | false =>
      refine ⟨(⟨#[]⟩, false), Ev.bind (ev_spec_trGood l0 hl0) ?_, Ev.bind (ev_impl_isTree l0 hl0) ?_⟩
      · rw [c]; exact Ev.now _
      · rw [c]; exact Ev.now _
    | true =>
      obtain ⟨h8, h2, _⟩ := (isTr_iff l0).1 c
      have hx : ∀ x ∈ l0, 0 ≤ x ∧ x < 10 := fun x hx => by have := h2 x hx; omega
      refine ⟨(if l0.length = 0 then ⟨#[45]⟩ else ⟨(txtL l0).toArray⟩, true), Ev.bind (ev_spec_trGood l0 hl0) ?_, Ev.bind (ev_impl_isTree l0 hl0) ?_⟩
      · rw [c]
        exact Ev.congr (fun k => by rw [if_pos rfl]) (Ev.bind (ev_spec_trText l0 h8 hx) (Ev.now _))
      · rw [c]
        exact Ev.congr (fun k => by rw [if_pos rfl]) (Ev.bind (ev_impl_orDash l0 h8 hx) (Ev.now _))
  refine Ev.rounds ?_
  refine Ev.congr (fun k => by rw [laws_FnExactTreeText.f, if_neg c0]) ?_
  refine Ev.bind (ev_toIntS l0 hl0) ?_
  refine Ev.bind hs ?_
  refine Ev.bind (ev_toIntS l0 hl0) ?_
  refine Ev.bind hi ?_
  refine Ev.congr (fun k => by rw [if_pos rfl, bne_self_eq_false]) ?_
  refine Ev.step (fun k => by rw [laws_FnExactTreeText.j0, if_neg (by simp)]) ?_
  refine Ev.bind (ev_toIntS l0 hl0) ?_
  refine Ev.bind (ev_eqIntS l0 hl0) ?_
  refine Ev.congr (fun k => by rw [if_pos rfl]) ?_
  exact Ev.now true

end Go.Proofs.YtlknoidcopkmfaaDoor.Pure
