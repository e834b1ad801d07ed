/- Heights seen from the other end have the same area, touch where the others do from there, are turned back, and first labels make a walk. -/
import Derived.Test.YtmollfkakalagaaWSized
import Derived.Test.YtmollfkakalagaaPFnHeightsTurnedx
import Derived.Laws.BitsLemmas
import Derived.Lib.EndianBits
namespace Go.Proofs.Ytmollfkakalagaa.PrintWords
open Go.ChangeShapes Go.WideShapes
/-- The word by the name that the printed row asks for. -/
theorem sized_ints {H : Type} {enc : TypeId × Value → H} {P : Program} {W : World} {base : Nat} {spare : Nat → Bool} {held : Bool} {t e : TypeId} {k : IntKind} {a : Option Addr} {len cap : Nat} {d : DataW H} {ps : List MemPlace} {ts : List TypeId} {ds : List (DataW H)} {j : Nat}
    (hsz : (DataW.weightsEach P ts ds).all (· ≤ reachBytes) = true) (ht : ts[j]? = some t) (hd : ds[j]? = some d) (hu : P.underlying t = some (.slice e)) (he : P.underlying e = some (.int k)) (hc : P.cellsOf e = 1) {B : Nat} (hB : P.bytesOf e = B)
    (h : DataW.Trod enc P W base spare held t (.slice a len cap) d ps) : len * B ≤ 140737488351232 :=
  Go.Proofs.YtmollfkakalagaaW.PrintWords.sized_ints hsz ht hd hu he hc hB h
end Go.Proofs.Ytmollfkakalagaa.PrintWords
namespace Go.Proofs.Ytmollfkakalagaa.Pure
open Go.RowKit Go.Proofs.Ytmollfkakalagaa.PFnHeightsTurned Go.Proofs.YtmollfkakalagaaW.PrintWords Go.Proofs.YtmollfkakalagaaW.PrintLast
set_option linter.unusedVariables false
set_option linter.unusedSimpArgs false

theorem w64 {x : Int} (h0 : -9223372036854775808 ≤ x) (h1 : x ≤ 9223372036854775807) : wrap64 x = x := by
  unfold wrap64
  omega
theorem rd_mid (p : List Int) (h : Int) (t : List Int) : rd (p ++ h :: t) (p.length : Int) = h := by
  unfold rd
  simp
theorem rd_nat (l : List Int) (i : Nat) : rd l (i : Int) = l.getD i 0 := by
  unfold rd
  simp
theorem Ev.ret {α : Type} {g : Nat → Option α} {r : α} (h : ∀ k, g (k + 1) = some r) : Ev g r :=
  Ev.step (f := fun _ => some r) h (Ev.now r)

/-- One step of a walk along a list: what stands behind the place. -/
theorem len_snoc (p : List Int) (h : Int) : (((p ++ [h]).length : Nat) : Int) = (p.length : Int) + 1 := by simp
theorem app_snoc (p : List Int) (h : Int) (t : List Int) : (p ++ [h]) ++ t = p ++ h :: t := by simp
theorem len_mid (p : List Int) (h : Int) (t : List Int) : ((p ++ h :: t).length : Int) = (p.length : Int) + t.length + 1 := by simp; omega

theorem and255 (x : Int) (h0 : 0 ≤ x) (h1 : x < 18446744073709551616) : 0 ≤ Go.bits .and .u64 x 255 ∧ Go.bits .and .u64 x 255 ≤ 255 := by
  have h : Go.bits .and .u64 x 255 = x % 256 := bits_mask .u64 64 (by decide) wraps_u64 8 (by decide) x h0 h1
  rw [h]
  omega
theorem wrapu (x : Int) : 0 ≤ IntKind.u64.wrap x ∧ IntKind.u64.wrap x < 18446744073709551616 := by
  rw [IntKind.wrap_u64]
  omega
theorem next_total (code : List Int) (hc : ∀ x ∈ code, 0 ≤ x ∧ x ≤ 255) (at_ seed : Int) (h0 : 0 ≤ at_) (h1 : at_ ≤ 1000000000000) :
    ∃ b s, spec_l1Cur_next.f code at_ seed = some (b, at_ + 1, s) ∧ 0 ≤ b ∧ b ≤ 255 := by
  have fin : ∀ q : Int, 0 ≤ wrap64 (Go.bits .and .u64 (IntKind.u64.wrap q / 1099511627776) 255) ∧ wrap64 (Go.bits .and .u64 (IntKind.u64.wrap q / 1099511627776) 255) ≤ 255 := fun q => by
    have hq := wrapu q
    have := and255 (IntKind.u64.wrap q / 1099511627776) (by omega) (by omega)
    rw [w64 (by omega) (by omega)]
    exact this
  unfold spec_l1Cur_next.f
  rw [w64 (x := at_ + 1) (by omega) (by omega)]
  by_cases c : at_ < (code.length : Int)
  · have hb : 0 ≤ rd code at_ ∧ rd code at_ ≤ 255 := by
      refine hc _ ?_
      unfold rd
      rw [List.getD_eq_getElem?_getD, List.getElem?_eq_getElem (by omega)]
      exact List.getElem_mem _
    rw [if_pos c, if_pos h0]
    by_cases d : at_ + 1 ≤ (code.length : Int)
    · rw [if_pos d]
      exact ⟨_, _, rfl, by rw [w64 (by omega) (by omega)]; exact hb⟩
    · rw [if_neg d]
      exact ⟨_, _, rfl, fin _⟩
  · rw [if_neg c]
    by_cases d : at_ + 1 ≤ (code.length : Int)
    · rw [if_pos d]
      exact ⟨_, _, rfl, by omega, by omega⟩
    · rw [if_neg d]
      exact ⟨_, _, rfl, fin _⟩
/-- A reader that has not gone far. -/
def Rdy (at_ : Int) (n : Int) : Prop := 0 ≤ at_ ∧ at_ ≤ n
theorem Rdy.mono {a n m : Int} (h : Rdy a n) (hm : n ≤ m) : Rdy a m := ⟨h.1, Int.le_trans h.2 hm⟩
theorem pick_total (code : List Int) (hc : ∀ x ∈ code, 0 ≤ x ∧ x ≤ 255) (at_ seed n : Int) (b : Int) (h : Rdy at_ b) (hb : b ≤ 100000000000) :
    ∃ v a s, spec_l1Cur_pick.f code at_ seed n = some (v, a, s) ∧ 0 ≤ v ∧ (v = 0 ∨ v < n) ∧ Rdy a (b + 2) := by
  obtain ⟨h0, h1⟩ := h
  unfold spec_l1Cur_pick.f
  by_cases c : n ≤ 1
  · rw [if_pos c]
    exact ⟨0, at_, seed, rfl, by omega, .inl rfl, h0, by omega⟩
  · rw [if_neg c]
    obtain ⟨x, s, e, hx0, hx1⟩ := next_total code hc at_ seed h0 (by omega)
    rw [e, Option.bind_some]
    by_cases d : n > 200
    · rw [if_pos d]
      obtain ⟨y, s2, e2, hy0, hy1⟩ := next_total code hc (at_ + 1) s (by omega) (by omega)
      simp only [e2, Option.bind_some]
      rw [if_neg (by omega), w64 (x := x * 256) (by omega) (by omega), w64 (by omega) (by omega)]
      exact ⟨_, _, _, rfl, Int.tmod_nonneg _ (by omega), .inr (Int.tmod_lt_of_pos _ (by omega)), by omega, by omega⟩
    · rw [if_neg d, if_neg (by omega)]
      exact ⟨_, _, _, rfl, Int.tmod_nonneg _ (by omega), .inr (Int.tmod_lt_of_pos _ (by omega)), by show 0 ≤ at_ + 1; omega, by show at_ + 1 ≤ b + 2; omega⟩

theorem heights_l0 (code : List Int) (hc : ∀ x ∈ code, 0 ≤ x ∧ x ≤ 255) : ∀ (d : Nat) (l : List Int) (last at_ seed b : Int), d ≤ 1000 → l.length + d ≤ 2000 → -1 ≤ last → last ≤ l.length → (∀ x ∈ l, 0 ≤ x ∧ x ≤ l.length) → Rdy at_ b → b + 4 * d ≤ 100000 →
    ∃ (r : List Int) (a s : Int), r.length ≤ l.length + d + 10 ∧ Rdy a (b + 4 * d + 10) ∧ Ev (fun k => spec_l1Cur_heights.l0 k l last (d : Int) code at_ seed) (r, a, s)
  | 0, l, last, at_, seed, b, hd, hl, h0, h1, hm, hr, hb => by
    obtain ⟨w, a1, s1, e1, w0, w1, r1⟩ := pick_total code hc at_ seed 14 b hr (by omega)
    by_cases c0 : w = 0
    · obtain ⟨x, a2, s2, e2, x0, x1, r2⟩ := pick_total code hc a1 s1 4 (b + 2) r1 (by omega)
      refine ⟨l ++ [wrap64 (x - 1)], a2, s2, by simp, r2.mono (by omega), Ev.ret fun k => ?_⟩
      rw [spec_l1Cur_heights.l0, if_neg (by omega), e1, Option.bind_some, if_pos c0, e2, Option.bind_some, if_pos (by omega)]
    · by_cases c1 : w = 1
      · obtain ⟨x, a2, s2, e2, x0, x1, r2⟩ := pick_total code hc a1 s1 2 (b + 2) r1 (by omega)
        have hw : wrap64 (8 + x) = 8 + x := w64 (by omega) (by omega)
        refine ⟨List.replicate (8 + x).toNat 0, a2, s2, by rw [List.length_replicate]; omega, r2.mono (by omega), Ev.ret fun k => ?_⟩
        rw [spec_l1Cur_heights.l0, if_neg (by omega), e1, Option.bind_some, if_neg c0, if_pos c1, e2, Option.bind_some]
        simp only [hw]
        rw [if_pos (by omega), if_pos (by omega)]
      · refine ⟨l, a1, s1, by omega, r1.mono (by omega), Ev.ret fun k => ?_⟩
        rw [spec_l1Cur_heights.l0, if_neg (by omega), e1, Option.bind_some, if_neg c0, if_neg c1]
  | d + 1, l, last, at_, seed, b, hd, hl, h0, h1, hm, hr, hb => by
    obtain ⟨v, a1, s1, e1, v0, v1, r1⟩ := pick_total code hc at_ seed (last + 2) b hr (by omega)
    obtain ⟨y, a2, s2, e2, y0, y1, r2⟩ := pick_total code hc a1 s1 4 (b + 2) r1 (by omega)
    have e3 : spec_l1Cur_one.f code a1 s1 4 = some ((y == 0), a2, s2) := by rw [spec_l1Cur_one.f, e2, Option.bind_some]
    have w2 : wrap64 (((d + 1 : Nat) : Int) - 1) = (d : Int) := by rw [w64 (by omega) (by omega)]; omega
    have w1 : wrap64 (last + 2) = last + 2 := w64 (by omega) (by omega)
    have plain : ∃ (r : List Int) (a s : Int), r.length ≤ l.length + (d + 1) + 10 ∧ Rdy a (b + 4 * ((d + 1 : Nat) : Int) + 10) ∧ Ev (fun k => spec_l1Cur_heights.l0 k (l ++ [v]) v (d : Int) code a2 s2) (r, a, s) := by
      obtain ⟨r, a, s, h5, h6, h7⟩ := heights_l0 code hc d (l ++ [v]) v a2 s2 (b + 2 + 2) (by omega) (by simp; omega) (by omega) (by simp; omega) (fun x hx => by
        rw [List.length_append, List.length_singleton]
        rcases List.mem_append.1 hx with h | h
        · have := hm x h; omega
        · have := List.mem_singleton.1 h; omega) r2 (by omega)
      rw [List.length_append, List.length_singleton] at h5
      exact ⟨r, a, s, by omega, h6.mono (by omega), h7⟩
    by_cases c : y = 0
    · have hy : (y == 0) = true := by simpa using c
      by_cases cl : (l.length : Int) > 0
      · have wl : wrap64 ((l.length : Int) - 1) = (l.length : Int) - 1 := w64 (by omega) (by omega)
        have hx := hm (rd l ((l.length : Int) - 1)) (by
          unfold rd
          rw [List.getD_eq_getElem?_getD, List.getElem?_eq_getElem (by omega)]
          exact List.getElem_mem _)
        obtain ⟨q, hq⟩ : ∃ q, q = rd l ((l.length : Int) - 1) := ⟨_, rfl⟩
        rw [← hq] at hx
        have wq : wrap64 (q + 1) = q + 1 := w64 (by omega) (by omega)
        obtain ⟨r, a, s, h5, h6, h7⟩ := heights_l0 code hc d (l ++ [q + 1]) (q + 1) a2 s2 (b + 2 + 2) (by omega) (by simp; omega) (by omega) (by simp; omega) (fun x hx => by
          rw [List.length_append, List.length_singleton]
          rcases List.mem_append.1 hx with h | h
          · have := hm x h; omega
          · have := List.mem_singleton.1 h; omega) r2 (by omega)
        rw [List.length_append, List.length_singleton] at h5
        refine ⟨r, a, s, by omega, h6.mono (by omega), Ev.step (fun k => ?_) h7⟩
        show spec_l1Cur_heights.l0 (k + 1) l last ((d + 1 : Nat) : Int) code at_ seed = _
        rw [spec_l1Cur_heights.l0, if_pos (by omega), w1, w2, e1, Option.bind_some]
        simp only [e3, Option.bind_some]
        rw [hy, if_pos rfl, if_pos cl, wl, if_pos (by omega), if_pos (by omega), if_pos (by omega), ← hq, wq]
      · obtain ⟨r, a, s, h5, h6, h7⟩ := plain
        refine ⟨r, a, s, by omega, h6, Ev.step (fun k => ?_) h7⟩
        show spec_l1Cur_heights.l0 (k + 1) l last ((d + 1 : Nat) : Int) code at_ seed = _
        rw [spec_l1Cur_heights.l0, if_pos (by omega), w1, w2, e1, Option.bind_some]
        simp only [e3, Option.bind_some]
        rw [hy, if_pos rfl, if_neg cl, if_pos (by omega)]
    · have hy : (y == 0) = false := by simpa using c
      obtain ⟨r, a, s, h5, h6, h7⟩ := plain
      refine ⟨r, a, s, by omega, h6, Ev.step (fun k => ?_) h7⟩
      show spec_l1Cur_heights.l0 (k + 1) l last ((d + 1 : Nat) : Int) code at_ seed = _
      rw [spec_l1Cur_heights.l0, if_pos (by omega), w1, w2, e1, Option.bind_some]
      simp only [e3, Option.bind_some]
      rw [hy, if_neg (by simp), if_pos (by omega)]
/-- Heights that are drawn. -/
theorem heights_total (code : List Int) (hc : ∀ x ∈ code, 0 ≤ x ∧ x ≤ 255) (at_ seed : Int) (most : Nat) (hm : most ≤ 100) (b : Int) (h : Rdy at_ b) (hb : b ≤ 10000) :
    ∃ (r : List Int) (a s : Int), r.length ≤ 200 ∧ Rdy a (b + 1000) ∧ Ev (fun k => spec_l1Cur_heights.f k code at_ seed (most : Int)) (r, a, s) := by
  obtain ⟨n, a1, s1, e1, n0, n1, r1⟩ := pick_total code hc at_ seed ((most : Int) + 1) b h (by omega)
  obtain ⟨r, a, s, h1, h2, h3⟩ := heights_l0 code hc n.toNat [] (-1) a1 s1 (b + 2) (by omega) (by simp; omega) (by omega) (by simp) (by simp) r1 (by omega)
  rw [show ((n.toNat : Nat) : Int) = n by omega] at h2 h3
  simp only [List.length_nil] at h1
  refine ⟨r, a, s, by omega, h2.mono (by omega), Ev.congr (fun k => ?_) h3⟩
  show spec_l1Cur_heights.f k code at_ seed (most : Int) = _
  rw [spec_l1Cur_heights.f, w64 (by omega) (by omega), e1, Option.bind_some]

/-- Heights that go on behind a last one. -/
def hts (last : Int) : List Int → Bool
  | [] => true
  | h :: t => decide (0 ≤ h) && decide (h ≤ last + 1) && hts h t
theorem hts_mem : ∀ (l : List Int) (last : Int), hts last l = true → ∀ x ∈ l, 0 ≤ x ∧ x ≤ last + l.length
  | [], _, _, x, hx => by cases hx
  | h :: t, last, hh, x, hx => by
    simp only [hts, Bool.and_eq_true, decide_eq_true_eq] at hh
    have e : ((h :: t).length : Int) = (t.length : Int) + 1 := by simp
    rw [e]
    cases hx with
    | head => omega
    | tail _ hx =>
      have := hts_mem t h hh.2 x hx
      omega
theorem rd_prev (q : List Int) (x : Int) (t : List Int) : rd ((q ++ [x]) ++ t) (((q ++ [x]).length : Int) - 1) = x := by
  unfold rd
  have : (((q ++ [x]).length : Int) - 1).toNat = q.length := by simp
  rw [this]
  simp

/-- A check over all heights of at most so many rows, one after the other. -/
def htsAll (P : List Int → Bool) : Nat → Int → List Int → Bool
  | 0, _, p => P p
  | m + 1, last, p => P p && (List.range (last + 2).toNat).all fun x => htsAll P m (x : Int) (p ++ [(x : Int)])
theorem htsAll_sound (P : List Int → Bool) : ∀ (m : Nat) (last : Int) (p : List Int), htsAll P m last p = true → ∀ t : List Int, t.length ≤ m → hts last t = true → P (p ++ t) = true
  | 0, last, p, h, t, ht, _ => by
    obtain rfl : t = [] := List.length_eq_zero_iff.1 (by omega)
    rw [List.append_nil]
    exact h
  | m + 1, last, p, h, [], _, _ => by
    rw [htsAll, Bool.and_eq_true] at h
    rw [List.append_nil]
    exact h.1
  | m + 1, last, p, h, x :: t, ht, hh => by
    rw [htsAll, Bool.and_eq_true, List.all_eq_true] at h
    simp only [hts, Bool.and_eq_true, decide_eq_true_eq] at hh
    have h1 := h.2 x.toNat (List.mem_range.2 (by omega))
    have e : ((x.toNat : Nat) : Int) = x := by omega
    rw [e] at h1
    have := htsAll_sound P m x (p ++ [x]) h1 t (by simp at ht; omega) hh.2
    rwa [List.append_assoc] at this

/-- All numbers lie from lo to hi. -/
def inAll (lo hi : Int) (l : List Int) : Bool := l.all fun n => decide (lo ≤ n) && decide (n ≤ hi)
theorem inAll_iff (lo hi : Int) (l : List Int) : inAll lo hi l = true ↔ ∀ x ∈ l, lo ≤ x ∧ x ≤ hi := by
  simp [inAll, List.all_eq_true]
theorem inAll_cons (lo hi x : Int) (l : List Int) : inAll lo hi (x :: l) = ((decide (lo ≤ x) && decide (x ≤ hi)) && inAll lo hi l) := by
  simp [inAll]

/-- Parents lead to the root in so many steps at most. -/
def climb (par : List Int) : Nat → Int → Bool
  | 0, a => decide (a ≤ 0)
  | m + 1, a => if a > 0 then climb par m (rd par (a - 1)) else true
theorem climb_more (par : List Int) : ∀ (m : Nat) (a : Int), climb par m a = true → climb par (m + 1) a = true
  | 0, a, h => by
    simp only [climb, decide_eq_true_eq] at h
    simp only [climb]
    rw [if_neg (by omega)]
  | m + 1, a, h => by
    rw [climb]
    by_cases c : a > 0
    · rw [if_pos c]
      rw [climb, if_pos c] at h
      exact climb_more par m _ h
    · rw [if_neg c]
/-- The node so many steps above. -/
def up (par : List Int) : Nat → Int → Int
  | 0, a => a
  | m + 1, a => up par m (rd par (a - 1))
theorem climb_up (par : List Int) : ∀ (m : Nat) (a : Int), climb par m a = true ↔ ∃ j, j ≤ m ∧ up par j a ≤ 0
  | 0, a => by
    simp only [climb, decide_eq_true_eq]
    constructor
    · exact fun h => ⟨0, Nat.le_refl _, h⟩
    · rintro ⟨j, hj, h⟩
      obtain rfl : j = 0 := by omega
      exact h
  | m + 1, a => by
    rw [climb]
    by_cases c : a > 0
    · rw [if_pos c, climb_up par m]
      constructor
      · rintro ⟨j, hj, h⟩
        exact ⟨j + 1, by omega, h⟩
      · rintro ⟨j, hj, h⟩
        cases j with
        | zero => exact absurd h (by simp only [up]; omega)
        | succ j => exact ⟨j, by omega, h⟩
    · rw [if_neg c]
      exact ⟨fun _ => ⟨0, by omega, by simp only [up]; omega⟩, fun _ => rfl⟩
theorem up_add (par : List Int) : ∀ (i j : Nat) (a : Int), up par (i + j) a = up par j (up par i a)
  | 0, j, a => by rw [Nat.zero_add]; rfl
  | i + 1, j, a => by
    rw [Nat.add_right_comm]
    exact up_add par i j (rd par (a - 1))
/-- Of n + 1 numbers from 1 to n two are alike. -/
theorem two_alike : ∀ (n : Nat) (f : Nat → Int), (∀ i, i ≤ n → 1 ≤ f i ∧ f i ≤ n) → ∃ i j, i < j ∧ j ≤ n ∧ f i = f j
  | 0, f, h => by have := h 0 (by omega); omega
  | n + 1, f, h => by
    by_cases c : ∃ i, i ≤ n ∧ f i = f (n + 1)
    · obtain ⟨i, hi, e⟩ := c
      exact ⟨i, n + 1, by omega, by omega, e⟩
    · -- the last one's value is left out
      let g : Nat → Int := fun i => if f i > f (n + 1) then f i - 1 else f i
      have hg : ∀ i, i ≤ n → 1 ≤ g i ∧ g i ≤ n := by
        intro i hi
        have h1 := h i (by omega)
        have h2 := h (n + 1) (by omega)
        have h3 : f i ≠ f (n + 1) := fun e => c ⟨i, hi, e⟩
        show 1 ≤ (if f i > f (n + 1) then f i - 1 else f i) ∧ (if f i > f (n + 1) then f i - 1 else f i) ≤ n
        split <;> omega
      obtain ⟨i, j, hij, hj, e⟩ := two_alike n g hg
      have h3 : f i ≠ f (n + 1) := fun e => c ⟨i, by omega, e⟩
      have h4 : f j ≠ f (n + 1) := fun e => c ⟨j, by omega, e⟩
      refine ⟨i, j, hij, by omega, ?_⟩
      have e' : (if f i > f (n + 1) then f i - 1 else f i) = (if f j > f (n + 1) then f j - 1 else f j) := e
      split at e' <;> split at e' <;> omega
/-- What is reached in n + 1 steps is reached in n. -/
theorem climb_less (par : List Int) (hp : ∀ x ∈ par, 0 ≤ x ∧ x ≤ par.length) (a : Int) (ha0 : 0 ≤ a) (ha : a ≤ par.length) (h : climb par (par.length + 1) a = true) : climb par par.length a = true := by
  rw [climb_up] at h ⊢
  obtain ⟨j, hj, hu⟩ := h
  by_cases c : ∃ i, i ≤ par.length ∧ up par i a ≤ 0
  · exact c
  · exfalso
    have hpos : ∀ i, i ≤ par.length → 1 ≤ up par i a := fun i hi => by
      have : ¬ up par i a ≤ 0 := fun e => c ⟨i, hi, e⟩
      omega
    have hle : ∀ i, i ≤ par.length → up par i a ≤ par.length := by
      intro i
      induction i with
      | zero => intro _; exact ha
      | succ i ih =>
        intro hi
        have h1 := hpos i (by omega)
        have h2 := ih (by omega)
        rw [up_add par i 1]
        have hr : rd par (up par i a - 1) ∈ par := by
          unfold rd
          rw [List.getD_eq_getElem?_getD, List.getElem?_eq_getElem (by omega)]
          exact List.getElem_mem _
        exact (hp _ hr).2
    obtain ⟨i, k, hik, hk, e⟩ := two_alike par.length (fun i => up par i a) (fun i hi => ⟨hpos i hi, hle i hi⟩)
    have e : up par i a = up par k a := e
    -- j = n + 1: the same place stood earlier
    have hj' : j = par.length + 1 := by
      rcases Nat.lt_or_ge par.length j with h1 | h1
      · omega
      · exact absurd ⟨j, h1, hu⟩ c
    have e2 : up par j a = up par (i + (j - k)) a := by
      rw [show j = k + (j - k) by omega, up_add par k, up_add par i, ← e]
      congr 1
      omega
    have := hpos (i + (j - k)) (by omega)
    omega
/-- A tree: parents lead to the root from each node. -/
def isTr (par : List Int) : Bool := decide (par.length ≤ 8) && inAll 0 par.length par && (List.range par.length).all fun i => climb par par.length ((i : Int) + 1)

theorem nodup_at {l : List Int} (h : l.Nodup) {i j : Nat} (hi : i < j) (hj : j < l.length) : l[i]'(by omega) ≠ l[j] :=
  List.pairwise_iff_getElem.1 h i j (by omega) hj hi
theorem nodup_length (n : Nat) (l : List Int) (h : l.Nodup) (hr : ∀ v ∈ l, 0 ≤ v ∧ v ≤ n) : l.length ≤ n + 1 := by
  refine Classical.byContradiction fun c => ?_
  obtain ⟨i, j, hij, hj, e⟩ := two_alike (n + 1) (fun i => l.getD i 0 + 1) (fun i hi => by
    have hm : l.getD i 0 ∈ l := by
      rw [List.getD_eq_getElem?_getD, List.getElem?_eq_getElem (by omega)]
      exact List.getElem_mem _
    have := hr _ hm
    show 1 ≤ l.getD i 0 + 1 ∧ l.getD i 0 + 1 ≤ ((n + 1 : Nat) : Int)
    omega)
  have e2 : l.getD i 0 + 1 = l.getD j 0 + 1 := e
  rw [List.getD_eq_getElem?_getD, List.getD_eq_getElem?_getD, List.getElem?_eq_getElem (by omega), List.getElem?_eq_getElem (by omega)] at e2
  simp only [Option.getD_some] at e2
  exact nodup_at h hij (by omega) (by omega)

/-- Rising, with equal ones. -/
def Up (l : List Int) : Prop := l.Pairwise (· ≤ ·)
/-- A number put where it belongs. -/
def put (x : Int) : List Int → List Int
  | [] => [x]
  | h :: t => if x ≤ h then x :: h :: t else h :: put x t
/-- A list in order. -/
def srt : List Int → List Int
  | [] => []
  | h :: t => put h (srt t)
theorem put_perm (x : Int) : ∀ l : List Int, (put x l).Perm (x :: l)
  | [] => .refl _
  | h :: t => by
    rw [put]
    split
    · exact .refl _
    · exact ((put_perm x t).cons h).trans (.swap x h t)
theorem put_up (x : Int) : ∀ l : List Int, Up l → Up (put x l)
  | [], _ => by simp [put, Up]
  | h :: t, hl => by
    have h1 := List.pairwise_cons.1 hl
    rw [put]
    split
    · refine List.pairwise_cons.2 ⟨fun y hy => ?_, hl⟩
      rcases List.mem_cons.1 hy with e | e
      · omega
      · have := h1.1 y e; omega
    · refine List.pairwise_cons.2 ⟨fun y hy => ?_, put_up x t h1.2⟩
      rcases List.mem_cons.1 ((put_perm x t).mem_iff.1 hy) with e | e
      · omega
      · exact h1.1 y e
theorem srt_perm : ∀ l : List Int, (srt l).Perm l
  | [] => .refl _
  | h :: t => (put_perm h (srt t)).trans ((srt_perm t).cons h)
theorem srt_up : ∀ l : List Int, Up (srt l)
  | [] => by simp [srt, Up]
  | h :: t => put_up h _ (srt_up t)
theorem up_unique : ∀ (a b : List Int), Up a → Up b → a.Perm b → a = b
  | [], b, _, _, h => by simpa using h.length_eq.symm
  | x :: a, [], _, _, h => by simpa using h.length_eq
  | x :: a, y :: b, ha, hb, h => by
    have h1 := List.pairwise_cons.1 ha
    have h2 := List.pairwise_cons.1 hb
    have e : x = y := by
      have hx : x ∈ y :: b := h.mem_iff.1 (by simp)
      have hy : y ∈ x :: a := h.mem_iff.2 (by simp)
      rcases List.mem_cons.1 hx with e | e
      · exact e
      · rcases List.mem_cons.1 hy with e' | e'
        · exact e'.symm
        · have := h1.1 y e'
          have := h2.1 x e
          omega
    subst e
    rw [up_unique a b h1.2 h2.2 (List.perm_cons x |>.1 h)]

theorem rise_unique : ∀ (a b : List Int), a.Pairwise (· < ·) → b.Pairwise (· < ·) → (∀ x, x ∈ a ↔ x ∈ b) → a = b
  | [], [], _, _, _ => rfl
  | [], y :: b, _, _, h => by have := (h y).2 (by simp); simp at this
  | x :: a, [], _, _, h => by have := (h x).1 (by simp); simp at this
  | x :: a, y :: b, ha, hb, h => by
    have h1 := List.pairwise_cons.1 ha
    have h2 := List.pairwise_cons.1 hb
    have e : x = y := by
      rcases List.mem_cons.1 ((h x).1 (by simp)) with e | e
      · exact e
      · rcases List.mem_cons.1 ((h y).2 (by simp)) with e' | e'
        · exact e'.symm
        · have := h1.1 y e'
          have := h2.1 x e
          omega
    subst e
    rw [rise_unique a b h1.2 h2.2 fun z => ?_]
    constructor
    · intro hz
      rcases List.mem_cons.1 ((h z).1 (by simp [hz])) with e | e
      · have := h1.1 z hz; omega
      · exact e
    · intro hz
      rcases List.mem_cons.1 ((h z).2 (by simp [hz])) with e | e
      · have := h2.1 z hz; omega
      · exact e
theorem srt_rising (l : List Int) (h : l.Nodup) : (srt l).Pairwise (· < ·) := by
  have h1 := srt_up l
  have h2 : (srt l).Nodup := (srt_perm l).nodup_iff.2 h
  refine List.pairwise_iff_getElem.2 fun i j hi hj hij => ?_
  have h3 := List.pairwise_iff_getElem.1 h1 i j hi hj hij
  have h4 := List.pairwise_iff_getElem.1 h2 i j hi hj hij
  omega

/-- How many steps lead to the root, of so many at most. -/
def hgt (par : List Int) : Nat → Int → Nat
  | 0, _ => 0
  | m + 1, a => if a > 0 then hgt par m (rd par (a - 1)) + 1 else 0
theorem hgt_more (par : List Int) : ∀ (m : Nat) (a : Int), climb par m a = true → hgt par (m + 1) a = hgt par m a
  | 0, a, h => by
    simp only [climb, decide_eq_true_eq] at h
    simp only [hgt]
    rw [if_neg (by omega)]
  | m + 1, a, h => by
    rw [climb] at h
    show (if a > 0 then hgt par (m + 1) (rd par (a - 1)) + 1 else 0) = (if a > 0 then hgt par m (rd par (a - 1)) + 1 else 0)
    by_cases c : a > 0
    · rw [if_pos c] at h
      rw [if_pos c, if_pos c, hgt_more par m _ h]
    · rw [if_neg c, if_neg c]
/-- The depth of a node. -/
def dep (par : List Int) (a : Int) : Nat := hgt par par.length a
theorem isTr_iff (par : List Int) : isTr par = true ↔ par.length ≤ 8 ∧ (∀ x ∈ par, 0 ≤ x ∧ x ≤ par.length) ∧ ∀ a : Int, 1 ≤ a → a ≤ par.length → climb par par.length a = true := by
  simp only [isTr, Bool.and_eq_true, decide_eq_true_eq, inAll_iff, List.all_eq_true, List.mem_range]
  constructor
  · rintro ⟨⟨h1, h2⟩, h3⟩
    refine ⟨h1, h2, fun a ha hb => ?_⟩
    have := h3 (a - 1).toNat (by omega)
    rwa [show (((a - 1).toNat : Nat) : Int) + 1 = a by omega] at this
  · rintro ⟨h1, h2, h3⟩
    exact ⟨⟨h1, h2⟩, fun i hi => h3 _ (by omega) (by omega)⟩
theorem rd_mem (l : List Int) (i : Int) (h0 : 0 ≤ i) (h1 : i < l.length) : rd l i ∈ l := by
  unfold rd
  rw [List.getD_eq_getElem?_getD, List.getElem?_eq_getElem (by omega)]
  exact List.getElem_mem _
/-- In a tree a node is one deeper than its parent. -/
theorem dep_step (par : List Int) (ht : isTr par = true) (a : Int) (h0 : 1 ≤ a) (h1 : a ≤ par.length) : dep par a = dep par (rd par (a - 1)) + 1 := by
  obtain ⟨_, h2, h3⟩ := (isTr_iff par).1 ht
  have hc := h3 a h0 h1
  unfold dep
  obtain ⟨m, hm⟩ : ∃ m, par.length = m + 1 := ⟨par.length - 1, by omega⟩
  rw [hm] at hc ⊢
  rw [climb, if_pos (by omega)] at hc
  rw [hgt, if_pos (by omega), hgt_more par m _ hc]

/-- So many numbers from one on. -/
def iota : Nat → Int → List Int
  | 0, _ => []
  | n + 1, i => i :: iota n (i + 1)
theorem iota_mem (x : Int) : ∀ (n : Nat) (i : Int), x ∈ iota n i ↔ i ≤ x ∧ x < i + n
  | 0, i => by
    simp only [iota, List.not_mem_nil, false_iff]
    omega
  | n + 1, i => by
    rw [iota, List.mem_cons, iota_mem x n (i + 1)]
    omega
theorem iota_rising : ∀ (n : Nat) (i : Int), (iota n i).Pairwise (· < ·)
  | 0, i => by simp [iota]
  | n + 1, i => List.pairwise_cons.2 ⟨fun x hx => by have := (iota_mem x n (i + 1)).1 hx; omega, iota_rising n (i + 1)⟩
theorem iota_length : ∀ (n : Nat) (i : Int), (iota n i).length = n
  | 0, _ => rfl
  | n + 1, i => by rw [iota, List.length_cons, iota_length n]
theorem rising_nodup {l : List Int} (h : l.Pairwise (· < ·)) : l.Nodup := h.imp fun hab => by omega
/-- Each number stands where it belongs. -/
def isUp : List Int → Int → Bool
  | [], _ => true
  | h :: t, i => decide (h = i) && isUp t (i + 1)
theorem isUp_iff : ∀ (l : List Int) (i : Int), isUp l i = true ↔ l = iota l.length i
  | [], i => by simp [isUp, iota]
  | h :: t, i => by
    rw [isUp, Bool.and_eq_true, decide_eq_true_eq, isUp_iff t (i + 1), List.length_cons, iota]
    constructor
    · rintro ⟨h1, h2⟩
      rw [h1, ← h2]
    · intro e
      injection e with h1 h2
      exact ⟨h1, h2⟩
theorem order_iff (l : List Int) : isUp (srt l) 0 = true ↔ inAll 0 ((l.length : Int) - 1) l = true ∧ l.Nodup := by
  rw [isUp_iff, (srt_perm l).length_eq, inAll_iff]
  constructor
  · intro e
    have hm : ∀ x, x ∈ l ↔ 0 ≤ x ∧ x < 0 + (l.length : Int) := fun x => by
      rw [← iota_mem x l.length 0, ← e]
      exact (srt_perm l).mem_iff.symm
    refine ⟨fun x hx => by have := (hm x).1 hx; omega, ?_⟩
    rw [← (srt_perm l).nodup_iff, e]
    exact rising_nodup (iota_rising _ _)
  · rintro ⟨h1, h2⟩
    refine rise_unique _ _ (srt_rising l h2) (iota_rising _ _) fun x => ?_
    rw [(srt_perm l).mem_iff, iota_mem]
    constructor
    · intro hx
      have := h1 x hx
      omega
    · intro hx
      refine Classical.byContradiction fun hn => ?_
      have hc : (x :: l).Nodup := List.nodup_cons.2 ⟨hn, h2⟩
      have := nodup_length (l.length - 1) (x :: l) hc fun v hv => by
        rcases List.mem_cons.1 hv with e | e
        · omega
        · have := h1 v e; omega
      rw [List.length_cons] at this
      omega
/-- Where a height is one more than the one ahead of it, labels don't fall: so many places from one on. -/
def labsFrom (H L : List Int) : Nat → Nat → Bool
  | 0, _ => true
  | d + 1, i => if rd H i = rd H ((i : Int) - 1) + 1 ∧ rd L ((i : Int) - 1) > rd L i then false else labsFrom H L d (i + 1)
theorem labsFrom_iff (H L : List Int) : ∀ (d i : Nat), labsFrom H L d i = true ↔ ∀ j : Nat, i ≤ j → j < i + d → rd H j = rd H ((j : Int) - 1) + 1 → rd L ((j : Int) - 1) ≤ rd L j
  | 0, i => by
    simp only [labsFrom, true_iff]
    intro j h1 h2
    omega
  | d + 1, i => by
    rw [labsFrom]
    have ih := labsFrom_iff H L d (i + 1)
    by_cases c : rd H i = rd H ((i : Int) - 1) + 1 ∧ rd L ((i : Int) - 1) > rd L i
    · rw [if_pos c]
      constructor
      · intro h; cases h
      · intro h
        have := h i (Nat.le_refl _) (by omega) c.1
        omega
    · rw [if_neg c, ih]
      constructor
      · intro h j h1 h2 h3
        by_cases e : j = i
        · subst e
          refine Classical.byContradiction fun h4 => c ⟨h3, by omega⟩
        · exact h j (by omega) (by omega) h3
      · intro h j h1 h2 h3
        exact h j (by omega) (by omega) h3
/-- The same, and no label stands twice. -/
def bothFrom (H L : List Int) : Nat → Nat → Bool
  | 0, _ => true
  | d + 1, i => if rd L i ∈ L.take i then false else if 0 < i ∧ rd H i = rd H ((i : Int) - 1) + 1 ∧ rd L ((i : Int) - 1) > rd L i then false else bothFrom H L d (i + 1)
theorem bothFrom_iff (H L : List Int) : ∀ (d i : Nat), bothFrom H L d i = true ↔ ∀ j : Nat, i ≤ j → j < i + d → rd L j ∉ L.take j ∧ (0 < j → rd H j = rd H ((j : Int) - 1) + 1 → rd L ((j : Int) - 1) ≤ rd L j)
  | 0, i => by
    simp only [bothFrom, true_iff]
    intro j h1 h2
    omega
  | d + 1, i => by
    rw [bothFrom]
    have ih := bothFrom_iff H L d (i + 1)
    by_cases g : rd L i ∈ L.take i
    · rw [if_pos g]
      constructor
      · intro h; cases h
      · intro h
        exact absurd g (h i (Nat.le_refl _) (by omega)).1
    · rw [if_neg g]
      by_cases c : 0 < i ∧ rd H i = rd H ((i : Int) - 1) + 1 ∧ rd L ((i : Int) - 1) > rd L i
      · rw [if_pos c]
        constructor
        · intro h; cases h
        · intro h
          have := (h i (Nat.le_refl _) (by omega)).2 c.1 c.2.1
          omega
      · rw [if_neg c, ih]
        constructor
        · intro h j h1 h2
          by_cases e : j = i
          · subst e
            exact ⟨g, fun h3 h4 => Classical.byContradiction fun h5 => c ⟨h3, h4, by omega⟩⟩
          · exact h j (by omega) (by omega)
        · intro h j h1 h2
          exact h j (by omega) (by omega)
theorem nodup_take (L : List Int) : L.Nodup ↔ ∀ j : Nat, j < L.length → rd L j ∉ L.take j := by
  constructor
  · intro h j hj hm
    obtain ⟨i, hi, e⟩ := List.mem_iff_getElem.1 hm
    rw [List.getElem_take] at e
    have hij : i < j := by simp at hi; omega
    rw [rd_nat, List.getD_eq_getElem?_getD, List.getElem?_eq_getElem hj] at e
    exact nodup_at h hij hj e
  · intro h
    refine List.pairwise_iff_getElem.2 fun i j hi hj hij e => h j hj ?_
    rw [rd_nat, List.getD_eq_getElem?_getD, List.getElem?_eq_getElem hj]
    refine List.mem_iff_getElem.2 ⟨i, by simp; omega, ?_⟩
    rw [List.getElem_take]
    exact e
theorem both_alike (H L : List Int) : bothFrom H L L.length 0 = (decide L.Nodup && labsFrom H L (L.length - 1) 1) := by
  rw [Bool.eq_iff_iff, Bool.and_eq_true, decide_eq_true_eq, bothFrom_iff, labsFrom_iff, nodup_take]
  constructor
  · intro h
    exact ⟨fun j hj => (h j (by omega) (by omega)).1, fun j h1 h2 => (h j (by omega) (by omega)).2 (by omega)⟩
  · rintro ⟨h1, h2⟩ j _ h3
    exact ⟨h1 j (by omega), fun h4 => h2 j (by omega) (by omega)⟩
/-- A walk: heights, and labels that are an order of as many and rise where heights rise. -/
def goodW (H L : List Int) : Bool := (decide (H.length ≤ 8) && hts (-1) H) && (decide ((L.length : Int) = (H.length : Int)) && (inAll 0 ((H.length : Int) - 1) L && (decide L.Nodup && labsFrom H L (L.length - 1) 1)))
theorem goodW_iff (H L : List Int) : goodW H L = true ↔ (H.length ≤ 8 ∧ hts (-1) H = true) ∧ L.length = H.length ∧ (∀ x ∈ L, 0 ≤ x ∧ x ≤ (H.length : Int) - 1) ∧ L.Nodup ∧ labsFrom H L (L.length - 1) 1 = true := by
  simp only [goodW, Bool.and_eq_true, decide_eq_true_eq, inAll_iff]
  constructor
  · rintro ⟨h1, h2, h3⟩
    exact ⟨h1, by omega, h3⟩
  · rintro ⟨h1, h2, h3⟩
    exact ⟨h1, by omega, h3⟩
theorem hts_rd {H : List Int} (h8 : H.length ≤ 8) (h : hts (-1) H = true) (i : Int) (h0 : 0 ≤ i) (h1 : i < H.length) : 0 ≤ rd H i ∧ rd H i ≤ 8 := by
  have := hts_mem H (-1) h _ (rd_mem H i h0 h1)
  omega

theorem ev_impl_between (a b c : Int) : impl_between.f a b c = some (decide (b ≤ a) && decide (a ≤ c)) := by
  unfold impl_between.f
  by_cases h : a ≥ b
  · rw [if_pos h]; simp [show b ≤ a from h]
  · rw [if_neg h]; simp [show ¬ b ≤ a from h]

theorem ev_impl_isCars (a : Int) : impl_isCars.f a = some (decide (0 ≤ a) && decide (a ≤ 8)) := by
  unfold impl_isCars.f
  rw [ev_impl_between]
  rfl

theorem impl_areHeights_l0 : ∀ (t p : List Int) (last : Int), p.length + t.length ≤ 35184372088832 →
    (p = [] ∧ last = -1 ∨ ∃ q, p = q ++ [last]) → -1 ≤ last → last < p.length →
    Ev (fun k => impl_areHeights.l0 k (p ++ t) (p ++ t) ((p ++ t).length : Int) (p.length : Int)) (hts last t && decide ((p ++ t).length ≤ 8))
  | [], p, last, _, _, _, _ => by
    refine Ev.ret fun k => ?_
    rw [impl_areHeights.l0, if_neg (by simp), ev_impl_isCars]
    simp only [hts, Bool.true_and, Option.bind_some, Option.some.injEq]
    rw [Bool.eq_iff_iff]
    simp only [Bool.and_eq_true, decide_eq_true_eq]
    omega
  | h :: t, p, last, hn, hp, h0, h1 => by
    have hn' : p.length + t.length + 1 ≤ 35184372088832 := by simpa [Nat.add_assoc] using hn
    have e1 : (p ++ [h]) ++ t = p ++ h :: t := by simp
    have e2 : (((p ++ [h]).length : Nat) : Int) = (p.length : Int) + 1 := by simp
    by_cases c : 0 ≤ h ∧ h ≤ last + 1
    · have ih := impl_areHeights_l0 t (p ++ [h]) h (by simp; omega) (.inr ⟨p, rfl⟩) (by omega) (by omega)
      rw [e1, e2] at ih
      have er : hts last (h :: t) = hts h t := by simp [hts, c]
      rw [er]
      refine Ev.step (fun k => ?_) ih
      show impl_areHeights.l0 (k + 1) (p ++ h :: t) (p ++ h :: t) ((p ++ h :: t).length : Int) (p.length : Int) = _
      rw [impl_areHeights.l0, if_pos (by simp; omega), if_pos (by omega), if_pos (by simp; omega), rd_mid, if_neg (by omega)]
      rcases hp with ⟨rfl, rfl⟩ | ⟨q, rfl⟩
      · rw [if_pos (by simp), if_neg (by omega), if_neg (by simp), w64 (by simp) (by simp)]
      · have hl : ((q ++ [last]).length : Int) = (q.length : Int) + 1 := by simp
        have ep : wrap64 (((q ++ [last]).length : Int) - 1) = ((q ++ [last]).length : Int) - 1 := w64 (by omega) (by omega)
        rw [if_neg (by omega), if_pos (by omega), ep, if_pos (by omega), if_pos (by simp; omega), rd_prev, w64 (by omega) (by omega), if_neg (by omega), w64 (by omega) (by omega)]
    · have er : hts last (h :: t) = false := by
        simp only [hts, Bool.and_eq_false_iff, decide_eq_false_iff_not]
        omega
      rw [er, Bool.false_and]
      refine Ev.ret fun k => ?_
      rw [impl_areHeights.l0, if_pos (by simp; omega), if_pos (by omega), if_pos (by simp; omega), rd_mid]
      by_cases c0 : h < 0
      · rw [if_pos c0]
      · rw [if_neg c0]
        rcases hp with ⟨rfl, rfl⟩ | ⟨q, rfl⟩
        · rw [if_pos (by simp), if_pos (by omega)]
        · have hl : ((q ++ [last]).length : Int) = (q.length : Int) + 1 := by simp
          have ep : wrap64 (((q ++ [last]).length : Int) - 1) = ((q ++ [last]).length : Int) - 1 := w64 (by omega) (by omega)
          rw [if_neg (by omega), if_pos (by omega), ep, if_pos (by omega), if_pos (by simp; omega), rd_prev, w64 (by omega) (by omega), if_pos (by omega)]
theorem ev_impl_areHeights (l : List Int) (hl : l.length ≤ 35184372088832) : Ev (fun k => impl_areHeights.f k l) (decide (l.length ≤ 8) && hts (-1) l) := by
  have z := impl_areHeights_l0 l [] (-1) (by simpa using hl) (.inl ⟨rfl, rfl⟩) (by omega) (by simp)
  rw [Bool.and_comm]
  exact z

theorem mergeSort_srt (l : List Int) : (l.mergeSort fun x y => decide (x ≤ y)) = srt l := by
  refine up_unique _ _ ?_ (srt_up l) ((List.mergeSort_perm l _).trans (srt_perm l).symm)
  have h := List.pairwise_mergeSort (le := fun x y : Int => decide (x ≤ y)) (fun a b c h1 h2 => by simp at h1 h2 ⊢; omega) (fun a b => by simp; omega) l
  exact h.imp fun hab => by simpa using hab
theorem ev_impl_sortedL (l : List Int) (hl : l.length ≤ 10000000) : Ev (fun k => impl_sorted.f k l) (srt l) := by
  refine Ev.congr (fun k => ?_) (Ev.now (srt l))
  show impl_sorted.f k l = _
  rw [impl_sorted.f, if_pos hl, slices_Sort_int_int.f, if_pos (by omega), mergeSort_srt]

theorem ev_impl_sorted (l : List Int) (hl : l.length ≤ 12) : Ev (fun k => impl_sorted.f k l) (srt l) := ev_impl_sortedL l (by omega)

theorem impl_isOrder_l0 (l0 : List Int) : ∀ (t p : List Int), p.length + t.length ≤ 35184372088832 →
    Ev (fun k => impl_isOrder.l0 k l0 (p ++ t) ((p ++ t).length : Int) (p.length : Int)) (isUp t p.length && decide ((l0.length : Int) ≤ 8))
  | [], p, _ => by
    refine Ev.ret fun k => ?_
    rw [impl_isOrder.l0, if_neg (by simp), isUp, Bool.true_and]
  | h :: t, p, hn => by
    have hn' : p.length + t.length + 1 ≤ 35184372088832 := by simpa [Nat.add_assoc] using hn
    have hm := len_mid p h t
    rw [isUp]
    by_cases c : h = (p.length : Int)
    · have ih := impl_isOrder_l0 l0 t (p ++ [h]) (by simp; omega)
      rw [app_snoc p h t, len_snoc p h] at ih
      rw [decide_eq_true c, Bool.true_and]
      refine Ev.step (fun k => ?_) ih
      show impl_isOrder.l0 (k + 1) l0 (p ++ h :: t) ((p ++ h :: t).length : Int) (p.length : Int) = _
      rw [impl_isOrder.l0, if_pos (by omega), if_pos (by omega), if_pos (by omega), rd_mid, if_pos c, w64 (by omega) (by omega)]
    · rw [decide_eq_false c, Bool.false_and, Bool.false_and]
      refine Ev.ret fun k => ?_
      rw [impl_isOrder.l0, if_pos (by omega), if_pos (by omega), if_pos (by omega), rd_mid, if_neg c]
theorem ev_impl_isOrder (l : List Int) (hl : l.length ≤ 12) : Ev (fun k => impl_isOrder.f k l) (isUp (srt l) 0 && decide ((l.length : Int) ≤ 8)) := by
  refine Ev.bind (ev_impl_sorted l hl) ?_
  exact impl_isOrder_l0 l (srt l) [] (by have := (srt_perm l).length_eq; simp; omega)

theorem impl_isWalk_l0 (H L : List Int) (h8 : H.length ≤ 8) (hh : hts (-1) H = true) (hl : L.length = H.length) : ∀ (d i : Nat), 1 ≤ i → i + d = max 1 H.length →
    Ev (fun k => impl_isWalk.l0 k (i : Int) H L) (labsFrom H L d i)
  | 0, i, h1, hd => by
    refine Ev.ret fun k => ?_
    rw [impl_isWalk.l0, if_neg (by omega), labsFrom]
  | d + 1, i, h1, hd => by
    have ih := impl_isWalk_l0 H L h8 hh hl d (i + 1) (by omega) (by omega)
    rw [show ((i + 1 : Nat) : Int) = (i : Int) + 1 by omega] at ih
    have hr := hts_rd h8 hh ((i : Int) - 1) (by omega) (by omega)
    rw [labsFrom]
    by_cases c1 : rd H i = rd H ((i : Int) - 1) + 1
    · by_cases c2 : rd L ((i : Int) - 1) > rd L i
      · rw [if_pos ⟨c1, c2⟩]
        refine Ev.ret fun k => ?_
        rw [impl_isWalk.l0, w64 (x := (i : Int) - 1) (by omega) (by omega), w64 (x := rd H ((i : Int) - 1) + 1) (by omega) (by omega), if_pos (by omega), if_pos (by omega), if_pos (by omega), if_pos (by omega), if_pos c1, if_pos (by omega), if_pos (by omega), if_pos c2]
      · rw [if_neg (fun h => c2 h.2)]
        refine Ev.step (fun k => ?_) ih
        show impl_isWalk.l0 (k + 1) (i : Int) H L = _
        rw [impl_isWalk.l0, w64 (x := (i : Int) - 1) (by omega) (by omega), w64 (x := rd H ((i : Int) - 1) + 1) (by omega) (by omega), if_pos (by omega), if_pos (by omega), if_pos (by omega), if_pos (by omega), if_pos c1, if_pos (by omega), if_pos (by omega), if_neg c2, w64 (by omega) (by omega)]
    · rw [if_neg (fun h => c1 h.1)]
      refine Ev.step (fun k => ?_) ih
      show impl_isWalk.l0 (k + 1) (i : Int) H L = _
      rw [impl_isWalk.l0, w64 (x := (i : Int) - 1) (by omega) (by omega), w64 (x := rd H ((i : Int) - 1) + 1) (by omega) (by omega), if_pos (by omega), if_pos (by omega), if_pos (by omega), if_pos (by omega), if_neg c1, w64 (by omega) (by omega)]
theorem impl_isWalk_no (H L : List Int) : Ev (fun k => impl_isWalk.j0 k true H L) false :=
  Ev.ret fun k => by rw [impl_isWalk.j0, if_pos rfl]
theorem ev_impl_isWalk (H L : List Int) (hH : H.length ≤ 35184372088832) : Ev (fun k => impl_isWalk.f k H L) (goodW H L) := by
  refine Ev.bind (ev_impl_areHeights H hH) ?_
  cases c : decide (H.length ≤ 8) && hts (-1) H with
  | false =>
    rw [show goodW H L = false by rw [goodW, c, Bool.false_and]]
    exact Ev.congr (fun k => by rw [if_neg (by simp)]) (impl_isWalk_no H L)
  | true =>
    have cc : H.length ≤ 8 ∧ hts (-1) H = true := by simpa using c
    refine Ev.congr (fun k => by rw [if_pos rfl]) ?_
    by_cases d : (L.length : Int) = (H.length : Int)
    · refine Ev.congr (fun k => by rw [if_pos d]) ?_
      refine Ev.bind (ev_impl_isOrder L (by omega)) ?_
      have e8 : decide ((L.length : Int) ≤ 8) = true := decide_eq_true (by omega)
      rw [e8, Bool.and_true]
      have ho := order_iff L
      cases e : isUp (srt L) 0 with
      | false =>
        have : goodW H L = false := by
          refine Bool.eq_false_iff.2 fun h => ?_
          obtain ⟨_, _, h3, h4, _⟩ := (goodW_iff H L).1 h
          have := ho.2 ⟨(inAll_iff _ _ _).2 fun x hx => by have := h3 x hx; omega, h4⟩
          rw [e] at this
          cases this
        rw [this]
        exact Ev.congr (fun k => by rw [Bool.not_false]) (impl_isWalk_no H L)
      | true =>
        obtain ⟨h1, h2⟩ := ho.1 e
        rw [d] at h1
        rw [show goodW H L = labsFrom H L (L.length - 1) 1 by rw [goodW, c, decide_eq_true d, h1, decide_eq_true h2, Bool.true_and, Bool.true_and, Bool.true_and, Bool.true_and]]
        refine Ev.step (fun k => by rw [impl_isWalk.j0, if_neg (by simp)]) ?_
        exact impl_isWalk_l0 H L cc.1 cc.2 (by omega) (L.length - 1) 1 (by omega) (by omega)
    · rw [show goodW H L = false by rw [goodW, decide_eq_false d, Bool.false_and, Bool.and_false]]
      exact Ev.congr (fun k => by rw [if_neg d]) (impl_isWalk_no H L)

/-- How many numbers are so. -/
def cnt (q : Int → Bool) : List Int → Int
  | [] => 0
  | h :: t => (if q h = true then 1 else 0) + cnt q t
theorem cnt_range (q : Int → Bool) : ∀ l : List Int, 0 ≤ cnt q l ∧ cnt q l ≤ l.length
  | [] => by simp [cnt]
  | h :: t => by
    have := cnt_range q t
    have e : ((h :: t).length : Int) = (t.length : Int) + 1 := by simp
    simp only [cnt]
    rw [e]
    split <;> omega
theorem cnt_append (q : Int → Bool) : ∀ a b : List Int, cnt q (a ++ b) = cnt q a + cnt q b
  | [], b => by simp [cnt]
  | h :: t, b => by simp only [List.cons_append, cnt, cnt_append q t b]; omega

/-- The places of the numbers that are so. -/
def places (q : Int → Bool) : List Int → Int → List Int
  | [], _ => []
  | h :: t, i => if q h = true then i :: places q t (i + 1) else places q t (i + 1)
theorem places_length (q : Int → Bool) : ∀ (l : List Int) (i : Int), ((places q l i).length : Int) = cnt q l
  | [], i => by simp [places, cnt]
  | h :: t, i => by
    rw [places, cnt]
    have := places_length q t (i + 1)
    split
    · simp; omega
    · omega
theorem places_mem (q : Int → Bool) (x : Int) : ∀ (l : List Int) (i : Int), x ∈ places q l i ↔ ∃ j : Nat, ∃ v, l[j]? = some v ∧ q v = true ∧ x = i + j
  | [], i => by simp [places]
  | h :: t, i => by
    rw [places]
    have ih := places_mem q x t (i + 1)
    constructor
    · intro hx
      have : x = i ∧ q h = true ∨ x ∈ places q t (i + 1) := by
        split at hx
        · rename_i c
          rcases List.mem_cons.1 hx with h1 | h1
          · exact .inl ⟨h1, c⟩
          · exact .inr h1
        · exact .inr hx
      rcases this with ⟨h1, h2⟩ | h1
      · exact ⟨0, h, by simp, h2, by omega⟩
      · obtain ⟨j, v, h2, h3, h4⟩ := ih.1 h1
        exact ⟨j + 1, v, by simpa using h2, h3, by omega⟩
    · rintro ⟨j, v, h2, h3, h4⟩
      cases j with
      | zero =>
        have e : h = v := by simpa using h2
        rw [e, if_pos h3]
        exact List.mem_cons.2 (.inl (by omega))
      | succ j =>
        have h1 : x ∈ places q t (i + 1) := ih.2 ⟨j, v, by simpa using h2, h3, by omega⟩
        split
        · exact List.mem_cons_of_mem _ h1
        · exact h1
theorem places_rising (q : Int → Bool) : ∀ (l : List Int) (i : Int), (places q l i).Pairwise (· < ·)
  | [], i => by simp [places]
  | h :: t, i => by
    rw [places]
    split
    · rw [List.pairwise_cons]
      refine ⟨fun x hx => ?_, places_rising q t (i + 1)⟩
      obtain ⟨j, v, _, _, e⟩ := (places_mem q x t (i + 1)).1 hx
      omega
    · exact places_rising q t (i + 1)

theorem impl_indices_l0 (q : Int → Bool) : ∀ (t p out : List Int), p.length + t.length ≤ 1000000 → out.length ≤ p.length →
    Ev (fun k => impl_indices.l0 q k out (p ++ t) ((p ++ t).length : Int) (p.length : Int)) (out ++ places q t p.length)
  | [], p, out, _, _ => by
    refine Ev.ret fun k => ?_
    rw [impl_indices.l0, if_neg (by simp)]
    simp [places]
  | h :: t, p, out, hn, ho => by
    have hn' : p.length + t.length + 1 ≤ 1000000 := by simpa [Nat.add_assoc] using hn
    have hm := len_mid p h t
    cases c : q h with
    | true =>
      have ih := impl_indices_l0 q t (p ++ [h]) (out ++ [(p.length : Int)]) (by simp; omega) (by simp; omega)
      rw [app_snoc, len_snoc] at ih
      have e : out ++ places q (h :: t) p.length = out ++ [(p.length : Int)] ++ places q t (p.length + 1) := by rw [places, if_pos c]; simp
      rw [e]
      refine Ev.step (fun k => ?_) ih
      show impl_indices.l0 q (k + 1) out (p ++ h :: t) ((p ++ h :: t).length : Int) (p.length : Int) = _
      rw [impl_indices.l0, if_pos (by omega), if_pos (by omega), if_pos (by omega), rd_mid, c, Option.bind_some, if_pos rfl, if_pos (by omega), w64 (by omega) (by omega)]
    | false =>
      have ih := impl_indices_l0 q t (p ++ [h]) out (by simp; omega) (by simp; omega)
      rw [app_snoc, len_snoc] at ih
      have e : out ++ places q (h :: t) p.length = out ++ places q t (p.length + 1) := by rw [places, if_neg (by simp [c])]
      rw [e]
      refine Ev.step (fun k => ?_) ih
      show impl_indices.l0 q (k + 1) out (p ++ h :: t) ((p ++ h :: t).length : Int) (p.length : Int) = _
      rw [impl_indices.l0, if_pos (by omega), if_pos (by omega), if_pos (by omega), rd_mid, c, Option.bind_some, if_neg (by simp), w64 (by omega) (by omega)]
theorem ev_impl_indices (q : Int → Bool) (l : List Int) (hl : l.length ≤ 1000000) : Ev (fun k => impl_indices.f q k l) (places q l 0) := by
  have := impl_indices_l0 q l [] [] (by simpa using hl) (by simp)
  exact this

/-- Where a walk touches the line behind its start. -/
def touchS (H : List Int) : List Int := (places (fun n => decide (n = 0)) H 0).drop 1
theorem ev_impl_TouchesOf (H L : List Int) (hH : H.length ≤ 1000000) : Ev (fun k => impl_TouchesOf.f k H L) (if goodW H L = true then (touchS H, true) else ([], false)) := by
  refine Ev.bind (ev_impl_isWalk H L (by omega)) ?_
  cases c : goodW H L with
  | false => rw [if_neg (by simp)]; exact Ev.now _
  | true =>
    rw [if_pos rfl]
    refine Ev.congr (fun k => by rw [if_pos rfl]) ?_
    have hi : Ev (fun k => impl_TouchesOf_1.f k H) (places (fun n => decide (n = 0)) H 0) := ev_impl_indices _ H hH
    refine Ev.bind hi ?_
    unfold touchS
    generalize places (fun n => decide (n = 0)) H 0 = z
    cases z with
    | nil => exact Ev.congr (fun k => by rw [show mn (([] : List Int).length : Int) 1 = 0 from rfl, if_pos (by omega), if_pos (by simp)]; rfl) (Ev.now _)
    | cons a t =>
      have e : mn ((a :: t).length : Int) 1 = 1 := by unfold mn; rw [List.length_cons]; split <;> omega
      exact Ev.congr (fun k => by rw [e, if_pos (by omega), if_pos (by rw [List.length_cons]; omega)]; rfl) (Ev.now _)

theorem ev_spec_l1In (a b c : Int) : spec_l1In.f a b c = some (decide (b ≤ a) && decide (a ≤ c)) := by
  unfold spec_l1In.f
  by_cases h : a ≥ b
  · rw [if_pos h]; simp [show b ≤ a from h]
  · rw [if_neg h]; simp [show ¬ b ≤ a from h]

theorem spec_waHeights_l0 : ∀ (t p : List Int) (last : Int), -1 ≤ last → last ≤ p.length → p.length + t.length ≤ 8 →
    Ev (fun k => spec_waHeights.l0 k last (p ++ t) ((p ++ t).length : Int) (p.length : Int)) (hts last t)
  | [], p, last, _, _, _ => by
    refine Ev.ret fun k => ?_
    rw [spec_waHeights.l0, if_neg (by simp)]
    rfl
  | h :: t, p, last, h0, h1, hn => by
    have hn' : p.length + t.length + 1 ≤ 8 := by simpa [Nat.add_assoc] using hn
    have e1 : (p ++ [h]) ++ t = p ++ h :: t := by simp
    have e2 : (((p ++ [h]).length : Nat) : Int) = (p.length : Int) + 1 := by simp
    by_cases c : 0 ≤ h ∧ h ≤ last + 1
    · have ih := spec_waHeights_l0 t (p ++ [h]) h (by omega) (by omega) (by simp; omega)
      rw [e1, e2] at ih
      have er : hts last (h :: t) = hts h t := by simp [hts, c]
      rw [er]
      refine Ev.step (fun k => ?_) ih
      show spec_waHeights.l0 (k + 1) last (p ++ h :: t) ((p ++ h :: t).length : Int) (p.length : Int) = _
      rw [spec_waHeights.l0, if_pos (by simp; omega), if_pos (by omega), if_pos (by simp; omega), rd_mid, ev_spec_l1In, w64 (by omega) (by omega), w64 (by omega) (by omega)]
      simp [c]
    · have er : hts last (h :: t) = false := by
        simp only [hts, Bool.and_eq_false_iff, decide_eq_false_iff_not]
        omega
      rw [er]
      refine Ev.ret fun k => ?_
      rw [spec_waHeights.l0, if_pos (by simp; omega), if_pos (by omega), if_pos (by simp; omega), rd_mid, ev_spec_l1In, w64 (by omega) (by omega)]
      have : (decide (0 ≤ h) && decide (h ≤ last + 1)) = false := by
        simp only [Bool.and_eq_false_iff, decide_eq_false_iff_not]
        omega
      rw [this]
      rfl
theorem ev_spec_waHeights (l : List Int) : Ev (fun k => spec_waHeights.f k l) (decide (l.length ≤ 8) && hts (-1) l) := by
  by_cases c : l.length ≤ 8
  · have z := spec_waHeights_l0 l [] (-1) (by omega) (by simp) (by simpa using c)
    rw [decide_eq_true c, Bool.true_and]
    refine Ev.congr (fun k => ?_) z
    show spec_waHeights.f k l = _
    rw [spec_waHeights.f, if_neg (by omega)]
    rfl
  · rw [decide_eq_false c, Bool.false_and]
    refine Ev.congr (fun k => ?_) (Ev.now false)
    show spec_waHeights.f k l = _
    rw [spec_waHeights.f, if_pos (by omega)]

theorem ev_slices_Clone (l : List Int) (h : l.length < 17592186044416) : slices_Clone_int_int.f l = some l := by
  unfold slices_Clone_int_int.f
  simp only [Option.bind_some]
  rw [if_pos (by simp; omega)]
  simp

theorem ev_spec_l1Own (l : List Int) (h : l.length < 17592186044416) : spec_l1Own.f l = some l := by
  unfold spec_l1Own.f
  simp only [Option.bind_some]
  rw [if_pos (by simp; omega)]
  simp

theorem firstLabels_l0 (l : List Int) (n : Nat) (hn : n ≤ 8) : ∀ (d i : Nat) (out : List Int), i + d = n → out.length ≤ i →
    ∃ r : List Int × List Int × Bool, r.1 = l ∧ r.2.1.length ≤ 35184372088832 ∧ Ev (fun k => spec_FirstLabels.l0 k (n : Int) (i : Int) l out) r ∧ Ev (fun k => impl_FirstLabels.l0 k (n : Int) (i : Int) l out) r
  | 0, i, out, hi, ho => by
    refine ⟨(l, out, true), rfl, by show out.length ≤ _; omega, Ev.ret fun k => ?_, Ev.ret fun k => ?_⟩
    · rw [spec_FirstLabels.l0, if_neg (by omega)]
    · rw [impl_FirstLabels.l0, if_neg (by omega)]
  | d + 1, i, out, hi, ho => by
    obtain ⟨r, h1, h2, h3, h4⟩ := firstLabels_l0 l n hn d (i + 1) (out ++ [(i : Int)]) (by omega) (by simp; omega)
    refine ⟨r, h1, h2, Ev.step (fun k => ?_) h3, Ev.step (fun k => ?_) h4⟩
    · show spec_FirstLabels.l0 (k + 1) (n : Int) (i : Int) l out = _
      rw [spec_FirstLabels.l0, if_pos (by omega), if_pos (by omega), w64 (by omega) (by omega)]
      rfl
    · show impl_FirstLabels.l0 (k + 1) (n : Int) (i : Int) l out = _
      rw [impl_FirstLabels.l0, if_pos (by omega), if_pos (by omega), w64 (by omega) (by omega)]
      rfl
theorem firstLabels_both (l : List Int) (hl : l.length ≤ 35184372088832) : ∃ r : List Int × List Int × Bool, r.1.length ≤ 35184372088832 ∧ r.2.1.length ≤ 35184372088832 ∧ Ev (fun k => spec_FirstLabels.f k l) r ∧ Ev (fun k => impl_FirstLabels.f k l) r := by
  cases c : decide (l.length ≤ 8) && hts (-1) l with
  | false =>
    refine ⟨([], [], false), by simp, by simp, ?_, ?_⟩
    · refine Ev.congr (fun k => rfl) (Ev.bind (ev_spec_waHeights l) ?_)
      rw [c]; exact Ev.now _
    · refine Ev.congr (fun k => rfl) (Ev.bind (ev_impl_areHeights l hl) ?_)
      rw [c]; exact Ev.now _
  | true =>
    have c8 : l.length ≤ 8 ∧ hts (-1) l = true := by
      simpa only [Bool.and_eq_true, decide_eq_true_eq] using c
    obtain ⟨r, h1, h2, a, b⟩ := firstLabels_l0 l l.length c8.1 l.length 0 [] (by omega) (by simp)
    refine ⟨r, by rw [h1]; exact hl, h2, ?_, ?_⟩
    · refine Ev.congr (fun k => rfl) (Ev.bind (ev_spec_waHeights l) ?_)
      rw [c]
      exact Ev.congr (fun k => by rw [if_pos rfl, ev_spec_l1Own l (by omega), Option.bind_some]; rfl) a
    · refine Ev.congr (fun k => rfl) (Ev.bind (ev_impl_areHeights l hl) ?_)
      rw [c]
      exact Ev.congr (fun k => by rw [if_pos rfl, ev_slices_Clone l (by omega), Option.bind_some]; rfl) b

theorem firstL_l0 (l : List Int) (n : Nat) (hn : n ≤ 8) : ∀ (d i : Nat) (out : List Int), i + d = n → out.length ≤ i →
    Ev (fun k => spec_FirstLabels.l0 k (n : Int) (i : Int) l out) (l, out ++ iota d i, true) ∧ Ev (fun k => impl_FirstLabels.l0 k (n : Int) (i : Int) l out) (l, out ++ iota d i, true)
  | 0, i, out, hi, ho => by
    rw [iota, List.append_nil]
    refine ⟨Ev.ret fun k => ?_, Ev.ret fun k => ?_⟩
    · rw [spec_FirstLabels.l0, if_neg (by omega)]
    · rw [impl_FirstLabels.l0, if_neg (by omega)]
  | d + 1, i, out, hi, ho => by
    obtain ⟨h3, h4⟩ := firstL_l0 l n hn d (i + 1) (out ++ [(i : Int)]) (by omega) (by simp; omega)
    have e : out ++ iota (d + 1) i = out ++ [(i : Int)] ++ iota d ((i + 1 : Nat) : Int) := by rw [iota, show ((i + 1 : Nat) : Int) = (i : Int) + 1 by omega]; simp
    rw [e]
    refine ⟨Ev.step (fun k => ?_) h3, Ev.step (fun k => ?_) h4⟩
    · show spec_FirstLabels.l0 (k + 1) (n : Int) (i : Int) l out = _
      rw [spec_FirstLabels.l0, if_pos (by omega), if_pos (by omega), w64 (by omega) (by omega)]
      rfl
    · show impl_FirstLabels.l0 (k + 1) (n : Int) (i : Int) l out = _
      rw [impl_FirstLabels.l0, if_pos (by omega), if_pos (by omega), w64 (by omega) (by omega)]
      rfl
/-- What FirstLabels answers. -/
def firstR (l : List Int) : List Int × List Int × Bool := if (decide (l.length ≤ 8) && hts (-1) l) = true then (l, iota l.length 0, true) else ([], [], false)
theorem ev_FirstLabels (l : List Int) (hl : l.length ≤ 35184372088832) : Ev (fun k => spec_FirstLabels.f k l) (firstR l) ∧ Ev (fun k => impl_FirstLabels.f k l) (firstR l) := by
  unfold firstR
  cases c : decide (l.length ≤ 8) && hts (-1) l with
  | false =>
    rw [if_neg (by simp)]
    refine ⟨?_, ?_⟩
    · refine Ev.congr (fun k => rfl) (Ev.bind (ev_spec_waHeights l) ?_)
      rw [c]; exact Ev.now _
    · refine Ev.congr (fun k => rfl) (Ev.bind (ev_impl_areHeights l hl) ?_)
      rw [c]; exact Ev.now _
  | true =>
    rw [if_pos rfl]
    have c8 : l.length ≤ 8 ∧ hts (-1) l = true := by
      simpa only [Bool.and_eq_true, decide_eq_true_eq] using c
    obtain ⟨a, b⟩ := firstL_l0 l l.length c8.1 l.length 0 [] (by omega) (by simp)
    refine ⟨?_, ?_⟩
    · refine Ev.congr (fun k => rfl) (Ev.bind (ev_spec_waHeights l) ?_)
      rw [c]
      exact Ev.congr (fun k => by rw [if_pos rfl, ev_spec_l1Own l (by omega), Option.bind_some]; rfl) a
    · refine Ev.congr (fun k => rfl) (Ev.bind (ev_impl_areHeights l hl) ?_)
      rw [c]
      exact Ev.congr (fun k => by rw [if_pos rfl, ev_slices_Clone l (by omega), Option.bind_some]; rfl) b
theorem iota_rd : ∀ (n : Nat) (i : Int) (j : Nat), j < n → rd (iota n i) (j : Int) = i + j
  | 0, i, j, h => by omega
  | n + 1, i, 0, h => by simp [iota, rd]
  | n + 1, i, j + 1, h => by
    have ih := iota_rd n (i + 1) j (by omega)
    rw [iota, rd_nat, List.getD_cons_succ, ← rd_nat, ih]
    omega
/-- First labels make a walk of heights. -/
theorem good_first (l : List Int) (c : (decide (l.length ≤ 8) && hts (-1) l) = true) : goodW l (iota l.length 0) = true := by
  have c8 : l.length ≤ 8 ∧ hts (-1) l = true := by
    simpa only [Bool.and_eq_true, decide_eq_true_eq] using c
  rw [goodW_iff]
  refine ⟨c8, iota_length _ _, fun x hx => by have := (iota_mem x l.length 0).1 hx; omega, rising_nodup (iota_rising _ _), ?_⟩
  rw [labsFrom_iff]
  intro j h1 h2 _
  rw [iota_length] at h2
  have e : (j : Int) - 1 = ((j - 1 : Nat) : Int) := by omega
  rw [e, iota_rd _ _ _ (by omega), iota_rd _ _ _ (by omega)]
  omega

def bnc (k : Int) : Int → List Int → Int
  | _, [] => 0
  | i, h :: t => (if i - h ≤ k then 1 else 0) + bnc k (i + 1) t
theorem bnc_range (k : Int) : ∀ (t : List Int) (i : Int), 0 ≤ bnc k i t ∧ bnc k i t ≤ t.length
  | [], i => by simp [bnc]
  | h :: t, i => by
    have := bnc_range k t (i + 1)
    have e : ((h :: t).length : Int) = (t.length : Int) + 1 := by simp
    simp only [bnc]
    rw [e]
    split <;> omega
theorem spec_BounceOf_l1 (sum k : Int) (r : Int × Bool) : ∀ (t p : List Int) (next : Int), p.length + t.length ≤ 8 → (∀ x ∈ t, 0 ≤ x ∧ x ≤ 8) → 0 ≤ next → next ≤ p.length → 
    Ev (fun kk => spec_BounceOf.l0 kk (p ++ t) ((p ++ t).length : Int) (wrap64 (sum + (((p ++ t).length : Int) - (next + bnc k p.length t)))) (next + bnc k p.length t)) r →
    Ev (fun kk => spec_BounceOf.l1 kk (p ++ t) ((p ++ t).length : Int) sum k next (p.length : Int)) r
  | [], p, next, hn, ht, h0, h1, h => by
    have hn' : p.length ≤ 8 := by simpa using hn
    have hz : wrap64 (((p ++ ([] : List Int)).length : Int) - next) = ((p ++ ([] : List Int)).length : Int) - next := w64 (by simp; omega) (by simp; omega)
    refine Ev.step (fun kk => ?_) h
    show spec_BounceOf.l1 (kk + 1) (p ++ []) ((p ++ []).length : Int) sum k next (p.length : Int) = _
    rw [spec_BounceOf.l1, if_neg (by simp), hz]
    simp [bnc]
  | a :: t, p, next, hn, ht, h0, h1, h => by
    have hn' : p.length + t.length + 1 ≤ 8 := by simpa [Nat.add_assoc] using hn
    have e1 : (p ++ [a]) ++ t = p ++ a :: t := by simp
    have e2 : (((p ++ [a]).length : Nat) : Int) = (p.length : Int) + 1 := by simp
    have ha := ht a (by simp)
    have hb := bnc_range k t ((p.length : Int) + 1)
    by_cases c : (p.length : Int) - a ≤ k
    · have ih := spec_BounceOf_l1 sum k r t (p ++ [a]) (next + 1) (by simp; omega) (fun x hx => ht x (by simp [hx])) (by omega) (by omega)
      rw [e1, e2] at ih
      have eb : next + bnc k p.length (a :: t) = next + 1 + bnc k (p.length + 1) t := by simp only [bnc, if_pos c]; omega
      rw [eb] at h
      refine Ev.step (fun kk => ?_) (ih h)
      show spec_BounceOf.l1 (kk + 1) (p ++ a :: t) ((p ++ a :: t).length : Int) sum k next (p.length : Int) = _
      rw [spec_BounceOf.l1, if_pos (by simp; omega), if_pos (by omega), if_pos (by simp; omega), rd_mid, w64 (by omega) (by omega), if_pos c, w64 (by omega) (by omega), w64 (by omega) (by omega)]
    · have ih := spec_BounceOf_l1 sum k r t (p ++ [a]) next (by simp; omega) (fun x hx => ht x (by simp [hx])) (by omega) (by omega)
      rw [e1, e2] at ih
      have eb : next + bnc k p.length (a :: t) = next + bnc k (p.length + 1) t := by simp only [bnc, if_neg c]; omega
      rw [eb] at h
      refine Ev.step (fun kk => ?_) (ih h)
      show spec_BounceOf.l1 (kk + 1) (p ++ a :: t) ((p ++ a :: t).length : Int) sum k next (p.length : Int) = _
      rw [spec_BounceOf.l1, if_pos (by simp; omega), if_pos (by omega), if_pos (by simp; omega), rd_mid, w64 (by omega) (by omega), if_neg c, w64 (by omega) (by omega)]
theorem impl_BounceOf_l1 (sum k : Int) (r : Int × Bool) : ∀ (t p : List Int) (next : Int), p.length + t.length ≤ 8 → (∀ x ∈ t, 0 ≤ x ∧ x ≤ 8) → 0 ≤ next → next ≤ p.length → 
    Ev (fun kk => impl_BounceOf.l0 kk (p ++ t) (wrap64 (sum + (((p ++ t).length : Int) - (next + bnc k p.length t)))) ((p ++ t).length : Int) (next + bnc k p.length t)) r →
    Ev (fun kk => impl_BounceOf.l1 kk (p ++ t) sum ((p ++ t).length : Int) k next (p.length : Int)) r
  | [], p, next, hn, ht, h0, h1, h => by
    have hn' : p.length ≤ 8 := by simpa using hn
    have hz : wrap64 (((p ++ ([] : List Int)).length : Int) - next) = ((p ++ ([] : List Int)).length : Int) - next := w64 (by simp; omega) (by simp; omega)
    refine Ev.step (fun kk => ?_) h
    show impl_BounceOf.l1 (kk + 1) (p ++ []) sum ((p ++ []).length : Int) k next (p.length : Int) = _
    rw [impl_BounceOf.l1, if_neg (by simp), hz]
    simp [bnc]
  | a :: t, p, next, hn, ht, h0, h1, h => by
    have hn' : p.length + t.length + 1 ≤ 8 := by simpa [Nat.add_assoc] using hn
    have e1 : (p ++ [a]) ++ t = p ++ a :: t := by simp
    have e2 : (((p ++ [a]).length : Nat) : Int) = (p.length : Int) + 1 := by simp
    have ha := ht a (by simp)
    have hb := bnc_range k t ((p.length : Int) + 1)
    by_cases c : (p.length : Int) - a ≤ k
    · have ih := impl_BounceOf_l1 sum k r t (p ++ [a]) (next + 1) (by simp; omega) (fun x hx => ht x (by simp [hx])) (by omega) (by omega)
      rw [e1, e2] at ih
      have eb : next + bnc k p.length (a :: t) = next + 1 + bnc k (p.length + 1) t := by simp only [bnc, if_pos c]; omega
      rw [eb] at h
      refine Ev.step (fun kk => ?_) (ih h)
      show impl_BounceOf.l1 (kk + 1) (p ++ a :: t) sum ((p ++ a :: t).length : Int) k next (p.length : Int) = _
      rw [impl_BounceOf.l1, if_pos (by simp; omega), if_pos (by omega), if_pos (by simp; omega), rd_mid, w64 (by omega) (by omega), if_pos c, w64 (by omega) (by omega), w64 (by omega) (by omega)]
    · have ih := impl_BounceOf_l1 sum k r t (p ++ [a]) next (by simp; omega) (fun x hx => ht x (by simp [hx])) (by omega) (by omega)
      rw [e1, e2] at ih
      have eb : next + bnc k p.length (a :: t) = next + bnc k (p.length + 1) t := by simp only [bnc, if_neg c]; omega
      rw [eb] at h
      refine Ev.step (fun kk => ?_) (ih h)
      show impl_BounceOf.l1 (kk + 1) (p ++ a :: t) sum ((p ++ a :: t).length : Int) k next (p.length : Int) = _
      rw [impl_BounceOf.l1, if_pos (by simp; omega), if_pos (by omega), if_pos (by simp; omega), rd_mid, w64 (by omega) (by omega), if_neg c, w64 (by omega) (by omega)]
theorem bounce_l0 (l : List Int) (hl : l.length ≤ 8) (hm : ∀ x ∈ l, 0 ≤ x ∧ x ≤ 8) : ∀ (d k : Nat) (sum : Int), k + d = l.length →
    ∃ r : Int × Bool, r.2 = true ∧ Ev (fun kk => spec_BounceOf.l0 kk l (l.length : Int) sum (k : Int)) r ∧ Ev (fun kk => impl_BounceOf.l0 kk l sum (l.length : Int) (k : Int)) r := by
  intro d
  induction d using Nat.strongRecOn with
  | _ d ih =>
    intro k sum hk
    rcases Nat.eq_zero_or_pos d with rfl | hd
    · refine ⟨(sum, true), rfl, Ev.ret fun kk => ?_, Ev.ret fun kk => ?_⟩
      · rw [spec_BounceOf.l0, if_neg (by omega)]
      · rw [impl_BounceOf.l0, if_neg (by omega)]
    · have hsp : l.take k ++ l.drop k = l := List.take_append_drop k l
      have hp : (l.take k).length = k := by simp; omega
      obtain ⟨a, t, hdr⟩ : ∃ a t, l.drop k = a :: t := by
        cases hc : l.drop k with
        | nil => have := congrArg List.length hc; simp at this; omega
        | cons a t => exact ⟨a, t, rfl⟩
      have ha : a ∈ l := by rw [← hsp, hdr]; simp
      have h0 := hm a ha
      have hlen : t.length + 1 + k = l.length := by have := congrArg List.length hsp; rw [hdr] at this; simp at this; omega
      have hb := bnc_range (k : Int) t ((k : Int) + 1)
      have hbe : bnc (k : Int) (k : Int) (a :: t) = 1 + bnc k (k + 1) t := by simp only [bnc]; rw [if_pos (by omega)]
      obtain ⟨n', hn'⟩ : ∃ n' : Nat, (n' : Int) = (k : Int) + bnc (k : Int) (k : Int) (a :: t) := ⟨((k : Int) + bnc (k : Int) (k : Int) (a :: t)).toNat, by omega⟩
      obtain ⟨r, hr, x, y⟩ := ih (l.length - n') (by omega) n' (wrap64 (sum + ((l.length : Int) - n'))) (by omega)
      have hm' : ∀ x ∈ a :: t, 0 ≤ x ∧ x ≤ 8 := fun x hx => hm x (by rw [← hsp, hdr]; exact List.mem_append_right _ hx)
      have A := spec_BounceOf_l1 sum (k : Int) r (a :: t) (l.take k) (k : Int) (by rw [hp]; simp; omega) hm' (by omega) (by omega)
      have B := impl_BounceOf_l1 sum (k : Int) r (a :: t) (l.take k) (k : Int) (by rw [hp]; simp; omega) hm' (by omega) (by omega)
      rw [← hdr, hsp, hp, hdr, ← hn'] at A B
      refine ⟨r, hr, Ev.step (fun kk => ?_) (A x), Ev.step (fun kk => ?_) (B y)⟩
      · show spec_BounceOf.l0 (kk + 1) l (l.length : Int) sum (k : Int) = _
        rw [spec_BounceOf.l0, if_pos (by omega)]
      · show impl_BounceOf.l0 (kk + 1) l sum (l.length : Int) (k : Int) = _
        rw [impl_BounceOf.l0, if_pos (by omega)]
theorem bounce_both (l : List Int) (hl : l.length ≤ 35184372088832) : ∃ r : Int × Bool, Ev (fun k => spec_BounceOf.f k l) r ∧ Ev (fun k => impl_BounceOf.f k l) r := by
  cases c : decide (l.length ≤ 8) && hts (-1) l with
  | false =>
    refine ⟨(0, false), ?_, ?_⟩
    · refine Ev.congr (fun k => rfl) (Ev.bind (ev_spec_waHeights l) ?_)
      rw [c]; exact Ev.now _
    · refine Ev.congr (fun k => rfl) (Ev.bind (ev_impl_areHeights l hl) ?_)
      rw [c]; exact Ev.now _
  | true =>
    have c8 : l.length ≤ 8 ∧ hts (-1) l = true := by
      simpa only [Bool.and_eq_true, decide_eq_true_eq] using c
    have hm : ∀ x ∈ l, 0 ≤ x ∧ x ≤ 8 := fun x hx => by have := hts_mem l (-1) c8.2 x hx; omega
    obtain ⟨r, _, a, b⟩ := bounce_l0 l c8.1 hm l.length 0 0 (by omega)
    refine ⟨r, ?_, ?_⟩
    · refine Ev.congr (fun k => rfl) (Ev.bind (ev_spec_waHeights l) ?_)
      rw [c]; exact a
    · refine Ev.congr (fun k => rfl) (Ev.bind (ev_impl_areHeights l hl) ?_)
      rw [c]; exact b

theorem ups_bound : ∀ (t : List Int) (i : Int) (u : List Bool) (r : Int), 0 ≤ i → 0 ≤ r → r ≤ i → (u.length : Int) = i + r → (∀ h ∈ t, 0 ≤ h) →
    0 ≤ (impl_TurnHeights.ups t i u r).2 ∧ (impl_TurnHeights.ups t i u r).2 ≤ i + t.length ∧ ((impl_TurnHeights.ups t i u r).1.length : Int) = i + t.length + (impl_TurnHeights.ups t i u r).2
  | [], i, u, r, h0, h1, h2, h3, _ => by
    simp only [impl_TurnHeights.ups, List.length_nil]
    omega
  | h :: t, i, u, r, h0, h1, h2, h3, hh => by
    have hx := hh h (by simp)
    have ih := ups_bound t (i + 1) (u ++ List.replicate (i - h - r).toNat false ++ [true]) (r + ((i - h - r).toNat : Int)) (by omega) (by omega) (by omega) (by simp; omega) (fun x hx => hh x (by simp [hx]))
    have e : ((h :: t).length : Int) = (t.length : Int) + 1 := by simp
    rw [impl_TurnHeights.ups, e]
    omega
theorem path_length (l : List Int) (hh : ∀ h ∈ l, 0 ≤ h) : (impl_TurnHeights.path l).length = l.length + l.length := by
  have h := ups_bound l 0 [] 0 (by omega) (by omega) (by omega) (by simp) hh
  unfold impl_TurnHeights.path
  rw [List.length_append, List.length_replicate]
  omega
theorem waPath_l1 (l : List Int) (i h n : Int) (hi : 0 ≤ i) (hi8 : i ≤ 100) (h0 : 0 ≤ h) (h8 : h ≤ 100) (R : List Bool) : ∀ (d : Nat) (u : List Bool) (r : Int), (i - h - r).toNat = d → 0 ≤ r → r ≤ 100 → u.length + d ≤ 1000 →
    Ev (fun k => spec_waPath.l0 k l (u ++ List.replicate d false ++ [true]) (r + d) l n (i + 1)) R → Ev (fun k => spec_waPath.l1 k l u r i h l n i) R
  | 0, u, r, hd, hr, hr2, hu, H => by
    have e : u ++ List.replicate 0 false ++ [true] = u ++ [true] := by simp
    rw [e, show r + ((0 : Nat) : Int) = r by omega] at H
    refine Ev.step (fun k => ?_) H
    show spec_waPath.l1 (k + 1) l u r i h l n i = _
    rw [spec_waPath.l1, w64 (x := i - h) (by omega) (by omega), if_neg (by omega), if_pos (by omega), w64 (by omega) (by omega)]
  | d + 1, u, r, hd, hr, hr2, hu, H => by
    have e : u ++ List.replicate (d + 1) false ++ [true] = (u ++ [false]) ++ List.replicate d false ++ [true] := by simp [List.replicate_succ]
    rw [e, show r + ((d + 1 : Nat) : Int) = (r + 1) + (d : Int) by omega] at H
    have ih := waPath_l1 l i h n hi hi8 h0 h8 R d (u ++ [false]) (r + 1) (by omega) (by omega) (by omega) (by simp; omega) H
    refine Ev.step (fun k => ?_) ih
    show spec_waPath.l1 (k + 1) l u r i h l n i = _
    rw [spec_waPath.l1, w64 (x := i - h) (by omega) (by omega), if_pos (by omega), if_pos (by omega), w64 (by omega) (by omega)]
theorem waPath_l2 (l : List Int) (h8 : l.length ≤ 100) : ∀ (d : Nat) (u : List Bool) (r : Int), ((l.length : Int) - r).toNat = d → 0 ≤ r → r ≤ 100 → u.length + d ≤ 1000 → Ev (fun k => spec_waPath.l2 k l u r) (u ++ List.replicate d false)
  | 0, u, r, hd, hr, hr2, hu => by
    refine Ev.ret fun k => ?_
    rw [spec_waPath.l2, if_neg (by omega)]
    simp
  | d + 1, u, r, hd, hr, hr2, hu => by
    have e : u ++ List.replicate (d + 1) false = (u ++ [false]) ++ List.replicate d false := by simp [List.replicate_succ]
    rw [e]
    refine Ev.step (fun k => ?_) (waPath_l2 l h8 d (u ++ [false]) (r + 1) (by omega) (by omega) (by omega) (by simp; omega))
    show spec_waPath.l2 (k + 1) l u r = _
    rw [spec_waPath.l2, if_pos (by omega), if_pos (by omega), w64 (by omega) (by omega)]
theorem waPath_l0 (l : List Int) (h8 : l.length ≤ 8) (hh : ∀ h ∈ l, 0 ≤ h ∧ h ≤ 8) : ∀ (t p : List Int) (u : List Bool) (r : Int), p ++ t = l → 0 ≤ r → r ≤ p.length → (u.length : Int) = p.length + r →
    Ev (fun k => spec_waPath.l0 k l u r l (l.length : Int) (p.length : Int)) ((impl_TurnHeights.ups t p.length u r).1 ++ List.replicate ((l.length : Int) - (impl_TurnHeights.ups t p.length u r).2).toNat false)
  | [], p, u, r, hp, h0, h1, hu => by
    rw [List.append_nil] at hp
    subst hp
    rw [impl_TurnHeights.ups]
    exact Ev.step (fun k => by rw [spec_waPath.l0, if_neg (by omega)]) (waPath_l2 p (by omega) _ u r rfl h0 (by omega) (by omega))
  | h :: t, p, u, r, hp, h0, h1, hu => by
    have hlen : (l.length : Int) = (p.length : Int) + t.length + 1 := by rw [← hp]; simp; omega
    have hx : rd l (p.length : Int) = h := by rw [← hp]; exact rd_mid p h t
    obtain ⟨g0, g1⟩ := hh h (by rw [← hp]; simp)
    have ih := waPath_l0 l h8 hh t (p ++ [h]) (u ++ List.replicate ((p.length : Int) - h - r).toNat false ++ [true]) (r + (((p.length : Int) - h - r).toNat : Int)) (by rw [← hp]; simp) (by omega) (by simp; omega) (by simp; omega)
    rw [len_snoc p h] at ih
    rw [impl_TurnHeights.ups]
    refine Ev.step (fun k => ?_) (waPath_l1 l (p.length : Int) h (l.length : Int) (by omega) (by omega) g0 (by omega) _ ((p.length : Int) - h - r).toNat u r rfl h0 (by omega) (by omega) ih)
    show spec_waPath.l0 (k + 1) l u r l (l.length : Int) (p.length : Int) = _
    rw [spec_waPath.l0, if_pos (by omega), if_pos (by omega), if_pos (by omega), hx]
theorem ev_spec_waPath (l : List Int) (h8 : l.length ≤ 8) (hh : ∀ h ∈ l, 0 ≤ h ∧ h ≤ 8) : Ev (fun k => spec_waPath.f k l) (impl_TurnHeights.path l) :=
  waPath_l0 l h8 hh l [] [] 0 rfl (by omega) (by simp) (by simp)
theorem spec_TurnHeights_l0 (P : List Bool) (hP : P.length ≤ 100) : ∀ (d : Nat) (out : List Int) (r : Int), d ≤ P.length → out.length + d ≤ 1000 → 0 ≤ r → r + d ≤ 1000 →
    Ev (fun k => spec_TurnHeights.l0 k P out r ((d : Int) - 1)) (((P.take d).reverse.foldl impl_TurnHeights.stp (out, r)).1, true)
  | 0, out, r, hd, ho, h0, h1 => by
    refine Ev.ret fun k => ?_
    rw [spec_TurnHeights.l0, if_neg (by omega)]
    simp
  | d + 1, out, r, hd, ho, h0, h1 => by
    have e : (P.take (d + 1)).reverse = P[d] :: (P.take d).reverse := by
      rw [List.take_succ_eq_append_getElem (by omega), List.reverse_append]
      rfl
    have er : rdOf false P (d : Int) = P[d] := by
      unfold rdOf
      rw [Int.toNat_natCast, List.getD_eq_getElem?_getD, List.getElem?_eq_getElem (by omega)]
      rfl
    have ed : ((d + 1 : Nat) : Int) - 1 = (d : Int) := by omega
    rw [e, List.foldl_cons, ed]
    by_cases c : P[d] = true
    · have es : impl_TurnHeights.stp (out, r) P[d] = (out, r + 1) := by unfold impl_TurnHeights.stp; rw [if_pos c]
      rw [es]
      refine Ev.step (fun k => ?_) (spec_TurnHeights_l0 P hP d out (r + 1) (by omega) (by omega) (by omega) (by omega))
      show spec_TurnHeights.l0 (k + 1) P out r (d : Int) = _
      rw [spec_TurnHeights.l0, if_pos (by omega), if_pos (by omega), if_pos (by omega), er, if_pos c, w64 (by omega) (by omega), w64 (by omega) (by omega)]
    · have es : impl_TurnHeights.stp (out, r) P[d] = (out ++ [(out.length : Int) - r], r) := by unfold impl_TurnHeights.stp; rw [if_neg c]
      rw [es]
      refine Ev.step (fun k => ?_) (spec_TurnHeights_l0 P hP d (out ++ [(out.length : Int) - r]) r (by omega) (by simp; omega) (by omega) (by omega))
      show spec_TurnHeights.l0 (k + 1) P out r (d : Int) = _
      rw [spec_TurnHeights.l0, if_pos (by omega), if_pos (by omega), if_pos (by omega), er, if_neg c, if_pos (by omega), w64 (by omega) (by omega), w64 (by omega) (by omega)]
/-- What TurnHeights answers. -/
def turnR (l : List Int) : List Int × Bool := if (decide (l.length ≤ 8) && hts (-1) l) = true then (impl_TurnHeights.res l, true) else ([], false)
theorem hts_small (l : List Int) (h : (decide (l.length ≤ 8) && hts (-1) l) = true) : l.length ≤ 8 ∧ ∀ x ∈ l, 0 ≤ x ∧ x ≤ 8 := by
  rw [Bool.and_eq_true, decide_eq_true_eq] at h
  refine ⟨h.1, fun x hx => ?_⟩
  have := hts_mem l (-1) h.2 x hx
  omega
theorem res_length (l : List Int) (h : (decide (l.length ≤ 8) && hts (-1) l) = true) : (impl_TurnHeights.res l).length ≤ 100 := by
  obtain ⟨h1, h2⟩ := hts_small l h
  have hp := path_length l (fun x hx => (h2 x hx).1)
  have := (impl_TurnHeights.st_bound (impl_TurnHeights.path l).reverse ([], 0) (Int.le_refl _)).1
  rw [List.length_reverse] at this
  unfold impl_TurnHeights.res
  have e : (([], 0) : List Int × Int).1.length = 0 := rfl
  omega
theorem ev_TurnHeights (l : List Int) (hl : l.length ≤ 35184372088832) : Ev (fun k => spec_TurnHeights.f k l) (turnR l) ∧ Ev (fun k => impl_TurnHeights.f k l) (turnR l) := by
  unfold turnR
  have hs := ev_spec_waHeights l
  have hi := ev_impl_areHeights l hl
  cases c : decide (l.length ≤ 8) && hts (-1) l with
  | false =>
    rw [c] at hs hi
    rw [if_neg (by simp)]
    refine ⟨?_, ?_⟩
    · exact Ev.congr (fun k => rfl) (Ev.bind hs (Ev.now _))
    · exact Ev.congr (fun k => rfl) (Ev.bind hi (Ev.now _))
  | true =>
    rw [c] at hs hi
    rw [if_pos rfl]
    obtain ⟨h1, h2⟩ := hts_small l c
    have hp := path_length l (fun x hx => (h2 x hx).1)
    refine ⟨?_, ?_⟩
    · refine Ev.congr (fun k => rfl) (Ev.bind hs ?_)
      refine Ev.congr (fun k => by rw [if_pos rfl]) (Ev.bind (ev_spec_waPath l h1 h2) ?_)
      have z := spec_TurnHeights_l0 (impl_TurnHeights.path l) (by omega) (impl_TurnHeights.path l).length [] 0 (Nat.le_refl _) (by simp; omega) (by omega) (by omega)
      rw [List.take_length] at z
      exact Ev.congr (fun k => by rw [w64 (by omega) (by omega)]) z
    · refine Ev.congr (fun k => rfl) (Ev.bind hi ?_)
      exact Ev.congr (fun k => by rw [if_pos rfl, if_pos ⟨h1, h2⟩]) (Ev.now _)

theorem wSame_l0 (L : List Int) (hl : L.length ≤ 1000000) : ∀ (d i : Nat), i + d = L.length → Ev (fun k => laws_wSame.l0 k L L (L.length : Int) (i : Int)) true
  | 0, i, hd => Ev.ret fun k => by rw [laws_wSame.l0, if_neg (by omega)]
  | d + 1, i, hd => by
    have ih := wSame_l0 L hl d (i + 1) (by omega)
    rw [show ((i + 1 : Nat) : Int) = (i : Int) + 1 by omega] at ih
    refine Ev.step (fun k => ?_) ih
    show laws_wSame.l0 (k + 1) L L (L.length : Int) (i : Int) = _
    rw [laws_wSame.l0, if_pos (by omega), if_pos (by omega), if_pos (by omega), if_pos (by omega), if_pos rfl, w64 (by omega) (by omega)]
theorem ev_wSame (L : List Int) (hl : L.length ≤ 1000000) : Ev (fun k => laws_wSame.f k L L) true :=
  Ev.congr (fun k => by rw [laws_wSame.f, if_pos rfl]; rfl) (wSame_l0 L hl L.length 0 (by omega))

theorem laws_wSum_l0 : ∀ (t p : List Int) (a : Int), p.length + t.length ≤ 35184372088832 → 0 ≤ a → (∀ x ∈ t, 0 ≤ x ∧ x ≤ 1000) → a + 1000 * (t.length : Int) ≤ 9223372036854775807 →
    Ev (fun k => laws_wSum.l0 k a (p ++ t) ((p ++ t).length : Int) (p.length : Int)) (a + t.sum)
  | [], p, a, _, _, _, _ => by
    refine Ev.ret fun k => ?_
    rw [laws_wSum.l0, if_neg (by simp)]
    simp
  | h :: t, p, a, hn, ha, hb, hs => by
    have hn' : p.length + t.length + 1 ≤ 35184372088832 := by simpa [Nat.add_assoc] using hn
    have hm := len_mid p h t
    have hh := hb h (by simp)
    have hs' : a + 1000 * ((t.length : Int) + 1) ≤ 9223372036854775807 := by simpa using hs
    have ih := laws_wSum_l0 t (p ++ [h]) (a + h) (by simp; omega) (by omega) (fun x hx => hb x (by simp [hx])) (by omega)
    rw [app_snoc, len_snoc] at ih
    rw [List.sum_cons, ← Int.add_assoc]
    refine Ev.step (fun k => ?_) ih
    show laws_wSum.l0 (k + 1) a (p ++ h :: t) ((p ++ h :: t).length : Int) (p.length : Int) = _
    rw [laws_wSum.l0, if_pos (by omega), if_pos (by omega), if_pos (by omega), rd_mid, w64 (by omega) (by omega), w64 (by omega) (by omega)]
theorem ev_laws_wSum (l : List Int) (hl : l.length ≤ 35184372088832) (hb : ∀ x ∈ l, 0 ≤ x ∧ x ≤ 1000) : Ev (fun k => laws_wSum.f k l) l.sum := by
  have h := laws_wSum_l0 l [] 0 (by simpa using hl) (by omega) hb (by omega)
  rw [Int.zero_add] at h
  exact h

/-- What turning keeps and turns. -/
def turnOk (h : List Int) : Bool := decide ((impl_TurnHeights.res h).length ≤ 8) && hts (-1) (impl_TurnHeights.res h) && decide (impl_TurnHeights.res (impl_TurnHeights.res h) = h) && decide (h.sum = (impl_TurnHeights.res h).sum) && decide (touchS (impl_TurnHeights.res h) = ((touchS h).map fun t => (h.length : Int) - t).reverse)
set_option maxRecDepth 100000 in
theorem turnOk_all : htsAll turnOk 8 (-1) [] = true := by decide +kernel
theorem law_touch (h a c : List Int) (hh : h.length ≤ 8) (ha : ∀ x ∈ a, 0 ≤ x ∧ x ≤ 8) (hal : a.length ≤ 8) (hc : c = (a.map fun t => (h.length : Int) - t).reverse) : ∀ (d i : Nat), i + d = a.length → Ev (fun k => laws_FnHeightsTurned.l0 k h c a (a.length : Int) (i : Int)) true
  | 0, i, hd => Ev.ret fun k => by rw [laws_FnHeightsTurned.l0, if_neg (by omega)]
  | d + 1, i, hd => by
    have ih := law_touch h a c hh ha hal hc d (i + 1) (by omega)
    rw [show ((i + 1 : Nat) : Int) = (i : Int) + 1 by omega] at ih
    have hcl : c.length = a.length := by rw [hc]; simp
    have hr : rd c ((c.length : Int) - 1 - (i : Int)) = (h.length : Int) - rd a (i : Int) := by
      have e : (c.length : Int) - 1 - (i : Int) = ((c.length - 1 - i : Nat) : Int) := by omega
      rw [e, rd_nat, rd_nat, List.getD_eq_getElem?_getD, List.getD_eq_getElem?_getD, List.getElem?_eq_getElem (by omega), List.getElem?_eq_getElem (by omega)]
      simp only [Option.getD_some, hc, List.getElem_reverse, List.getElem_map, List.length_map, List.length_reverse]
      have e2 : a.length - 1 - (a.length - 1 - i) = i := by omega
      simp only [e2]
    have hx := ha (rd a (i : Int)) (by
      rw [rd_nat, List.getD_eq_getElem?_getD, List.getElem?_eq_getElem (by omega)]
      exact List.getElem_mem _)
    refine Ev.step (fun k => ?_) ih
    show laws_FnHeightsTurned.l0 (k + 1) h c a (a.length : Int) (i : Int) = _
    rw [laws_FnHeightsTurned.l0, if_pos (by omega), if_pos (by omega), if_pos (by omega), w64 (x := (c.length : Int) - 1) (by omega) (by omega), w64 (x := (c.length : Int) - 1 - (i : Int)) (by omega) (by omega), if_pos (by omega), if_pos (by omega), hr, w64 (x := (h.length : Int) - rd a (i : Int)) (by omega) (by omega), if_pos rfl, w64 (by omega) (by omega)]
theorem law_j3 (h : List Int) (hl : h.length ≤ 1000) : Ev (fun k => laws_FnHeightsTurned.j3 k h (turnR h).1 (turnR h).2 false) true := by
  cases c : decide (h.length ≤ 8) && hts (-1) h with
  | false =>
    have e : turnR h = ([], false) := by unfold turnR; rw [c, if_neg (by simp)]
    rw [e]
    exact Ev.ret fun k => by rw [laws_FnHeightsTurned.j3, if_neg (by simp), if_neg (by simp)]
  | true =>
    have e : turnR h = (impl_TurnHeights.res h, true) := by unfold turnR; rw [c, if_pos rfl]
    rw [e]
    have c8 : h.length ≤ 8 ∧ hts (-1) h = true := by
      simpa only [Bool.and_eq_true, decide_eq_true_eq] using c
    have hok := htsAll_sound turnOk 8 (-1) [] turnOk_all h c8.1 c8.2
    rw [List.nil_append, turnOk] at hok
    simp only [Bool.and_eq_true, decide_eq_true_eq] at hok
    obtain ⟨⟨⟨⟨o1, o2⟩, o3⟩, o4⟩, o5⟩ := hok
    have f1 := (ev_FirstLabels h (by omega)).2
    have g1 := good_first h c
    have ho : touchS (impl_TurnHeights.res h) = ((touchS h).map fun t => (h.length : Int) - t).reverse := o5
    have hsh := (hts_small h c).2
    obtain ⟨o, hoo⟩ : ∃ o, o = impl_TurnHeights.res h := ⟨_, rfl⟩
    rw [← hoo] at o1 o2 o3 o4 ho ⊢
    have co : (decide (o.length ≤ 8) && hts (-1) o) = true := by rw [decide_eq_true o1, o2]; rfl
    have t2 := (ev_TurnHeights o (by omega)).2
    rw [turnR, co, if_pos rfl, o3] at t2
    have f2 := (ev_FirstLabels o (by omega)).2
    have g2 := good_first o co
    rw [firstR, c, if_pos rfl] at f1
    rw [firstR, co, if_pos rfl] at f2
    have hso := (hts_small o co).2
    refine Ev.step (fun k => by rw [laws_FnHeightsTurned.j3, if_neg (by simp), if_pos rfl]) ?_
    refine Ev.bind t2 (Ev.bind f1 (Ev.bind f2 ?_))
    refine Ev.congr (fun k => by rw [if_pos rfl, if_pos rfl, if_pos rfl]) (Ev.bind (ev_wSame h (by omega)) ?_)
    refine Ev.congr (fun k => by rw [if_pos rfl]) ?_
    refine Ev.bind (ev_laws_wSum h (by omega) fun x hx => by have := hsh x hx; omega) (Ev.bind (ev_laws_wSum o (by omega) fun x hx => by have := hso x hx; omega) ?_)
    have tl := places_mem (fun n => decide (n = 0))
    have ha : ∀ x ∈ touchS h, 0 ≤ x ∧ x ≤ 8 := fun x hx => by
      obtain ⟨j, v, h1, _, h2⟩ := (tl x h 0).1 (List.mem_of_mem_drop hx)
      have := (List.getElem?_eq_some_iff.1 h1).1
      omega
    have hal : (touchS h).length ≤ 8 := by
      unfold touchS
      rw [List.length_drop]
      have h1 := places_length (fun n => decide (n = 0)) h 0
      have h2 := cnt_range (fun n => decide (n = 0)) h
      omega
    refine Ev.step (fun k => by rw [laws_FnHeightsTurned.j4, if_neg (by rw [o4]; simp)]) ?_
    have u1 := ev_impl_TouchesOf h (iota h.length 0) (by omega)
    rw [g1, if_pos rfl] at u1
    have u2 := ev_impl_TouchesOf o (iota o.length 0) (by omega)
    rw [g2, if_pos rfl] at u2
    refine Ev.bind u1 (Ev.bind u2 ?_)
    refine Ev.congr (fun k => by rw [if_pos rfl, if_pos rfl]) ?_
    have hcl : (touchS o).length = (touchS h).length := by rw [ho]; simp
    refine Ev.step (fun k => by rw [laws_FnHeightsTurned.j5, if_neg (by show ¬ (((touchS h).length : Int) != ((touchS o).length : Int)) = true; rw [hcl]; simp)]) ?_
    exact law_touch h (touchS h) (touchS o) c8.1 ha hal ho (touchS h).length 0 (by omega)
theorem FnHeightsTurned : laws_FnHeightsTurned.Pure := by
  intro l0 l1 hm0 _ hw0 hm1 _ hw1
  have hbig : ∃ b, laws_big.f l0 l1 = some b := by
    unfold laws_big.f
    by_cases c : (l0.length : Int) > 1048576
    · rw [if_pos c]; exact ⟨true, rfl⟩
    · rw [if_neg c]; exact ⟨_, rfl⟩
  obtain ⟨b, hb⟩ := hbig
  cases b with
  | true => exact ⟨0, by rw [laws_FnHeightsTurned.f, hb]; rfl⟩
  | false =>
    have hc0 : ∀ x ∈ l0, 0 ≤ x ∧ x ≤ 255 := fun x hx => by
      have := hw0 x hx
      simpa [Lit.wf, IntKind.min, IntKind.max, IntKind.signed, IntKind.bits] using this
    have hc1 : ∀ x ∈ l1, 0 ≤ x ∧ x ≤ 255 := fun x hx => by
      have := hw1 x hx
      simpa [Lit.wf, IntKind.min, IntKind.max, IntKind.signed, IntKind.bits] using this
    obtain ⟨h, a_, s_, hhl, _, hT⟩ := heights_total l0 hc0 0 0 8 (by omega) 0 ⟨by omega, by omega⟩ (by omega)
    have hD : Ev (fun k => spec_DrawTurnHeights.f k l0) h := Ev.bind hT (Ev.now _)
    obtain ⟨g, a2_, s2_, hgl, _, hT2⟩ := heights_total l1 hc1 0 0 8 (by omega) 0 ⟨by omega, by omega⟩ (by omega)
    have hD2 : Ev (fun k => spec_DrawFirstLabels.f k l1) g := Ev.bind hT2 (Ev.now _)
    have hD3 : Ev (fun k => spec_DrawBounceOf.f k l1) g := Ev.bind hT2 (Ev.now _)
    obtain ⟨e2, e1⟩ := ev_TurnHeights h (by omega)
    have htl : (turnR h).1.length ≤ 1000 := by
      unfold turnR
      split
      · rename_i c
        have := res_length h c
        show (impl_TurnHeights.res h).length ≤ _
        omega
      · simp
    have hAH : Ev (fun k => impl_AreHeights.f k h) (turnR h).2 := by
      refine Ev.bind (ev_impl_areHeights h (by omega)) ?_
      unfold turnR
      cases c : decide (h.length ≤ 8) && hts (-1) h with
      | false => exact Ev.now _
      | true => exact Ev.now _
    refine Ev.rounds ?_
    refine Ev.congr (fun k => by rw [laws_FnHeightsTurned.f, hb, Option.bind_some, if_neg (by simp)]) ?_
    refine Ev.bind hD (Ev.bind e1 (Ev.bind e2 ?_))
    refine Ev.congr (fun k => by rw [bne_self_eq_false, if_neg (by simp)]) (Ev.bind (ev_wSame _ (by omega)) ?_)
    refine Ev.congr (fun k => by rw [if_pos rfl]) (Ev.bind hAH ?_)
    refine Ev.step (fun k => by rw [laws_FnHeightsTurned.j0, bne_self_eq_false, if_neg (by simp)]) ?_
    obtain ⟨f2, f1⟩ := ev_FirstLabels g (by omega)
    refine Ev.bind hD2 (Ev.bind f1 (Ev.bind f2 ?_))
    have hfl : (firstR g).1.length ≤ 1000 ∧ (firstR g).2.1.length ≤ 1000 := by
      unfold firstR
      split
      · refine ⟨by show g.length ≤ _; omega, ?_⟩
        show (iota g.length 0).length ≤ _
        rw [iota_length]
        omega
      · simp
    have hsw : Ev (fun k => laws_wSameWalk.f k (firstR g).1 (firstR g).2.1 (firstR g).1 (firstR g).2.1) true := by
      refine Ev.bind (ev_wSame _ (by omega)) ?_
      refine Ev.congr (fun k => by rw [if_pos rfl]) (Ev.bind (ev_wSame _ (by omega)) (Ev.now _))
    refine Ev.congr (fun k => by rw [bne_self_eq_false, if_neg (by simp)]) (Ev.bind hsw ?_)
    have hj2 : Ev (fun k => laws_FnHeightsTurned.j2 k l1 h (turnR h).1 (turnR h).2 false) true := by
      obtain ⟨r, b1, b2⟩ := bounce_both g (by omega)
      refine Ev.step (fun k => by rw [laws_FnHeightsTurned.j2, if_neg (by simp)]) ?_
      refine Ev.bind hD3 (Ev.bind b2 (Ev.bind b1 ?_))
      exact Ev.congr (fun k => by rw [bne_self_eq_false, if_neg (by simp), bne_self_eq_false]) (law_j3 h (by omega))
    refine Ev.step (fun k => by rw [laws_FnHeightsTurned.j1, Bool.not_true, if_neg (by simp)]) ?_
    cases c : decide (g.length ≤ 8) && hts (-1) g with
    | false =>
      have e : firstR g = ([], [], false) := by unfold firstR; rw [c, if_neg (by simp)]
      rw [e]
      exact Ev.congr (fun k => by rw [if_neg (by simp)]) hj2
    | true =>
      have e : firstR g = (g, iota g.length 0, true) := by unfold firstR; rw [c, if_pos rfl]
      rw [e]
      have hw : Ev (fun k => impl_IsWalk.f k g (iota g.length 0)) (goodW g (iota g.length 0)) := Ev.bind (ev_impl_isWalk g (iota g.length 0) (by omega)) (Ev.now _)
      rw [good_first g c] at hw
      refine Ev.congr (fun k => by rw [if_pos rfl]) (Ev.bind hw ?_)
      refine Ev.congr (fun k => by rw [if_pos rfl]) (Ev.bind (ev_wSame g (by omega)) ?_)
      exact Ev.congr (fun k => by rw [Bool.not_true]) hj2

end Go.Proofs.Ytmollfkakalagaa.Pure
