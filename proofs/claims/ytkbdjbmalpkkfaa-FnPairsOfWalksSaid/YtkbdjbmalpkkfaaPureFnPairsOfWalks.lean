/- Pairs are told by heights and labels, and the reading goes by heights, for every drawn walk. -/
import Derived.Test.YtkbdjbmalpkkfaaVFnPairsOfWalksSized
import Derived.Test.YtkbdjbmalpkkfaaPFnPairsOfWalksx
import Derived.Laws.BitsLemmas
import Derived.Lib.EndianBits
namespace Go.Proofs.Ytkbdjbmalpkkfaa.PrintWords
set_option linter.defProp false in
def sized_ints := @Go.Proofs.YtkbdjbmalpkkfaaW.PrintWords.sized_ints
end Go.Proofs.Ytkbdjbmalpkkfaa.PrintWords
namespace Go.Proofs.Ytkbdjbmalpkkfaa.Pure
open Go.RowKit Go.Proofs.Ytkbdjbmalpkkfaa.PFnPairsOfWalks Go.Proofs.YtkbdjbmalpkkfaaW.PrintWords Go.Proofs.YtkbdjbmalpkkfaaW.PrintLast
set_option linter.unusedVariables false
set_option linter.unusedSimpArgs false

theorem w64 {x : Int} (h0 : -9223372036854775808 ≤ x) (h1 : x ≤ 9223372036854775807) : wrap64 x = x := by
 unfold wrap64
 omega
theorem rd_mid (p : List Int) (h : Int) (t : List Int) : rd (p ++ h :: t) (p.length : Int) = h := by
 unfold rd
 simp
theorem rd_nat (l : List Int) (i : Nat) : rd l (i : Int) = l.getD i 0 := by
 unfold rd
 simp
theorem Ev.ret {α : Type} {g : Nat → Option α} {r : α} (h : ∀ k, g (k + 1) = some r) : Ev g r :=
 Ev.step (f := fun _ => some r) h (Ev.now r)

theorem zq0 (p : List Int) (h : Int) : (((p ++ [h]).length : Nat) : Int) = (p.length : Int) + 1 := by simp
theorem zq1 (p : List Int) (h : Int) (t : List Int) : (p ++ [h]) ++ t = p ++ h :: t := by simp
theorem len_mid (p : List Int) (h : Int) (t : List Int) : ((p ++ h :: t).length : Int) = (p.length : Int) + t.length + 1 := by simp; omega

theorem and255 (x : Int) (h0 : 0 ≤ x) (h1 : x < 18446744073709551616) : 0 ≤ Go.bits .and .u64 x 255 ∧ Go.bits .and .u64 x 255 ≤ 255 := by
 have h : Go.bits .and .u64 x 255 = x % 256 := bits_mask .u64 64 (by decide) wraps_u64 8 (by decide) x h0 h1
 rw [h]
 omega
theorem wrapu (x : Int) : 0 ≤ IntKind.u64.wrap x ∧ IntKind.u64.wrap x < 18446744073709551616 := by
 rw [IntKind.wrap_u64]
 omega
theorem zq2 (code : List Int) (hc : ∀ x ∈ code, 0 ≤ x ∧ x ≤ 255) (at_ seed : Int) (h0 : 0 ≤ at_) (h1 : at_ ≤ 1000000000000) :
  ∃ b s, spec_l1Cur_next.f code at_ seed = some (b, at_ + 1, s) ∧ 0 ≤ b ∧ b ≤ 255 := by
 have fin : ∀ q : Int, 0 ≤ wrap64 (Go.bits .and .u64 (IntKind.u64.wrap q / 1099511627776) 255) ∧ wrap64 (Go.bits .and .u64 (IntKind.u64.wrap q / 1099511627776) 255) ≤ 255 := fun q => by
  have hq := wrapu q
  have := and255 (IntKind.u64.wrap q / 1099511627776) (by omega) (by omega)
  rw [w64 (by omega) (by omega)]
  exact this
 unfold spec_l1Cur_next.f
 rw [w64 (x := at_ + 1) (by omega) (by omega)]
 by_cases c : at_ < (code.length : Int)
 ·have hb : 0 ≤ rd code at_ ∧ rd code at_ ≤ 255 := by
   refine hc _ ?_
   unfold rd
   rw [List.getD_eq_getElem?_getD, List.getElem?_eq_getElem (by omega)]
   exact List.getElem_mem _
  rw [if_pos c, if_pos h0]
  by_cases d : at_ + 1 ≤ (code.length : Int)
  ·rw [if_pos d]
   exact ⟨_, _, rfl, by rw [w64 (by omega) (by omega)]; exact hb⟩
  ·rw [if_neg d]
   exact ⟨_, _, rfl, fin _⟩
 ·rw [if_neg c]
  by_cases d : at_ + 1 ≤ (code.length : Int)
  ·rw [if_pos d]
   exact ⟨_, _, rfl, by omega, by omega⟩
  ·rw [if_neg d]
   exact ⟨_, _, rfl, fin _⟩
def Rdy (at_ : Int) (n : Int) : Prop := 0 ≤ at_ ∧ at_ ≤ n
theorem Rdy.mono {a n m : Int} (h : Rdy a n) (hm : n ≤ m) : Rdy a m := ⟨h.1, Int.le_trans h.2 hm⟩
theorem zq3 (code : List Int) (hc : ∀ x ∈ code, 0 ≤ x ∧ x ≤ 255) (at_ seed n : Int) (b : Int) (h : Rdy at_ b) (hb : b ≤ 100000000000) :
  ∃ v a s, spec_l1Cur_pick.f code at_ seed n = some (v, a, s) ∧ 0 ≤ v ∧ (v = 0 ∨ v < n) ∧ Rdy a (b + 2) := by
 obtain ⟨h0, h1⟩ := h
 unfold spec_l1Cur_pick.f
 by_cases c : n ≤ 1
 ·rw [if_pos c]
  exact ⟨0, at_, seed, rfl, by omega, .inl rfl, h0, by omega⟩
 ·rw [if_neg c]
  obtain ⟨x, s, e, hx0, hx1⟩ := zq2 code hc at_ seed h0 (by omega)
  rw [e, Option.bind_some]
  by_cases d : n > 200
  ·rw [if_pos d]
   obtain ⟨y, s2, e2, hy0, hy1⟩ := zq2 code hc (at_ + 1) s (by omega) (by omega)
   simp only [e2, Option.bind_some]
   rw [if_neg (by omega), w64 (x := x * 256) (by omega) (by omega), w64 (by omega) (by omega)]
   exact ⟨_, _, _, rfl, Int.tmod_nonneg _ (by omega), .inr (Int.tmod_lt_of_pos _ (by omega)), by omega, by omega⟩
  ·rw [if_neg d, if_neg (by omega)]
   exact ⟨_, _, _, rfl, Int.tmod_nonneg _ (by omega), .inr (Int.tmod_lt_of_pos _ (by omega)), by show 0 ≤ at_ + 1; omega, by show at_ + 1 ≤ b + 2; omega⟩

theorem zq4 (code : List Int) (hc : ∀ x ∈ code, 0 ≤ x ∧ x ≤ 255) (at_ seed : Int) (l : List Int) (hl : 1 ≤ l.length) (b : Int) (h : Rdy at_ b) (hb : b ≤ 100000000000) :
  ∃ v a s, spec_l1Cur_among.f code at_ seed l = some (v, a, s) ∧ v ∈ l ∧ Rdy a (b + 2) := by
 obtain ⟨v, a, s, e, h0, h1, h2⟩ := zq3 code hc at_ seed (l.length : Int) b h hb
 unfold spec_l1Cur_among.f
 rw [e, Option.bind_some]
 have hlt : v < (l.length : Int) := by omega
 show ∃ v' a' s', (if 0 ≤ v then (if v < (l.length : Int) then some (rd l v, a, s) else none) else none) = some (v', a', s') ∧ _
 rw [if_pos h0, if_pos hlt]
 refine ⟨_, _, _, rfl, ?_, h2⟩
 unfold rd
 rw [List.getD_eq_getElem?_getD, List.getElem?_eq_getElem (by omega)]
 exact List.getElem_mem _

theorem zq5 (l : List Int) (h : l.length < 17592186044416) : spec_l1Own.f l = some l := by
 unfold spec_l1Own.f
 simp only [Option.bind_some]
 rw [if_pos (by simp; omega)]
 simp

theorem park_l1 (code : List Int) (a s : Int) : ∀ (d : Nat) (l : List Int), l.length + d = 9 ∨ (d = 0 ∧ 9 ≤ l.length) → l.length ≤ 100000 →
  ∃ r : List Int, r.length ≤ l.length + d ∧ Ev (fun k => spec_l1Cur_park.l1 k l code a s) (r, a, s)
 | 0, l, h, hl => ⟨l, by omega, Ev.ret fun k => by rw [spec_l1Cur_park.l1, if_neg (by omega)]⟩
 | d + 1, l, h, hl => by
  obtain ⟨r, h1, h2⟩ := park_l1 code a s d (l ++ [0]) (by simp; omega) (by simp; omega)
  rw [List.length_append, List.length_singleton] at h1
  refine ⟨r, by omega, Ev.step (fun k => ?_) h2⟩
  show spec_l1Cur_park.l1 (k + 1) l code a s = _
  rw [spec_l1Cur_park.l1, if_pos (by omega), if_pos (by omega)]
theorem park_l0 (code : List Int) (hc : ∀ x ∈ code, 0 ≤ x ∧ x ≤ 255) : ∀ (d : Nat) (l : List Int) (at_ seed b : Int), d ≤ 1000 → l.length + d ≤ 2000 → Rdy at_ b → b + 4 * d ≤ 100000 →
  ∃ (r : List Int) (a s : Int), r.length ≤ l.length + d + 10 ∧ Rdy a (b + 4 * d + 10) ∧ Ev (fun k => spec_l1Cur_park.l0 k l (d : Int) code at_ seed) (r, a, s)
 | 0, l, at_, seed, b, hd, hl, hr, hb => by
  obtain ⟨w, a1, s1, e1, w0, w1, r1⟩ := zq3 code hc at_ seed 20 b hr (by omega)
  by_cases c0 : w = 0
  ·obtain ⟨x, a2, s2, e2, x0, r2⟩ := zq4 code hc a1 s1 [-1, 0, (l.length : Int), wrap64 ((l.length : Int) + 1), 99, 100] (by simp) (b + 2) r1 (by omega)
   refine ⟨l ++ [x], a2, s2, by simp, r2.mono (by omega), Ev.ret fun k => ?_⟩
   rw [spec_l1Cur_park.l0, if_neg (by omega), e1, Option.bind_some, if_pos c0, e2, Option.bind_some, if_pos (by omega)]
  ·by_cases c1 : w = 1
   ·by_cases c2 : (l.length : Int) > 0
    ·obtain ⟨x, a2, s2, e2, x0, x1, r2⟩ := zq3 code hc a1 s1 (l.length : Int) (b + 2) r1 (by omega)
     obtain ⟨y, a3, s3, e3, y0, y1, r3⟩ := zq3 code hc a2 s2 (l.length : Int) (b + 2 + 2) r2 (by omega)
     refine ⟨l.set x.toNat y, a3, s3, by rw [List.length_set]; omega, r3.mono (by omega), Ev.ret fun k => ?_⟩
     rw [spec_l1Cur_park.l0, if_neg (by omega), e1, Option.bind_some, if_neg c0, if_pos c1, if_pos c2, e2, Option.bind_some]
     simp only [e3, Option.bind_some]
     rw [if_pos x0, if_pos (by omega)]
    ·refine ⟨l, a1, s1, by omega, r1.mono (by omega), Ev.ret fun k => ?_⟩
     rw [spec_l1Cur_park.l0, if_neg (by omega), e1, Option.bind_some, if_neg c0, if_pos c1, if_neg c2]
   ·by_cases c2 : w = 2
    ·obtain ⟨r, h1, h2⟩ := park_l1 code a1 s1 (9 - l.length) l (by omega) (by omega)
     refine ⟨r, a1, s1, by omega, r1.mono (by omega), Ev.step (fun k => ?_) h2⟩
     rw [spec_l1Cur_park.l0, if_neg (by omega), e1, Option.bind_some, if_neg c0, if_neg c1, if_pos c2]
    ·refine ⟨l, a1, s1, by omega, r1.mono (by omega), Ev.ret fun k => ?_⟩
     rw [spec_l1Cur_park.l0, if_neg (by omega), e1, Option.bind_some, if_neg c0, if_neg c1, if_neg c2]
 | d + 1, l, at_, seed, b, hd, hl, hr, hb => by
  obtain ⟨x, a1, s1, e1, x0, x1, r1⟩ := zq3 code hc at_ seed ((l.length : Int) + 1) b hr (by omega)
  obtain ⟨y, a2, s2, e2, y0, y1, r2⟩ := zq3 code hc a1 s1 ((l.length : Int) + 1) (b + 2) r1 (by omega)
  obtain ⟨r, a, s, h1, h2, h3⟩ := park_l0 code hc d (l.take y.toNat ++ [x] ++ l.drop y.toNat) a2 s2 (b + 2 + 2) (by omega) (by simp; omega) r2 (by omega)
  have hlen : (l.take y.toNat ++ [x] ++ l.drop y.toNat).length = l.length + 1 := by simp; omega
  refine ⟨r, a, s, by omega, h2.mono (by omega), Ev.step (fun k => ?_) h3⟩
  show spec_l1Cur_park.l0 (k + 1) l ((d + 1 : Nat) : Int) code at_ seed = _
  have ho : spec_l1Own.f (l.take y.toNat) = some (l.take y.toNat) := zq5 _ (by simp; omega)
  have w1 : wrap64 ((l.length : Int) + 1) = (l.length : Int) + 1 := w64 (by omega) (by omega)
  have w2 : wrap64 (((d + 1 : Nat) : Int) - 1) = (d : Int) := by rw [w64 (by omega) (by omega)]; omega
  rw [spec_l1Cur_park.l0, if_pos (by omega), w1, w2, e1, Option.bind_some]
  simp only [e2, Option.bind_some]
  rw [if_pos y0, if_pos (by omega), ho, Option.bind_some, if_pos (by simp; omega), if_pos (by simp; omega)]
theorem zq6 (code : List Int) (hc : ∀ x ∈ code, 0 ≤ x ∧ x ≤ 255) (at_ seed : Int) (most : Nat) (hm : most ≤ 100) (b : Int) (h : Rdy at_ b) (hb : b ≤ 10000) :
  ∃ (r : List Int) (a s : Int), r.length ≤ 200 ∧ Rdy a (b + 1000) ∧ Ev (fun k => spec_l1Cur_park.f k code at_ seed (most : Int)) (r, a, s) := by
 obtain ⟨n, a1, s1, e1, n0, n1, r1⟩ := zq3 code hc at_ seed ((most : Int) + 1) b h (by omega)
 obtain ⟨r, a, s, h1, h2, h3⟩ := park_l0 code hc n.toNat [] a1 s1 (b + 2) (by omega) (by simp; omega) r1 (by omega)
 rw [show ((n.toNat : Nat) : Int) = n by omega] at h2 h3
 simp only [List.length_nil] at h1
 refine ⟨r, a, s, by omega, h2.mono (by omega), Ev.congr (fun k => ?_) h3⟩
 show spec_l1Cur_park.f k code at_ seed (most : Int) = _
 rw [spec_l1Cur_park.f, w64 (by omega) (by omega), e1, Option.bind_some]

theorem zq7 (code : List Int) (hc : ∀ x ∈ code, 0 ≤ x ∧ x ≤ 255) : ∀ (d : Nat) (l : List Int) (last at_ seed b : Int), d ≤ 1000 → l.length + d ≤ 2000 → -1 ≤ last → last ≤ l.length → (∀ x ∈ l, 0 ≤ x ∧ x ≤ l.length) → Rdy at_ b → b + 4 * d ≤ 100000 →
  ∃ (r : List Int) (a s : Int), r.length ≤ l.length + d + 10 ∧ Rdy a (b + 4 * d + 10) ∧ Ev (fun k => spec_l1Cur_heights.l0 k l last (d : Int) code at_ seed) (r, a, s)
 | 0, l, last, at_, seed, b, hd, hl, h0, h1, hm, hr, hb => by
  obtain ⟨w, a1, s1, e1, w0, w1, r1⟩ := zq3 code hc at_ seed 14 b hr (by omega)
  by_cases c0 : w = 0
  ·obtain ⟨x, a2, s2, e2, x0, x1, r2⟩ := zq3 code hc a1 s1 4 (b + 2) r1 (by omega)
   refine ⟨l ++ [wrap64 (x - 1)], a2, s2, by simp, r2.mono (by omega), Ev.ret fun k => ?_⟩
   rw [spec_l1Cur_heights.l0, if_neg (by omega), e1, Option.bind_some, if_pos c0, e2, Option.bind_some, if_pos (by omega)]
  ·by_cases c1 : w = 1
   ·obtain ⟨x, a2, s2, e2, x0, x1, r2⟩ := zq3 code hc a1 s1 2 (b + 2) r1 (by omega)
    have hw : wrap64 (8 + x) = 8 + x := w64 (by omega) (by omega)
    refine ⟨List.replicate (8 + x).toNat 0, a2, s2, by rw [List.length_replicate]; omega, r2.mono (by omega), Ev.ret fun k => ?_⟩
    rw [spec_l1Cur_heights.l0, if_neg (by omega), e1, Option.bind_some, if_neg c0, if_pos c1, e2, Option.bind_some]
    simp only [hw]
    rw [if_pos (by omega), if_pos (by omega)]
   ·refine ⟨l, a1, s1, by omega, r1.mono (by omega), Ev.ret fun k => ?_⟩
    rw [spec_l1Cur_heights.l0, if_neg (by omega), e1, Option.bind_some, if_neg c0, if_neg c1]
 | d + 1, l, last, at_, seed, b, hd, hl, h0, h1, hm, hr, hb => by
  obtain ⟨v, a1, s1, e1, v0, v1, r1⟩ := zq3 code hc at_ seed (last + 2) b hr (by omega)
  obtain ⟨y, a2, s2, e2, y0, y1, r2⟩ := zq3 code hc a1 s1 4 (b + 2) r1 (by omega)
  have e3 : spec_l1Cur_one.f code a1 s1 4 = some ((y == 0), a2, s2) := by rw [spec_l1Cur_one.f, e2, Option.bind_some]
  have w2 : wrap64 (((d + 1 : Nat) : Int) - 1) = (d : Int) := by rw [w64 (by omega) (by omega)]; omega
  have w1 : wrap64 (last + 2) = last + 2 := w64 (by omega) (by omega)
  have plain : ∃ (r : List Int) (a s : Int), r.length ≤ l.length + (d + 1) + 10 ∧ Rdy a (b + 4 * ((d + 1 : Nat) : Int) + 10) ∧ Ev (fun k => spec_l1Cur_heights.l0 k (l ++ [v]) v (d : Int) code a2 s2) (r, a, s) := by
   obtain ⟨r, a, s, h5, h6, h7⟩ := zq7 code hc d (l ++ [v]) v a2 s2 (b + 2 + 2) (by omega) (by simp; omega) (by omega) (by simp; omega) (fun x hx => by
    rw [List.length_append, List.length_singleton]
    rcases List.mem_append.1 hx with h | h
    ·have := hm x h; omega
    ·have := List.mem_singleton.1 h; omega) r2 (by omega)
   rw [List.length_append, List.length_singleton] at h5
   exact ⟨r, a, s, by omega, h6.mono (by omega), h7⟩
  by_cases c : y = 0
  ·have hy : (y == 0) = true := by simpa using c
   by_cases cl : (l.length : Int) > 0
   ·have wl : wrap64 ((l.length : Int) - 1) = (l.length : Int) - 1 := w64 (by omega) (by omega)
    have hx := hm (rd l ((l.length : Int) - 1)) (by
     unfold rd
     rw [List.getD_eq_getElem?_getD, List.getElem?_eq_getElem (by omega)]
     exact List.getElem_mem _)
    obtain ⟨q, hq⟩ : ∃ q, q = rd l ((l.length : Int) - 1) := ⟨_, rfl⟩
    rw [← hq] at hx
    have wq : wrap64 (q + 1) = q + 1 := w64 (by omega) (by omega)
    obtain ⟨r, a, s, h5, h6, h7⟩ := zq7 code hc d (l ++ [q + 1]) (q + 1) a2 s2 (b + 2 + 2) (by omega) (by simp; omega) (by omega) (by simp; omega) (fun x hx => by
     rw [List.length_append, List.length_singleton]
     rcases List.mem_append.1 hx with h | h
     ·have := hm x h; omega
     ·have := List.mem_singleton.1 h; omega) r2 (by omega)
    rw [List.length_append, List.length_singleton] at h5
    refine ⟨r, a, s, by omega, h6.mono (by omega), Ev.step (fun k => ?_) h7⟩
    show spec_l1Cur_heights.l0 (k + 1) l last ((d + 1 : Nat) : Int) code at_ seed = _
    rw [spec_l1Cur_heights.l0, if_pos (by omega), w1, w2, e1, Option.bind_some]
    simp only [e3, Option.bind_some]
    rw [hy, if_pos rfl, if_pos cl, wl, if_pos (by omega), if_pos (by omega), if_pos (by omega), ← hq, wq]
   ·obtain ⟨r, a, s, h5, h6, h7⟩ := plain
    refine ⟨r, a, s, by omega, h6, Ev.step (fun k => ?_) h7⟩
    show spec_l1Cur_heights.l0 (k + 1) l last ((d + 1 : Nat) : Int) code at_ seed = _
    rw [spec_l1Cur_heights.l0, if_pos (by omega), w1, w2, e1, Option.bind_some]
    simp only [e3, Option.bind_some]
    rw [hy, if_pos rfl, if_neg cl, if_pos (by omega)]
  ·have hy : (y == 0) = false := by simpa using c
   obtain ⟨r, a, s, h5, h6, h7⟩ := plain
   refine ⟨r, a, s, by omega, h6, Ev.step (fun k => ?_) h7⟩
   show spec_l1Cur_heights.l0 (k + 1) l last ((d + 1 : Nat) : Int) code at_ seed = _
   rw [spec_l1Cur_heights.l0, if_pos (by omega), w1, w2, e1, Option.bind_some]
   simp only [e3, Option.bind_some]
   rw [hy, if_neg (by simp), if_pos (by omega)]
theorem zq8 (code : List Int) (hc : ∀ x ∈ code, 0 ≤ x ∧ x ≤ 255) (at_ seed : Int) (most : Nat) (hm : most ≤ 100) (b : Int) (h : Rdy at_ b) (hb : b ≤ 10000) :
  ∃ (r : List Int) (a s : Int), r.length ≤ 200 ∧ Rdy a (b + 1000) ∧ Ev (fun k => spec_l1Cur_heights.f k code at_ seed (most : Int)) (r, a, s) := by
 obtain ⟨n, a1, s1, e1, n0, n1, r1⟩ := zq3 code hc at_ seed ((most : Int) + 1) b h (by omega)
 obtain ⟨r, a, s, h1, h2, h3⟩ := zq7 code hc n.toNat [] (-1) a1 s1 (b + 2) (by omega) (by simp; omega) (by omega) (by simp) (by simp) r1 (by omega)
 rw [show ((n.toNat : Nat) : Int) = n by omega] at h2 h3
 simp only [List.length_nil] at h1
 refine ⟨r, a, s, by omega, h2.mono (by omega), Ev.congr (fun k => ?_) h3⟩
 show spec_l1Cur_heights.f k code at_ seed (most : Int) = _
 rw [spec_l1Cur_heights.f, w64 (by omega) (by omega), e1, Option.bind_some]

def seek (out : List Int) : Nat → Int → Int
 | 0, _ => -1
 | d + 1, x => if x ∈ out then seek out d (x + 1) else x
def driveS (places : Int) (out : List Int) : List Int → List Int
 | [] => out
 | c :: t => driveS places (out ++ [seek out (places - c).toNat c]) t
theorem zq9 (places : Int) : ∀ (t out : List Int), ∃ s, s.length = t.length ∧ driveS places out t = out ++ s
 | [], out => ⟨[], rfl, by simp [driveS]⟩
 | c :: t, out => by
  obtain ⟨s, hl, h⟩ := zq9 places t (out ++ [seek out (places - c).toNat c])
  exact ⟨seek out (places - c).toNat c :: s, by simp [hl], by rw [driveS, h]; simp⟩
theorem zq10 (places : Int) (t out : List Int) : (driveS places out t).length = out.length + t.length := by
 obtain ⟨s, hl, h⟩ := zq9 places t out
 rw [h]; simp [hl]
def Tk (places : Int) (out : List Int) (taken : List Bool) : Prop :=
 (taken.length : Int) = places ∧ ∀ j : Nat, (j : Int) < places → taken.getD j false = decide ((j : Int) ∈ out)
theorem Tk.at {places : Int} {out : List Int} {taken : List Bool} (h : Tk places out taken) (x : Int) (h0 : 0 ≤ x) (h1 : x < places) : rdOf false taken x = decide (x ∈ out) := by
 have := h.2 x.toNat (by omega)
 have e : ((x.toNat : Nat) : Int) = x := by omega
 rw [e] at this
 exact this
theorem Tk.take {places : Int} {out : List Int} {taken : List Bool} (h : Tk places out taken) (x : Int) (h0 : 0 ≤ x) (h1 : x < places) : Tk places (out ++ [x]) (taken.set x.toNat true) := by
 refine ⟨by simp [h.1], fun j hj => ?_⟩
 have hl := h.1
 have hx : x.toNat < taken.length := by omega
 have hjl : j < taken.length := by omega
 have e := h.2 j hj
 rw [List.getD_eq_getElem?_getD] at e ⊢
 by_cases c : x.toNat = j
 ·rw [c, List.getElem?_set_self (by omega)]
  have : (j : Int) ∈ out ++ [x] := by simp; right; omega
  simp [this]
 ·rw [List.getElem?_set_ne c, e]
  refine decide_eq_decide.2 ?_
  have : (j : Int) ≠ x := by omega
  simp [this]
theorem Tk.none (places : Int) (h0 : 0 ≤ places) : Tk places [] (List.replicate places.toNat false) := by
 refine ⟨by simp; omega, fun j hj => ?_⟩
 rw [List.getD_eq_getElem?_getD, List.getElem?_replicate]
 split <;> simp

def inAll (lo hi : Int) (l : List Int) : Bool := l.all fun n => decide (lo ≤ n) && decide (n ≤ hi)
theorem zq11 (lo hi : Int) (l : List Int) : inAll lo hi l = true ↔ ∀ x ∈ l, lo ≤ x ∧ x ≤ hi := by
 simp [inAll, List.all_eq_true]
theorem zq12 (lo hi x : Int) (l : List Int) : inAll lo hi (x :: l) = ((decide (lo ≤ x) && decide (x ≤ hi)) && inAll lo hi l) := by
 simp [inAll]

def pf (l : List Int) : Bool := decide (l.length ≤ 8) && (inAll 0 ((l.length : Int) - 1) l && !(decide ((-1 : Int) ∈ driveS l.length [] l)))
theorem pf_iff (l : List Int) : pf l = true ↔ l.length ≤ 8 ∧ (∀ x ∈ l, 0 ≤ x ∧ x ≤ (l.length : Int) - 1) ∧ (-1 : Int) ∉ driveS l.length [] l := by
 simp only [pf, Bool.and_eq_true, decide_eq_true_eq, zq11, Bool.not_eq_true', decide_eq_false_iff_not]
theorem zq13 (x : Int) : ∀ (t p : List Int), p.length + t.length ≤ 35184372088832 →
  Ev (fun k => spec_l1Has.l0 k x (p ++ t) ((p ++ t).length : Int) (p.length : Int)) (decide (x ∈ t))
 | [], p, _ => by
  refine Ev.ret fun k => ?_
  rw [spec_l1Has.l0, if_neg (by simp)]
  simp
 | h :: t, p, hn => by
  have hn' : p.length + t.length + 1 ≤ 35184372088832 := by simpa [Nat.add_assoc] using hn
  have hm := len_mid p h t
  by_cases c : h = x
  ·rw [decide_eq_true (by simp [c] : x ∈ h :: t)]
   refine Ev.ret fun k => ?_
   rw [spec_l1Has.l0, if_pos (by omega), if_pos (by omega), if_pos (by omega), rd_mid, if_pos c]
  ·have ih := zq13 x t (p ++ [h]) (by simp; omega)
   rw [zq1, zq0] at ih
   have e : decide (x ∈ h :: t) = decide (x ∈ t) := decide_eq_decide.2 (by simp [Ne.symm c])
   rw [e]
   refine Ev.step (fun k => ?_) ih
   show spec_l1Has.l0 (k + 1) x (p ++ h :: t) ((p ++ h :: t).length : Int) (p.length : Int) = _
   rw [spec_l1Has.l0, if_pos (by omega), if_pos (by omega), if_pos (by omega), rd_mid, if_neg c, w64 (by omega) (by omega)]
theorem zq14 (l : List Int) (x : Int) (hl : l.length ≤ 35184372088832) : Ev (fun k => spec_l1Has.f k l x) (decide (x ∈ l)) :=
 zq13 x l [] (by simpa using hl)

theorem zq15 (places : Int) (cars : List Int) (n i : Int) (out : List Int) (ho : out.length ≤ 1000) (r : List Int) : ∀ (d : Nat) (x : Int), x + d = places → 0 ≤ x → places ≤ 1000 →
  Ev (fun k => spec_paDrive.l0 k places (out ++ [seek out d x]) cars n (wrap64 (i + 1))) r → Ev (fun k => spec_paDrive.l1 k places out x cars n i) r
 | 0, x, hx, h0, hp, h => by
  refine Ev.step (fun k => ?_) h
  show spec_paDrive.l1 (k + 1) places out x cars n i = _
  rw [spec_paDrive.l1, if_neg (by omega), if_pos (by omega), if_pos (by omega)]
  rfl
 | d + 1, x, hx, h0, hp, h => by
  by_cases c : x ∈ out
  ·have ih := zq15 places cars n i out ho r d (x + 1) (by omega) (by omega) hp (by rw [seek, if_pos c] at h; exact h)
   refine Ev.step (f := fun k => (spec_l1Has.f k out x).bind fun t => if t = true then spec_paDrive.l1 k places out (wrap64 (x + 1)) cars n i else if x ≥ places then if out.length < 17592186044416 then spec_paDrive.l0 k places (out ++ [-1]) cars n (wrap64 (i + 1)) else none else if out.length < 17592186044416 then spec_paDrive.l0 k places (out ++ [x]) cars n (wrap64 (i + 1)) else none) (fun k => ?_) ?_
   ·rw [spec_paDrive.l1, if_pos (by omega)]
   ·refine Ev.bind (zq14 out x (by omega)) ?_
    rw [decide_eq_true c, w64 (by omega) (by omega)]
    exact ih
  ·refine Ev.step (f := fun k => (spec_l1Has.f k out x).bind fun t => if t = true then spec_paDrive.l1 k places out (wrap64 (x + 1)) cars n i else if x ≥ places then if out.length < 17592186044416 then spec_paDrive.l0 k places (out ++ [-1]) cars n (wrap64 (i + 1)) else none else if out.length < 17592186044416 then spec_paDrive.l0 k places (out ++ [x]) cars n (wrap64 (i + 1)) else none) (fun k => ?_) ?_
   ·rw [spec_paDrive.l1, if_pos (by omega)]
   ·refine Ev.bind (zq14 out x (by omega)) ?_
    rw [decide_eq_false c]
    rw [seek, if_neg c] at h
    refine Ev.congr (fun k => ?_) h
    show (if false = true then _ else _) = _
    rw [if_neg (by simp), if_neg (by omega), if_pos (by omega)]
theorem zq16 (places : Int) (hp : places ≤ 1000) : ∀ (t p out : List Int), (∀ c ∈ t, 0 ≤ c ∧ c ≤ places) → p.length + t.length ≤ 500 → out.length + t.length ≤ 500 →
  Ev (fun k => spec_paDrive.l0 k places out (p ++ t) ((p ++ t).length : Int) (p.length : Int)) (driveS places out t)
 | [], p, out, _, _, _ => by
  refine Ev.ret fun k => ?_
  rw [spec_paDrive.l0, if_neg (by simp)]
  rfl
 | c :: t, p, out, hc, hn, ho => by
  have hn' : p.length + t.length + 1 ≤ 500 := by simpa [Nat.add_assoc] using hn
  have ho' : out.length + t.length + 1 ≤ 500 := by simpa [Nat.add_assoc] using ho
  have hm := len_mid p c t
  have h0 := hc c (by simp)
  have ih := zq16 places hp t (p ++ [c]) (out ++ [seek out (places - c).toNat c]) (fun x hx => hc x (by simp [hx])) (by simp; omega) (by simp; omega)
  rw [zq1, zq0] at ih
  refine Ev.step (fun k => ?_) (zq15 places (p ++ c :: t) ((p ++ c :: t).length : Int) (p.length : Int) out (by omega) _ (places - c).toNat c (by omega) (by omega) hp ?_)
  ·show spec_paDrive.l0 (k + 1) places out (p ++ c :: t) ((p ++ c :: t).length : Int) (p.length : Int) = _
   rw [spec_paDrive.l0, if_pos (by omega), if_pos (by omega), if_pos (by omega), rd_mid]
  ·rw [w64 (by omega) (by omega)]
   exact ih
theorem zq17 (l : List Int) (places : Int) (hp : places ≤ 1000) (hl : l.length ≤ 500) (hc : ∀ c ∈ l, 0 ≤ c ∧ c ≤ places) : Ev (fun k => spec_paDrive.f k l places) (driveS places [] l) :=
 zq16 places hp l [] [] hc (by simpa using hl) (by simpa using hl)

theorem zq18 (a b c : Int) : spec_l1In.f a b c = some (decide (b ≤ a) && decide (a ≤ c)) := by
 unfold spec_l1In.f
 by_cases h : a ≥ b
 ·rw [if_pos h]; simp [show b ≤ a from h]
 ·rw [if_neg h]; simp [show ¬ b ≤ a from h]

theorem zq19 (lo hi : Int) : ∀ (t p : List Int), p.length + t.length ≤ 35184372088832 →
  Ev (fun k => spec_l1All.l0 k lo hi (p ++ t) ((p ++ t).length : Int) (p.length : Int)) (inAll lo hi t)
 | [], p, _ => by
  refine Ev.ret fun k => ?_
  rw [spec_l1All.l0, if_neg (by simp)]
  rfl
 | h :: t, p, hn => by
  have hn' : p.length + t.length + 1 ≤ 35184372088832 := by simpa [Nat.add_assoc] using hn
  have hm := len_mid p h t
  rw [zq12]
  cases c : decide (lo ≤ h) && decide (h ≤ hi) with
  | true =>
   have ih := zq19 lo hi t (p ++ [h]) (by simp; omega)
   rw [zq1, zq0] at ih
   rw [Bool.true_and]
   refine Ev.step (fun k => ?_) ih
   show spec_l1All.l0 (k + 1) lo hi (p ++ h :: t) ((p ++ h :: t).length : Int) (p.length : Int) = _
   rw [spec_l1All.l0, if_pos (by omega), if_pos (by omega), if_pos (by omega), rd_mid, zq18, c, Option.bind_some, if_pos rfl, w64 (by omega) (by omega)]
  | false =>
   rw [Bool.false_and]
   refine Ev.ret fun k => ?_
   rw [spec_l1All.l0, if_pos (by omega), if_pos (by omega), if_pos (by omega), rd_mid, zq18, c]
   rfl
theorem zq20 (l : List Int) (lo hi : Int) (hl : l.length ≤ 35184372088832) : Ev (fun k => spec_l1All.f k l lo hi) (inAll lo hi l) :=
 zq19 lo hi l [] (by simpa using hl)

theorem zq21 (l : List Int) (hl : l.length ≤ 35184372088832) : Ev (fun k => spec_paParking.f k l) (pf l) := by
 by_cases c8 : l.length ≤ 8
 ·refine Ev.congr (fun k => by rw [spec_paParking.f, if_pos (by omega), w64 (by omega) (by omega)]) ?_
  refine Ev.bind (zq20 l 0 ((l.length : Int) - 1) hl) ?_
  cases c : inAll 0 ((l.length : Int) - 1) l with
  | false =>
   have e : pf l = false := by simp [pf, c]
   rw [e]
   exact Ev.congr (fun k => by rw [if_neg (by simp)]) (Ev.now false)
  | true =>
   have hp := (zq11 _ _ _).1 c
   have e : pf l = !(decide ((-1 : Int) ∈ driveS l.length [] l)) := by simp [pf, c, c8]
   rw [e]
   refine Ev.congr (fun k => by rw [if_pos rfl]) ?_
   refine Ev.bind (a := !(decide ((-1 : Int) ∈ driveS l.length [] l))) ?_ (Ev.now _)
   refine Ev.congr (fun k => rfl) (Ev.bind (zq17 l l.length (by omega) (by omega) (fun x hx => by have := hp x hx; omega)) ?_)
   exact Ev.bind (zq14 _ (-1) (by rw [zq10]; simp; omega)) (Ev.now _)
 ·have e : pf l = false := by simp [pf, c8]
  rw [e]
  exact Ev.congr (fun k => by rw [spec_paParking.f, if_neg (by omega)]) (Ev.now false)

def cnt (q : Int → Bool) : List Int → Int
 | [] => 0
 | h :: t => (if q h = true then 1 else 0) + cnt q t
theorem zq22 (q : Int → Bool) : ∀ l : List Int, 0 ≤ cnt q l ∧ cnt q l ≤ l.length
 | [] => by simp [cnt]
 | h :: t => by
  have := zq22 q t
  have e : ((h :: t).length : Int) = (t.length : Int) + 1 := by simp
  simp only [cnt]
  rw [e]
  split <;> omega
def places (q : Int → Bool) : List Int → Int → List Int
 | [], _ => []
 | h :: t, i => if q h = true then i :: places q t (i + 1) else places q t (i + 1)
theorem zq23 (q : Int → Bool) : ∀ (l : List Int) (i : Int), ((places q l i).length : Int) = cnt q l
 | [], i => by simp [places, cnt]
 | h :: t, i => by
  rw [places, cnt]
  have := zq23 q t (i + 1)
  split
  ·simp; omega
  ·omega
theorem zq24 (q : Int → Bool) (x : Int) : ∀ (l : List Int) (i : Int), x ∈ places q l i ↔ ∃ j : Nat, ∃ v, l[j]? = some v ∧ q v = true ∧ x = i + j
 | [], i => by simp [places]
 | h :: t, i => by
  rw [places]
  have ih := zq24 q x t (i + 1)
  constructor
  ·intro hx
   have : x = i ∧ q h = true ∨ x ∈ places q t (i + 1) := by
    split at hx
    ·rename_i c
     rcases List.mem_cons.1 hx with h1 | h1
     ·exact .inl ⟨h1, c⟩
     ·exact .inr h1
    ·exact .inr hx
   rcases this with ⟨h1, h2⟩ | h1
   ·exact ⟨0, h, by simp, h2, by omega⟩
   ·obtain ⟨j, v, h2, h3, h4⟩ := ih.1 h1
    exact ⟨j + 1, v, by simpa using h2, h3, by omega⟩
  ·rintro ⟨j, v, h2, h3, h4⟩
   cases j with
   | zero =>
    have e : h = v := by simpa using h2
    rw [e, if_pos h3]
    exact List.mem_cons.2 (.inl (by omega))
   | succ j =>
    have h1 : x ∈ places q t (i + 1) := ih.2 ⟨j, v, by simpa using h2, h3, by omega⟩
    split
    ·exact List.mem_cons_of_mem _ h1
    ·exact h1
theorem zq25 (q : Int → Bool) : ∀ (l : List Int) (i : Int), (places q l i).Pairwise (· < ·)
 | [], i => by simp [places]
 | h :: t, i => by
  rw [places]
  split
  ·rw [List.pairwise_cons]
   refine ⟨fun x hx => ?_, zq25 q t (i + 1)⟩
   obtain ⟨j, v, _, _, e⟩ := (zq24 q x t (i + 1)).1 hx
   omega
  ·exact zq25 q t (i + 1)

theorem zq26 (q : Int → Bool) : ∀ (t p out : List Int), p.length + t.length ≤ 1000000 → out.length ≤ p.length →
  Ev (fun k => impl_indices.l0 q k out (p ++ t) ((p ++ t).length : Int) (p.length : Int)) (out ++ places q t p.length)
 | [], p, out, _, _ => by
  refine Ev.ret fun k => ?_
  rw [impl_indices.l0, if_neg (by simp)]
  simp [places]
 | h :: t, p, out, hn, ho => by
  have hn' : p.length + t.length + 1 ≤ 1000000 := by simpa [Nat.add_assoc] using hn
  have hm := len_mid p h t
  cases c : q h with
  | true =>
   have ih := zq26 q t (p ++ [h]) (out ++ [(p.length : Int)]) (by simp; omega) (by simp; omega)
   rw [zq1, zq0] at ih
   have e : out ++ places q (h :: t) p.length = out ++ [(p.length : Int)] ++ places q t (p.length + 1) := by rw [places, if_pos c]; simp
   rw [e]
   refine Ev.step (fun k => ?_) ih
   show impl_indices.l0 q (k + 1) out (p ++ h :: t) ((p ++ h :: t).length : Int) (p.length : Int) = _
   rw [impl_indices.l0, if_pos (by omega), if_pos (by omega), if_pos (by omega), rd_mid, c, Option.bind_some, if_pos rfl, if_pos (by omega), w64 (by omega) (by omega)]
  | false =>
   have ih := zq26 q t (p ++ [h]) out (by simp; omega) (by simp; omega)
   rw [zq1, zq0] at ih
   have e : out ++ places q (h :: t) p.length = out ++ places q t (p.length + 1) := by rw [places, if_neg (by simp [c])]
   rw [e]
   refine Ev.step (fun k => ?_) ih
   show impl_indices.l0 q (k + 1) out (p ++ h :: t) ((p ++ h :: t).length : Int) (p.length : Int) = _
   rw [impl_indices.l0, if_pos (by omega), if_pos (by omega), if_pos (by omega), rd_mid, c, Option.bind_some, if_neg (by simp), w64 (by omega) (by omega)]
theorem zq27 (q : Int → Bool) (l : List Int) (hl : l.length ≤ 1000000) : Ev (fun k => impl_indices.f q k l) (places q l 0) := by
 have := zq26 q l [] [] (by simpa using hl) (by simp)
 exact this

def wadd (f : Int) : List Int → List Int → List Int → List Int × List Int
 | [], H, L => (H, L)
 | c :: t, H, L => wadd f t (H ++ [(L.length : Int) - f]) (L ++ [c])
theorem zq28 (f : Int) : ∀ (t H L : List Int), (wadd f t H L).1.length = H.length + t.length ∧ (wadd f t H L).2.length = L.length + t.length
 | [], H, L => by simp [wadd]
 | c :: t, H, L => by
  have ih := zq28 f t (H ++ [(L.length : Int) - f]) (L ++ [c])
  simp only [wadd, List.length_append, List.length_cons, List.length_nil] at ih ⊢
  omega
def cars (l : List Int) (k : Int) : List Int := places (fun x => decide (x = k)) l 0
theorem zq29 (l : List Int) (k : Int) : (cars l k).length ≤ l.length := by
 have a := zq23 (fun x => decide (x = k)) l 0
 have b := (zq22 (fun x => decide (x = k)) l).2
 unfold cars
 omega
def walkS (l : List Int) : Nat → Nat → List Int → List Int → List Int × List Int
 | 0, _, H, L => (H, L)
 | d + 1, k, H, L => walkS l d (k + 1) (wadd k (cars l k) H L).1 (wadd k (cars l k) H L).2
theorem zq30 (l : List Int) : ∀ (d k : Nat) (H L : List Int), (walkS l d k H L).1.length ≤ H.length + l.length * d ∧ (walkS l d k H L).2.length ≤ L.length + l.length * d
 | 0, k, H, L => by simp [walkS]
 | d + 1, k, H, L => by
  have ih := zq30 l d (k + 1) (wadd k (cars l k) H L).1 (wadd k (cars l k) H L).2
  have h1 := zq28 k (cars l k) H L
  have h2 := zq29 l k
  rw [Nat.mul_add, Nat.mul_one]
  rw [walkS]
  omega

theorem zq31 (l : List Int) (f : Nat) (hf : f ≤ 1000) (r : List Int × List Int) : ∀ (t p H L : List Int), p.length + t.length ≤ 100 → H.length ≤ 1000 + p.length → L.length ≤ 1000 + p.length →
  Ev (fun k => spec_waOf.l0 k l (l.length : Int) ((f : Int) + 1) (wadd f (places (fun x => decide (x = (f : Int))) t p.length) H L).1 (wadd f (places (fun x => decide (x = (f : Int))) t p.length) H L).2) r →
  Ev (fun k => spec_waOf.l1 k l (f : Int) (l.length : Int) (f : Int) (p ++ t) ((p ++ t).length : Int) (p.length : Int) H L) r
 | [], p, H, L, hn, h1, h2, h => by
  refine Ev.step (fun k => ?_) h
  show spec_waOf.l1 (k + 1) l (f : Int) (l.length : Int) (f : Int) (p ++ []) ((p ++ []).length : Int) (p.length : Int) H L = _
  rw [spec_waOf.l1, if_neg (by simp), w64 (by omega) (by omega)]
  rfl
 | x :: t, p, H, L, hn, h1, h2, h => by
  have hn' : p.length + t.length + 1 ≤ 100 := by simpa [Nat.add_assoc] using hn
  have hm := len_mid p x t
  by_cases c : x = (f : Int)
  ·rw [places, if_pos (by simpa using c), wadd] at h
   have ih := zq31 l f hf r t (p ++ [x]) (H ++ [(L.length : Int) - f]) (L ++ [(p.length : Int)]) (by simp; omega) (by simp; omega) (by simp; omega)
   rw [zq1 p x t, zq0 p x] at ih
   refine Ev.step (fun k => ?_) (ih h)
   show spec_waOf.l1 (k + 1) l (f : Int) (l.length : Int) (f : Int) (p ++ x :: t) ((p ++ x :: t).length : Int) (p.length : Int) H L = _
   rw [spec_waOf.l1, if_pos (by omega), if_pos (by omega), if_pos (by omega), rd_mid, if_pos c.symm, if_pos (by omega), if_pos (by omega), w64 (by omega) (by omega), w64 (by omega) (by omega)]
  ·rw [places, if_neg (by simpa using c)] at h
   have ih := zq31 l f hf r t (p ++ [x]) H L (by simp; omega) (by simp; omega) (by simp; omega)
   rw [zq1 p x t, zq0 p x] at ih
   refine Ev.step (fun k => ?_) (ih h)
   show spec_waOf.l1 (k + 1) l (f : Int) (l.length : Int) (f : Int) (p ++ x :: t) ((p ++ x :: t).length : Int) (p.length : Int) H L = _
   rw [spec_waOf.l1, if_pos (by omega), if_pos (by omega), if_pos (by omega), rd_mid, if_neg (fun e => c e.symm), w64 (by omega) (by omega)]
theorem zq32 (l : List Int) (hl : l.length ≤ 8) : ∀ (d k : Nat) (H L : List Int), k + d = l.length → H.length ≤ 10 * k → L.length ≤ 10 * k →
  Ev (fun kk => spec_waOf.l0 kk l (l.length : Int) (k : Int) H L) (walkS l d k H L)
 | 0, k, H, L, hk, h1, h2 => by
  refine Ev.ret fun kk => ?_
  rw [spec_waOf.l0, if_neg (by omega)]
  rfl
 | d + 1, k, H, L, hk, h1, h2 => by
  have h3 := zq28 k (cars l k) H L
  have h4 := zq29 l k
  have ih := zq32 l hl d (k + 1) (wadd k (cars l k) H L).1 (wadd k (cars l k) H L).2 (by omega) (by omega) (by omega)
  rw [show ((k + 1 : Nat) : Int) = (k : Int) + 1 by omega] at ih
  refine Ev.step (f := fun kk => spec_waOf.l1 kk l (k : Int) (l.length : Int) (k : Int) l (l.length : Int) 0 H L) (fun kk => ?_) ?_
  ·rw [spec_waOf.l0, if_pos (by omega)]
  ·exact zq31 l k (by omega) _ l [] H L (by simp; omega) (by simp; omega) (by simp; omega) ih
theorem zq33 (l : List Int) (hl : l.length ≤ 8) : Ev (fun k => spec_waOf.f k l) (walkS l l.length 0 [] []) :=
 zq32 l hl l.length 0 [] [] (by omega) (by simp) (by simp)

theorem zq34 (code : List Int) (hc : ∀ x ∈ code, 0 ≤ x ∧ x ≤ 255) : ∃ (H L : List Int) (a s : Int), H.length ≤ 1000 ∧ L.length ≤ 1000 ∧ Ev (fun k => spec_l1Cur_walk.f k code 0 0 8) (H, L, a, s) := by
 obtain ⟨r, a1, s1, h1, r1, e1⟩ := zq6 code hc 0 0 8 (by omega) 0 ⟨by omega, by omega⟩ (by omega)
 cases c : pf r with
 | false =>
  obtain ⟨H, a2, s2, h2, r2, e2⟩ := zq8 code hc a1 s1 8 (by omega) (0 + 1000) r1 (by omega)
  refine ⟨H, r, a2, s2, by omega, by omega, ?_⟩
  refine Ev.congr (fun k => by rw [spec_l1Cur_walk.f]) ?_
  refine Ev.bind e1 (Ev.bind (zq21 r (by omega)) ?_)
  rw [c]
  refine Ev.congr (fun k => by rw [if_neg (by simp)]) ?_
  exact Ev.bind e2 (Ev.now _)
 | true =>
  obtain ⟨h8, _, _⟩ := (pf_iff r).1 c
  have hw := zq30 r r.length 0 [] []
  have hq : r.length * r.length ≤ 8 * 8 := Nat.mul_le_mul h8 h8
  simp only [List.length_nil] at hw
  obtain ⟨v, a2, s2, e2, v0, v1, r2⟩ := zq3 code hc a1 s1 14 (0 + 1000) r1 (by omega)
  obtain ⟨H, L, hW⟩ : ∃ H L, walkS r r.length 0 [] [] = (H, L) := ⟨_, _, rfl⟩
  have ew := zq33 r h8
  rw [hW] at ew hw
  have hH : H.length ≤ 100 := by have := hw; simp only at this; omega
  have hL : L.length ≤ 100 := by have := hw; simp only at this; omega
  have go : ∀ res : List Int × List Int × Int × Int, Ev (fun k => if v = 0 then (if (L.length : Int) > 1 then ((spec_l1Cur_pick.f code a2 s2 (wrap64 ((L.length : Int) - 1))).bind fun bt257 => (if 0 ≤ bt257.1 then (if bt257.1 < (L.length : Int) then (if 0 ≤ (wrap64 (bt257.1 + 1)) then (if (wrap64 (bt257.1 + 1)) < (L.length : Int) then (some (H, ((L.set (bt257.1 : Int).toNat (rd L (wrap64 (bt257.1 + 1)))).set ((wrap64 (bt257.1 + 1)) : Int).toNat (rd L bt257.1)), bt257.2.1, bt257.2.2)) else (none)) else (none)) else (none)) else (none))) else (some (H, L, a2, s2))) else (if v = 1 then (if L.length < 17592186044416 then (some (H, (L ++ [(L.length : Int)]), a2, s2)) else (none)) else (some (H, L, a2, s2)))) res → Ev (fun k => spec_l1Cur_walk.f k code 0 0 8) res := by
   intro res hres
   refine Ev.congr (fun k => by rw [spec_l1Cur_walk.f]) ?_
   refine Ev.bind e1 (Ev.bind (zq21 r (by omega)) ?_)
   rw [c]
   refine Ev.congr (fun k => by rw [if_pos rfl]) (Ev.bind ew ?_)
   refine Ev.congr (fun k => ?_) hres
   show (spec_l1Cur_pick.f code a1 s1 14).bind _ = _
   rw [e2, Option.bind_some]
  by_cases c0 : v = 0
  ·by_cases c1 : (L.length : Int) > 1
   ·obtain ⟨i, a3, s3, e3, i0, i1, r3⟩ := zq3 code hc a2 s2 (wrap64 ((L.length : Int) - 1)) (0 + 1000 + 2) r2 (by omega)
    have hw1 : wrap64 ((L.length : Int) - 1) = (L.length : Int) - 1 := w64 (by omega) (by omega)
    have hi : i < (L.length : Int) - 1 := by rw [hw1] at i1; omega
    have hw2 : wrap64 (i + 1) = i + 1 := w64 (by omega) (by omega)
    refine ⟨H, _, a3, s3, by omega, ?_, go (_, _, _, _) (Ev.congr (fun k => by rw [if_pos c0, if_pos c1, e3, Option.bind_some]; simp only [hw2]; rw [if_pos i0, if_pos (by omega), if_pos (by omega), if_pos (by omega)]) (Ev.now _))⟩
    simp only [List.length_set]
    omega
   ·exact ⟨H, L, a2, s2, by omega, by omega, go _ (Ev.congr (fun k => by rw [if_pos c0, if_neg c1]) (Ev.now _))⟩
  ·by_cases c1 : v = 1
   ·exact ⟨H, L ++ [(L.length : Int)], a2, s2, by omega, by simp; omega, go _ (Ev.congr (fun k => by rw [if_neg c0, if_pos c1, if_pos (by omega)]) (Ev.now _))⟩
   ·exact ⟨H, L, a2, s2, by omega, by omega, go _ (Ev.congr (fun k => by rw [if_neg c0, if_neg c1]) (Ev.now _))⟩

theorem zq35 : ∀ (n : Nat) (f : Nat → Int), (∀ i, i ≤ n → 1 ≤ f i ∧ f i ≤ n) → ∃ i j, i < j ∧ j ≤ n ∧ f i = f j
 | 0, f, h => by have := h 0 (by omega); omega
 | n + 1, f, h => by
  by_cases c : ∃ i, i ≤ n ∧ f i = f (n + 1)
  ·obtain ⟨i, hi, e⟩ := c
   exact ⟨i, n + 1, by omega, by omega, e⟩
  ·
   let g : Nat → Int := fun i => if f i > f (n + 1) then f i - 1 else f i
   have hg : ∀ i, i ≤ n → 1 ≤ g i ∧ g i ≤ n := by
    intro i hi
    have h1 := h i (by omega)
    have h2 := h (n + 1) (by omega)
    have h3 : f i ≠ f (n + 1) := fun e => c ⟨i, hi, e⟩
    show 1 ≤ (if f i > f (n + 1) then f i - 1 else f i) ∧ (if f i > f (n + 1) then f i - 1 else f i) ≤ n
    split <;> omega
   obtain ⟨i, j, hij, hj, e⟩ := zq35 n g hg
   have h3 : f i ≠ f (n + 1) := fun e => c ⟨i, by omega, e⟩
   have h4 : f j ≠ f (n + 1) := fun e => c ⟨j, by omega, e⟩
   refine ⟨i, j, hij, by omega, ?_⟩
   have e' : (if f i > f (n + 1) then f i - 1 else f i) = (if f j > f (n + 1) then f j - 1 else f j) := e
   split at e' <;> split at e' <;> omega
theorem zq36 {l : List Int} (h : l.Nodup) {i j : Nat} (hi : i < j) (hj : j < l.length) : l[i]'(by omega) ≠ l[j] :=
 List.pairwise_iff_getElem.1 h i j (by omega) hj hi
theorem zq37 (n : Nat) (l : List Int) (h : l.Nodup) (hr : ∀ v ∈ l, 0 ≤ v ∧ v ≤ n) : l.length ≤ n + 1 := by
 refine Classical.byContradiction fun c => ?_
 obtain ⟨i, j, hij, hj, e⟩ := zq35 (n + 1) (fun i => l.getD i 0 + 1) (fun i hi => by
  have hm : l.getD i 0 ∈ l := by
   rw [List.getD_eq_getElem?_getD, List.getElem?_eq_getElem (by omega)]
   exact List.getElem_mem _
  have := hr _ hm
  show 1 ≤ l.getD i 0 + 1 ∧ l.getD i 0 + 1 ≤ ((n + 1 : Nat) : Int)
  omega)
 have e2 : l.getD i 0 + 1 = l.getD j 0 + 1 := e
 rw [List.getD_eq_getElem?_getD, List.getD_eq_getElem?_getD, List.getElem?_eq_getElem (by omega), List.getElem?_eq_getElem (by omega)] at e2
 simp only [Option.getD_some] at e2
 exact zq36 h hij (by omega) (by omega)

def Up (l : List Int) : Prop := l.Pairwise (· ≤ ·)
def put (x : Int) : List Int → List Int
 | [] => [x]
 | h :: t => if x ≤ h then x :: h :: t else h :: put x t
def srt : List Int → List Int
 | [] => []
 | h :: t => put h (srt t)
theorem zq38 (x : Int) : ∀ l : List Int, (put x l).Perm (x :: l)
 | [] => .refl _
 | h :: t => by
  rw [put]
  split
  ·exact .refl _
  ·exact ((zq38 x t).cons h).trans (.swap x h t)
theorem put_up (x : Int) : ∀ l : List Int, Up l → Up (put x l)
 | [], _ => by simp [put, Up]
 | h :: t, hl => by
  have h1 := List.pairwise_cons.1 hl
  rw [put]
  split
  ·refine List.pairwise_cons.2 ⟨fun y hy => ?_, hl⟩
   rcases List.mem_cons.1 hy with e | e
   ·omega
   ·have := h1.1 y e; omega
  ·refine List.pairwise_cons.2 ⟨fun y hy => ?_, put_up x t h1.2⟩
   rcases List.mem_cons.1 ((zq38 x t).mem_iff.1 hy) with e | e
   ·omega
   ·exact h1.1 y e
theorem zq39 : ∀ l : List Int, (srt l).Perm l
 | [] => .refl _
 | h :: t => (zq38 h (srt t)).trans ((zq39 t).cons h)
theorem srt_up : ∀ l : List Int, Up (srt l)
 | [] => by simp [srt, Up]
 | h :: t => put_up h _ (srt_up t)
theorem zq40 : ∀ (a b : List Int), Up a → Up b → a.Perm b → a = b
 | [], b, _, _, h => by simpa using h.length_eq.symm
 | x :: a, [], _, _, h => by simpa using h.length_eq
 | x :: a, y :: b, ha, hb, h => by
  have h1 := List.pairwise_cons.1 ha
  have h2 := List.pairwise_cons.1 hb
  have e : x = y := by
   have hx : x ∈ y :: b := h.mem_iff.1 (by simp)
   have hy : y ∈ x :: a := h.mem_iff.2 (by simp)
   rcases List.mem_cons.1 hx with e | e
   ·exact e
   ·rcases List.mem_cons.1 hy with e' | e'
    ·exact e'.symm
    ·have := h1.1 y e'
     have := h2.1 x e
     omega
  subst e
  rw [zq40 a b h1.2 h2.2 (List.perm_cons x |>.1 h)]

theorem zq41 : ∀ (a b : List Int), a.Pairwise (· < ·) → b.Pairwise (· < ·) → (∀ x, x ∈ a ↔ x ∈ b) → a = b
 | [], [], _, _, _ => rfl
 | [], y :: b, _, _, h => by have := (h y).2 (by simp); simp at this
 | x :: a, [], _, _, h => by have := (h x).1 (by simp); simp at this
 | x :: a, y :: b, ha, hb, h => by
  have h1 := List.pairwise_cons.1 ha
  have h2 := List.pairwise_cons.1 hb
  have e : x = y := by
   rcases List.mem_cons.1 ((h x).1 (by simp)) with e | e
   ·exact e
   ·rcases List.mem_cons.1 ((h y).2 (by simp)) with e' | e'
    ·exact e'.symm
    ·have := h1.1 y e'
     have := h2.1 x e
     omega
  subst e
  rw [zq41 a b h1.2 h2.2 fun z => ?_]
  constructor
  ·intro hz
   rcases List.mem_cons.1 ((h z).1 (by simp [hz])) with e | e
   ·have := h1.1 z hz; omega
   ·exact e
  ·intro hz
   rcases List.mem_cons.1 ((h z).2 (by simp [hz])) with e | e
   ·have := h2.1 z hz; omega
   ·exact e
theorem zq42 (l : List Int) (h : l.Nodup) : (srt l).Pairwise (· < ·) := by
 have h1 := srt_up l
 have h2 : (srt l).Nodup := (zq39 l).nodup_iff.2 h
 refine List.pairwise_iff_getElem.2 fun i j hi hj hij => ?_
 have h3 := List.pairwise_iff_getElem.1 h1 i j hi hj hij
 have h4 := List.pairwise_iff_getElem.1 h2 i j hi hj hij
 omega

def hts (last : Int) : List Int → Bool
 | [] => true
 | h :: t => decide (0 ≤ h) && decide (h ≤ last + 1) && hts h t
theorem hts_mem : ∀ (l : List Int) (last : Int), hts last l = true → ∀ x ∈ l, 0 ≤ x ∧ x ≤ last + l.length
 | [], _, _, x, hx => by cases hx
 | h :: t, last, hh, x, hx => by
  simp only [hts, Bool.and_eq_true, decide_eq_true_eq] at hh
  have e : ((h :: t).length : Int) = (t.length : Int) + 1 := by simp
  rw [e]
  cases hx with
  | head => omega
  | tail _ hx =>
   have := hts_mem t h hh.2 x hx
   omega
theorem rd_prev (q : List Int) (x : Int) (t : List Int) : rd ((q ++ [x]) ++ t) (((q ++ [x]).length : Int) - 1) = x := by
 unfold rd
 have : (((q ++ [x]).length : Int) - 1).toNat = q.length := by simp
 rw [this]
 simp

theorem rd_mem (l : List Int) (i : Int) (h0 : 0 ≤ i) (h1 : i < l.length) : rd l i ∈ l := by
 unfold rd
 rw [List.getD_eq_getElem?_getD, List.getElem?_eq_getElem (by omega)]
 exact List.getElem_mem _
def iota : Nat → Int → List Int
 | 0, _ => []
 | n + 1, i => i :: iota n (i + 1)
theorem zq43 (x : Int) : ∀ (n : Nat) (i : Int), x ∈ iota n i ↔ i ≤ x ∧ x < i + n
 | 0, i => by
  simp only [iota, List.not_mem_nil, false_iff]
  omega
 | n + 1, i => by
  rw [iota, List.mem_cons, zq43 x n (i + 1)]
  omega
theorem zq44 : ∀ (n : Nat) (i : Int), (iota n i).Pairwise (· < ·)
 | 0, i => by simp [iota]
 | n + 1, i => List.pairwise_cons.2 ⟨fun x hx => by have := (zq43 x n (i + 1)).1 hx; omega, zq44 n (i + 1)⟩
theorem zq45 : ∀ (n : Nat) (i : Int), (iota n i).length = n
 | 0, _ => rfl
 | n + 1, i => by rw [iota, List.length_cons, zq45 n]
theorem zq46 {l : List Int} (h : l.Pairwise (· < ·)) : l.Nodup := h.imp fun hab => by omega
def isUp : List Int → Int → Bool
 | [], _ => true
 | h :: t, i => decide (h = i) && isUp t (i + 1)
theorem zq47 : ∀ (l : List Int) (i : Int), isUp l i = true ↔ l = iota l.length i
 | [], i => by simp [isUp, iota]
 | h :: t, i => by
  rw [isUp, Bool.and_eq_true, decide_eq_true_eq, zq47 t (i + 1), List.length_cons, iota]
  constructor
  ·rintro ⟨h1, h2⟩
   rw [h1, ← h2]
  ·intro e
   injection e with h1 h2
   exact ⟨h1, h2⟩
theorem zq48 (l : List Int) : isUp (srt l) 0 = true ↔ inAll 0 ((l.length : Int) - 1) l = true ∧ l.Nodup := by
 rw [zq47, (zq39 l).length_eq, zq11]
 constructor
 ·intro e
  have hm : ∀ x, x ∈ l ↔ 0 ≤ x ∧ x < 0 + (l.length : Int) := fun x => by
   rw [← zq43 x l.length 0, ← e]
   exact (zq39 l).mem_iff.symm
  refine ⟨fun x hx => by have := (hm x).1 hx; omega, ?_⟩
  rw [← (zq39 l).nodup_iff, e]
  exact zq46 (zq44 _ _)
 ·rintro ⟨h1, h2⟩
  refine zq41 _ _ (zq42 l h2) (zq44 _ _) fun x => ?_
  rw [(zq39 l).mem_iff, zq43]
  constructor
  ·intro hx
   have := h1 x hx
   omega
  ·intro hx
   refine Classical.byContradiction fun hn => ?_
   have hc : (x :: l).Nodup := List.nodup_cons.2 ⟨hn, h2⟩
   have := zq37 (l.length - 1) (x :: l) hc fun v hv => by
    rcases List.mem_cons.1 hv with e | e
    ·omega
    ·have := h1 v e; omega
   rw [List.length_cons] at this
   omega
def labsFrom (H L : List Int) : Nat → Nat → Bool
 | 0, _ => true
 | d + 1, i => if rd H i = rd H ((i : Int) - 1) + 1 ∧ rd L ((i : Int) - 1) > rd L i then false else labsFrom H L d (i + 1)
theorem zq49 (H L : List Int) : ∀ (d i : Nat), labsFrom H L d i = true ↔ ∀ j : Nat, i ≤ j → j < i + d → rd H j = rd H ((j : Int) - 1) + 1 → rd L ((j : Int) - 1) ≤ rd L j
 | 0, i => by
  simp only [labsFrom, true_iff]
  intro j h1 h2
  omega
 | d + 1, i => by
  rw [labsFrom]
  have ih := zq49 H L d (i + 1)
  by_cases c : rd H i = rd H ((i : Int) - 1) + 1 ∧ rd L ((i : Int) - 1) > rd L i
  ·rw [if_pos c]
   constructor
   ·intro h; cases h
   ·intro h
    have := h i (Nat.le_refl _) (by omega) c.1
    omega
  ·rw [if_neg c, ih]
   constructor
   ·intro h j h1 h2 h3
    by_cases e : j = i
    ·subst e
     refine Classical.byContradiction fun h4 => c ⟨h3, by omega⟩
    ·exact h j (by omega) (by omega) h3
   ·intro h j h1 h2 h3
    exact h j (by omega) (by omega) h3
def bothFrom (H L : List Int) : Nat → Nat → Bool
 | 0, _ => true
 | d + 1, i => if rd L i ∈ L.take i then false else if 0 < i ∧ rd H i = rd H ((i : Int) - 1) + 1 ∧ rd L ((i : Int) - 1) > rd L i then false else bothFrom H L d (i + 1)
theorem zq50 (H L : List Int) : ∀ (d i : Nat), bothFrom H L d i = true ↔ ∀ j : Nat, i ≤ j → j < i + d → rd L j ∉ L.take j ∧ (0 < j → rd H j = rd H ((j : Int) - 1) + 1 → rd L ((j : Int) - 1) ≤ rd L j)
 | 0, i => by
  simp only [bothFrom, true_iff]
  intro j h1 h2
  omega
 | d + 1, i => by
  rw [bothFrom]
  have ih := zq50 H L d (i + 1)
  by_cases g : rd L i ∈ L.take i
  ·rw [if_pos g]
   constructor
   ·intro h; cases h
   ·intro h
    exact absurd g (h i (Nat.le_refl _) (by omega)).1
  ·rw [if_neg g]
   by_cases c : 0 < i ∧ rd H i = rd H ((i : Int) - 1) + 1 ∧ rd L ((i : Int) - 1) > rd L i
   ·rw [if_pos c]
    constructor
    ·intro h; cases h
    ·intro h
     have := (h i (Nat.le_refl _) (by omega)).2 c.1 c.2.1
     omega
   ·rw [if_neg c, ih]
    constructor
    ·intro h j h1 h2
     by_cases e : j = i
     ·subst e
      exact ⟨g, fun h3 h4 => Classical.byContradiction fun h5 => c ⟨h3, h4, by omega⟩⟩
     ·exact h j (by omega) (by omega)
    ·intro h j h1 h2
     exact h j (by omega) (by omega)
theorem zq51 (L : List Int) : L.Nodup ↔ ∀ j : Nat, j < L.length → rd L j ∉ L.take j := by
 constructor
 ·intro h j hj hm
  obtain ⟨i, hi, e⟩ := List.mem_iff_getElem.1 hm
  rw [List.getElem_take] at e
  have hij : i < j := by simp at hi; omega
  rw [rd_nat, List.getD_eq_getElem?_getD, List.getElem?_eq_getElem hj] at e
  exact zq36 h hij hj e
 ·intro h
  refine List.pairwise_iff_getElem.2 fun i j hi hj hij e => h j hj ?_
  rw [rd_nat, List.getD_eq_getElem?_getD, List.getElem?_eq_getElem hj]
  refine List.mem_iff_getElem.2 ⟨i, by simp; omega, ?_⟩
  rw [List.getElem_take]
  exact e
theorem zq52 (H L : List Int) : bothFrom H L L.length 0 = (decide L.Nodup && labsFrom H L (L.length - 1) 1) := by
 rw [Bool.eq_iff_iff, Bool.and_eq_true, decide_eq_true_eq, zq50, zq49, zq51]
 constructor
 ·intro h
  exact ⟨fun j hj => (h j (by omega) (by omega)).1, fun j h1 h2 => (h j (by omega) (by omega)).2 (by omega)⟩
 ·rintro ⟨h1, h2⟩ j _ h3
  exact ⟨h1 j (by omega), fun h4 => h2 j (by omega) (by omega)⟩
def goodW (H L : List Int) : Bool := (decide (H.length ≤ 8) && hts (-1) H) && (decide ((L.length : Int) = (H.length : Int)) && (inAll 0 ((H.length : Int) - 1) L && (decide L.Nodup && labsFrom H L (L.length - 1) 1)))
theorem zq53 (H L : List Int) : goodW H L = true ↔ (H.length ≤ 8 ∧ hts (-1) H = true) ∧ L.length = H.length ∧ (∀ x ∈ L, 0 ≤ x ∧ x ≤ (H.length : Int) - 1) ∧ L.Nodup ∧ labsFrom H L (L.length - 1) 1 = true := by
 simp only [goodW, Bool.and_eq_true, decide_eq_true_eq, zq11]
 constructor
 ·rintro ⟨h1, h2, h3⟩
  exact ⟨h1, by omega, h3⟩
 ·rintro ⟨h1, h2, h3⟩
  exact ⟨h1, by omega, h3⟩
theorem hts_rd {H : List Int} (h8 : H.length ≤ 8) (h : hts (-1) H = true) (i : Int) (h0 : 0 ≤ i) (h1 : i < H.length) : 0 ≤ rd H i ∧ rd H i ≤ 8 := by
 have := hts_mem H (-1) h _ (rd_mem H i h0 h1)
 omega

theorem zq54 : ∀ (t p : List Int) (last : Int), -1 ≤ last → last ≤ p.length → p.length + t.length ≤ 8 →
  Ev (fun k => spec_waHeights.l0 k last (p ++ t) ((p ++ t).length : Int) (p.length : Int)) (hts last t)
 | [], p, last, _, _, _ => by
  refine Ev.ret fun k => ?_
  rw [spec_waHeights.l0, if_neg (by simp)]
  rfl
 | h :: t, p, last, h0, h1, hn => by
  have hn' : p.length + t.length + 1 ≤ 8 := by simpa [Nat.add_assoc] using hn
  have e1 : (p ++ [h]) ++ t = p ++ h :: t := by simp
  have e2 : (((p ++ [h]).length : Nat) : Int) = (p.length : Int) + 1 := by simp
  by_cases c : 0 ≤ h ∧ h ≤ last + 1
  ·have ih := zq54 t (p ++ [h]) h (by omega) (by omega) (by simp; omega)
   rw [e1, e2] at ih
   have er : hts last (h :: t) = hts h t := by simp [hts, c]
   rw [er]
   refine Ev.step (fun k => ?_) ih
   show spec_waHeights.l0 (k + 1) last (p ++ h :: t) ((p ++ h :: t).length : Int) (p.length : Int) = _
   rw [spec_waHeights.l0, if_pos (by simp; omega), if_pos (by omega), if_pos (by simp; omega), rd_mid, zq18, w64 (by omega) (by omega), w64 (by omega) (by omega)]
   simp [c]
  ·have er : hts last (h :: t) = false := by
    simp only [hts, Bool.and_eq_false_iff, decide_eq_false_iff_not]
    omega
   rw [er]
   refine Ev.ret fun k => ?_
   rw [spec_waHeights.l0, if_pos (by simp; omega), if_pos (by omega), if_pos (by simp; omega), rd_mid, zq18, w64 (by omega) (by omega)]
   have : (decide (0 ≤ h) && decide (h ≤ last + 1)) = false := by
    simp only [Bool.and_eq_false_iff, decide_eq_false_iff_not]
    omega
   rw [this]
   rfl
theorem zq55 (l : List Int) : Ev (fun k => spec_waHeights.f k l) (decide (l.length ≤ 8) && hts (-1) l) := by
 by_cases c : l.length ≤ 8
 ·have z := zq54 l [] (-1) (by omega) (by simp) (by simpa using c)
  rw [decide_eq_true c, Bool.true_and]
  refine Ev.congr (fun k => ?_) z
  show spec_waHeights.f k l = _
  rw [spec_waHeights.f, if_neg (by omega)]
  rfl
 ·rw [decide_eq_false c, Bool.false_and]
  refine Ev.congr (fun k => ?_) (Ev.now false)
  show spec_waHeights.f k l = _
  rw [spec_waHeights.f, if_pos (by omega)]

theorem zq56 (H L : List Int) (h8 : H.length ≤ 8) (hh : hts (-1) H = true) (hl : L.length = H.length) : ∀ (d i : Nat), i + d = L.length →
  Ev (fun k => spec_waGood.l0 k L (L.length : Int) (i : Int) H L) (bothFrom H L d i)
 | 0, i, hd => by
  refine Ev.ret fun k => ?_
  rw [spec_waGood.l0, if_neg (by omega), bothFrom]
 | d + 1, i, hd => by
  have ih := zq56 H L h8 hh hl d (i + 1) (by omega)
  rw [show ((i + 1 : Nat) : Int) = (i : Int) + 1 by omega] at ih
  rw [bothFrom]
  refine Ev.step (f := fun k => (spec_l1Has.f k (L.take i) (rd L i)).bind fun t135 => if t135 = true then some false else if (i : Int) > 0 then (if (i : Int) < (H.length : Int) then (if 0 ≤ wrap64 ((i : Int) - 1) then (if wrap64 ((i : Int) - 1) < (H.length : Int) then (if rd H i = wrap64 (rd H (wrap64 ((i : Int) - 1)) + 1) then (if wrap64 ((i : Int) - 1) < (L.length : Int) then (if rd L (wrap64 ((i : Int) - 1)) > rd L i then some false else spec_waGood.l0 k L (L.length : Int) (wrap64 ((i : Int) + 1)) H L) else none) else spec_waGood.l0 k L (L.length : Int) (wrap64 ((i : Int) + 1)) H L) else none) else none) else none) else spec_waGood.l0 k L (L.length : Int) (wrap64 ((i : Int) + 1)) H L) (fun k => ?_) (Ev.bind (zq14 (L.take i) (rd L i) (by simp; omega)) ?_)
  ·rw [spec_waGood.l0, if_pos (by omega), if_pos (by omega), if_pos (by omega), if_pos (by omega), Int.toNat_natCast]
  ·by_cases g : rd L i ∈ L.take i
   ·rw [if_pos g]
    exact Ev.congr (fun k => by rw [if_pos (by simpa using g)]) (Ev.now _)
   ·rw [if_neg g]
    refine Ev.congr (fun k => by rw [if_neg (by simpa using g), w64 (x := (i : Int) - 1) (by omega) (by omega), w64 (x := (i : Int) + 1) (by omega) (by omega)]) ?_
    by_cases c0 : 0 < i
    ·have hr := hts_rd h8 hh ((i : Int) - 1) (by omega) (by omega)
     refine Ev.congr (fun k => by rw [if_pos (by omega), if_pos (by omega), if_pos (by omega), if_pos (by omega), w64 (by omega) (by omega)]) ?_
     by_cases c1 : rd H i = rd H ((i : Int) - 1) + 1
     ·by_cases c2 : rd L ((i : Int) - 1) > rd L i
      ·rw [if_pos ⟨c0, c1, c2⟩]
       exact Ev.congr (fun k => by rw [if_pos c1, if_pos (by omega), if_pos c2]) (Ev.now _)
      ·rw [if_neg (fun h => c2 h.2.2)]
       exact Ev.congr (fun k => by rw [if_pos c1, if_pos (by omega), if_neg c2]) ih
     ·rw [if_neg (fun h => c1 h.2.1)]
      exact Ev.congr (fun k => by rw [if_neg c1]) ih
    ·rw [if_neg (fun h => c0 h.1)]
     exact Ev.congr (fun k => by rw [if_neg (by omega)]) ih
theorem zq57 (H L : List Int) : Ev (fun k => spec_waGood.j0 k true H L) false :=
 Ev.ret fun k => by rw [spec_waGood.j0, if_pos rfl]
theorem zq58 (H L : List Int) (hL : L.length ≤ 35184372088832) : Ev (fun k => spec_waGood.f k H L) (goodW H L) := by
 refine Ev.bind (zq55 H) ?_
 cases c : decide (H.length ≤ 8) && hts (-1) H with
 | false =>
  rw [show goodW H L = false by rw [goodW, c, Bool.false_and]]
  exact Ev.congr (fun k => by rw [if_neg (by simp)]) (zq57 H L)
 | true =>
  have cc : H.length ≤ 8 ∧ hts (-1) H = true := by simpa using c
  refine Ev.congr (fun k => by rw [if_pos rfl]) ?_
  by_cases d : (L.length : Int) = (H.length : Int)
  ·refine Ev.congr (fun k => by rw [if_pos d, w64 (by omega) (by omega)]) ?_
   refine Ev.bind (zq20 L 0 ((H.length : Int) - 1) hL) ?_
   cases e : inAll 0 ((H.length : Int) - 1) L with
   | false =>
    rw [show goodW H L = false by rw [goodW, e, Bool.false_and, Bool.and_false, Bool.and_false]]
    exact Ev.congr (fun k => by rw [Bool.not_false]) (zq57 H L)
   | true =>
    rw [show goodW H L = bothFrom H L L.length 0 by rw [goodW, c, decide_eq_true d, e, Bool.true_and, Bool.true_and, Bool.true_and, zq52]]
    refine Ev.step (fun k => by rw [spec_waGood.j0, if_neg (by simp)]) ?_
    exact zq56 H L cc.1 cc.2 (by omega) L.length 0 (by omega)
  ·rw [show goodW H L = false by rw [goodW, decide_eq_false d, Bool.false_and, Bool.and_false]]
   exact Ev.congr (fun k => by rw [if_neg d]) (zq57 H L)

theorem zq59 (a b c : Int) : impl_between.f a b c = some (decide (b ≤ a) && decide (a ≤ c)) := by
 unfold impl_between.f
 by_cases h : a ≥ b
 ·rw [if_pos h]; simp [show b ≤ a from h]
 ·rw [if_neg h]; simp [show ¬ b ≤ a from h]

theorem zq60 (a : Int) : impl_isCars.f a = some (decide (0 ≤ a) && decide (a ≤ 8)) := by
 unfold impl_isCars.f
 rw [zq59]
 rfl

theorem zq61 : ∀ (t p : List Int) (last : Int), p.length + t.length ≤ 35184372088832 →
  (p = [] ∧ last = -1 ∨ ∃ q, p = q ++ [last]) → -1 ≤ last → last < p.length →
  Ev (fun k => impl_areHeights.l0 k (p ++ t) (p ++ t) ((p ++ t).length : Int) (p.length : Int)) (hts last t && decide ((p ++ t).length ≤ 8))
 | [], p, last, _, _, _, _ => by
  refine Ev.ret fun k => ?_
  rw [impl_areHeights.l0, if_neg (by simp), zq60]
  simp only [hts, Bool.true_and, Option.bind_some, Option.some.injEq]
  rw [Bool.eq_iff_iff]
  simp only [Bool.and_eq_true, decide_eq_true_eq]
  omega
 | h :: t, p, last, hn, hp, h0, h1 => by
  have hn' : p.length + t.length + 1 ≤ 35184372088832 := by simpa [Nat.add_assoc] using hn
  have e1 : (p ++ [h]) ++ t = p ++ h :: t := by simp
  have e2 : (((p ++ [h]).length : Nat) : Int) = (p.length : Int) + 1 := by simp
  by_cases c : 0 ≤ h ∧ h ≤ last + 1
  ·have ih := zq61 t (p ++ [h]) h (by simp; omega) (.inr ⟨p, rfl⟩) (by omega) (by omega)
   rw [e1, e2] at ih
   have er : hts last (h :: t) = hts h t := by simp [hts, c]
   rw [er]
   refine Ev.step (fun k => ?_) ih
   show impl_areHeights.l0 (k + 1) (p ++ h :: t) (p ++ h :: t) ((p ++ h :: t).length : Int) (p.length : Int) = _
   rw [impl_areHeights.l0, if_pos (by simp; omega), if_pos (by omega), if_pos (by simp; omega), rd_mid, if_neg (by omega)]
   rcases hp with ⟨rfl, rfl⟩ | ⟨q, rfl⟩
   ·rw [if_pos (by simp), if_neg (by omega), if_neg (by simp), w64 (by simp) (by simp)]
   ·have hl : ((q ++ [last]).length : Int) = (q.length : Int) + 1 := by simp
    have ep : wrap64 (((q ++ [last]).length : Int) - 1) = ((q ++ [last]).length : Int) - 1 := w64 (by omega) (by omega)
    rw [if_neg (by omega), if_pos (by omega), ep, if_pos (by omega), if_pos (by simp; omega), rd_prev, w64 (by omega) (by omega), if_neg (by omega), w64 (by omega) (by omega)]
  ·have er : hts last (h :: t) = false := by
    simp only [hts, Bool.and_eq_false_iff, decide_eq_false_iff_not]
    omega
   rw [er, Bool.false_and]
   refine Ev.ret fun k => ?_
   rw [impl_areHeights.l0, if_pos (by simp; omega), if_pos (by omega), if_pos (by simp; omega), rd_mid]
   by_cases c0 : h < 0
   ·rw [if_pos c0]
   ·rw [if_neg c0]
    rcases hp with ⟨rfl, rfl⟩ | ⟨q, rfl⟩
    ·rw [if_pos (by simp), if_pos (by omega)]
    ·have hl : ((q ++ [last]).length : Int) = (q.length : Int) + 1 := by simp
     have ep : wrap64 (((q ++ [last]).length : Int) - 1) = ((q ++ [last]).length : Int) - 1 := w64 (by omega) (by omega)
     rw [if_neg (by omega), if_pos (by omega), ep, if_pos (by omega), if_pos (by simp; omega), rd_prev, w64 (by omega) (by omega), if_pos (by omega)]
theorem zq62 (l : List Int) (hl : l.length ≤ 35184372088832) : Ev (fun k => impl_areHeights.f k l) (decide (l.length ≤ 8) && hts (-1) l) := by
 have z := zq61 l [] (-1) (by simpa using hl) (.inl ⟨rfl, rfl⟩) (by omega) (by simp)
 rw [Bool.and_comm]
 exact z

theorem zq63 (l : List Int) : (l.mergeSort fun x y => decide (x ≤ y)) = srt l := by
 refine zq40 _ _ ?_ (srt_up l) ((List.mergeSort_perm l _).trans (zq39 l).symm)
 have h := List.pairwise_mergeSort (le := fun x y : Int => decide (x ≤ y)) (fun a b c h1 h2 => by simp at h1 h2 ⊢; omega) (fun a b => by simp; omega) l
 exact h.imp fun hab => by simpa using hab
theorem zq64 (l : List Int) (hl : l.length ≤ 10000000) : Ev (fun k => impl_sorted.f k l) (srt l) := by
 refine Ev.congr (fun k => ?_) (Ev.now (srt l))
 show impl_sorted.f k l = _
 rw [impl_sorted.f, if_pos hl, slices_Sort_int_int.f, if_pos (by omega), zq63]

theorem zq65 (l : List Int) (hl : l.length ≤ 12) : Ev (fun k => impl_sorted.f k l) (srt l) := zq64 l (by omega)

theorem zq66 (l0 : List Int) : ∀ (t p : List Int), p.length + t.length ≤ 35184372088832 →
  Ev (fun k => impl_isOrder.l0 k l0 (p ++ t) ((p ++ t).length : Int) (p.length : Int)) (isUp t p.length && decide ((l0.length : Int) ≤ 8))
 | [], p, _ => by
  refine Ev.ret fun k => ?_
  rw [impl_isOrder.l0, if_neg (by simp), isUp, Bool.true_and]
 | h :: t, p, hn => by
  have hn' : p.length + t.length + 1 ≤ 35184372088832 := by simpa [Nat.add_assoc] using hn
  have hm := len_mid p h t
  rw [isUp]
  by_cases c : h = (p.length : Int)
  ·have ih := zq66 l0 t (p ++ [h]) (by simp; omega)
   rw [zq1 p h t, zq0 p h] at ih
   rw [decide_eq_true c, Bool.true_and]
   refine Ev.step (fun k => ?_) ih
   show impl_isOrder.l0 (k + 1) l0 (p ++ h :: t) ((p ++ h :: t).length : Int) (p.length : Int) = _
   rw [impl_isOrder.l0, if_pos (by omega), if_pos (by omega), if_pos (by omega), rd_mid, if_pos c, w64 (by omega) (by omega)]
  ·rw [decide_eq_false c, Bool.false_and, Bool.false_and]
   refine Ev.ret fun k => ?_
   rw [impl_isOrder.l0, if_pos (by omega), if_pos (by omega), if_pos (by omega), rd_mid, if_neg c]
theorem zq67 (l : List Int) (hl : l.length ≤ 12) : Ev (fun k => impl_isOrder.f k l) (isUp (srt l) 0 && decide ((l.length : Int) ≤ 8)) := by
 refine Ev.bind (zq65 l hl) ?_
 exact zq66 l (srt l) [] (by have := (zq39 l).length_eq; simp; omega)

theorem zq68 (H L : List Int) (h8 : H.length ≤ 8) (hh : hts (-1) H = true) (hl : L.length = H.length) : ∀ (d i : Nat), 1 ≤ i → i + d = max 1 H.length →
  Ev (fun k => impl_isWalk.l0 k (i : Int) H L) (labsFrom H L d i)
 | 0, i, h1, hd => by
  refine Ev.ret fun k => ?_
  rw [impl_isWalk.l0, if_neg (by omega), labsFrom]
 | d + 1, i, h1, hd => by
  have ih := zq68 H L h8 hh hl d (i + 1) (by omega) (by omega)
  rw [show ((i + 1 : Nat) : Int) = (i : Int) + 1 by omega] at ih
  have hr := hts_rd h8 hh ((i : Int) - 1) (by omega) (by omega)
  rw [labsFrom]
  by_cases c1 : rd H i = rd H ((i : Int) - 1) + 1
  ·by_cases c2 : rd L ((i : Int) - 1) > rd L i
   ·rw [if_pos ⟨c1, c2⟩]
    refine Ev.ret fun k => ?_
    rw [impl_isWalk.l0, w64 (x := (i : Int) - 1) (by omega) (by omega), w64 (x := rd H ((i : Int) - 1) + 1) (by omega) (by omega), if_pos (by omega), if_pos (by omega), if_pos (by omega), if_pos (by omega), if_pos c1, if_pos (by omega), if_pos (by omega), if_pos c2]
   ·rw [if_neg (fun h => c2 h.2)]
    refine Ev.step (fun k => ?_) ih
    show impl_isWalk.l0 (k + 1) (i : Int) H L = _
    rw [impl_isWalk.l0, w64 (x := (i : Int) - 1) (by omega) (by omega), w64 (x := rd H ((i : Int) - 1) + 1) (by omega) (by omega), if_pos (by omega), if_pos (by omega), if_pos (by omega), if_pos (by omega), if_pos c1, if_pos (by omega), if_pos (by omega), if_neg c2, w64 (by omega) (by omega)]
  ·rw [if_neg (fun h => c1 h.1)]
   refine Ev.step (fun k => ?_) ih
   show impl_isWalk.l0 (k + 1) (i : Int) H L = _
   rw [impl_isWalk.l0, w64 (x := (i : Int) - 1) (by omega) (by omega), w64 (x := rd H ((i : Int) - 1) + 1) (by omega) (by omega), if_pos (by omega), if_pos (by omega), if_pos (by omega), if_pos (by omega), if_neg c1, w64 (by omega) (by omega)]
theorem zq69 (H L : List Int) : Ev (fun k => impl_isWalk.j0 k true H L) false :=
 Ev.ret fun k => by rw [impl_isWalk.j0, if_pos rfl]
theorem zq70 (H L : List Int) (hH : H.length ≤ 35184372088832) : Ev (fun k => impl_isWalk.f k H L) (goodW H L) := by
 refine Ev.bind (zq62 H hH) ?_
 cases c : decide (H.length ≤ 8) && hts (-1) H with
 | false =>
  rw [show goodW H L = false by rw [goodW, c, Bool.false_and]]
  exact Ev.congr (fun k => by rw [if_neg (by simp)]) (zq69 H L)
 | true =>
  have cc : H.length ≤ 8 ∧ hts (-1) H = true := by simpa using c
  refine Ev.congr (fun k => by rw [if_pos rfl]) ?_
  by_cases d : (L.length : Int) = (H.length : Int)
  ·refine Ev.congr (fun k => by rw [if_pos d]) ?_
   refine Ev.bind (zq67 L (by omega)) ?_
   have e8 : decide ((L.length : Int) ≤ 8) = true := decide_eq_true (by omega)
   rw [e8, Bool.and_true]
   have ho := zq48 L
   cases e : isUp (srt L) 0 with
   | false =>
    have : goodW H L = false := by
     refine Bool.eq_false_iff.2 fun h => ?_
     obtain ⟨_, _, h3, h4, _⟩ := (zq53 H L).1 h
     have := ho.2 ⟨(zq11 _ _ _).2 fun x hx => by have := h3 x hx; omega, h4⟩
     rw [e] at this
     cases this
    rw [this]
    exact Ev.congr (fun k => by rw [Bool.not_false]) (zq69 H L)
   | true =>
    obtain ⟨h1, h2⟩ := ho.1 e
    rw [d] at h1
    rw [show goodW H L = labsFrom H L (L.length - 1) 1 by rw [goodW, c, decide_eq_true d, h1, decide_eq_true h2, Bool.true_and, Bool.true_and, Bool.true_and, Bool.true_and]]
    refine Ev.step (fun k => by rw [impl_isWalk.j0, if_neg (by simp)]) ?_
    exact zq68 H L cc.1 cc.2 (by omega) (L.length - 1) 1 (by omega) (by omega)
  ·rw [show goodW H L = false by rw [goodW, decide_eq_false d, Bool.false_and, Bool.and_false]]
   exact Ev.congr (fun k => by rw [if_neg d]) (zq69 H L)

def isPair (H L : List Int) (i j : Int) : Prop := (rd H i = rd H j ∧ rd L i < rd L j) ∨ (rd H i = rd H j + 1 ∧ rd L i > rd L j)
instance (H L : List Int) (i j : Int) : Decidable (isPair H L i j) := by unfold isPair; infer_instance
def rowP (H L : List Int) (i : Int) : Nat → Nat → List (List Int) → List (List Int)
 | 0, _, out => out
 | d + 1, j, out => rowP H L i d (j + 1) (if isPair H L i j then out ++ [[i, (j : Int)]] else out)
theorem zq71 (H L : List Int) (i : Int) : ∀ (d j : Nat) (out : List (List Int)), (rowP H L i d j out).length ≤ out.length + d
 | 0, _, _ => Nat.le_refl _
 | d + 1, j, out => by
  rw [rowP]
  have := zq71 H L i d (j + 1) (if isPair H L i j then out ++ [[i, (j : Int)]] else out)
  split at this
  ·rename_i c
   rw [if_pos c]
   simp at this
   omega
  ·rename_i c
   rw [if_neg c]
   omega
def pairsS (H L : List Int) : Nat → Nat → List (List Int) → List (List Int)
 | 0, _, out => out
 | d + 1, i, out => pairsS H L d (i + 1) (rowP H L i d (i + 1) out)

theorem zq72 (H L : List Int) (hg : goodW H L = true) (x9 : Int) (i : Nat) (hi : i < L.length) (r : List (List Int)) : ∀ (d j : Nat) (out : List (List Int)), j + d = L.length → out.length + d ≤ 10000 →
  Ev (fun k => spec_waPairs.l0 k (rowP H L i d j out) x9 ((i : Int) + 1) H L) r →
  Ev (fun k => spec_waPairs.l1 k out (i : Int) (j : Int) x9 (i : Int) H L) r
 | 0, j, out, hd, ho, h => by
  obtain ⟨⟨h8, hh⟩, h2, _⟩ := (zq53 H L).1 hg
  refine Ev.step (fun k => ?_) h
  show spec_waPairs.l1 (k + 1) out (i : Int) (j : Int) x9 (i : Int) H L = _
  rw [spec_waPairs.l1, if_neg (by omega), w64 (by omega) (by omega)]
  rfl
 | d + 1, j, out, hd, ho, h => by
  obtain ⟨⟨h8, hh⟩, h2, _⟩ := (zq53 H L).1 hg
  have hHj := hts_rd h8 hh (j : Int) (by omega) (by omega)
  have ej : ((j + 1 : Nat) : Int) = (j : Int) + 1 := by omega
  rw [rowP] at h
  have ihT := fun hp : isPair H L i j => zq72 H L hg x9 i hi r d (j + 1) (out ++ [[(i : Int), (j : Int)]]) (by omega) (by simp; omega) (by rw [if_pos hp] at h; exact h)
  have ihF := fun hp : ¬ isPair H L i j => zq72 H L hg x9 i hi r d (j + 1) out (by omega) (by omega) (by rw [if_neg hp] at h; exact h)
  rw [ej] at ihT ihF
  have hu : ∀ k, spec_waPairs.l1 (k + 1) out (i : Int) (j : Int) x9 (i : Int) H L = if isPair H L i j then spec_waPairs.l1 k (out ++ [[(i : Int), (j : Int)]]) (i : Int) ((j : Int) + 1) x9 (i : Int) H L else spec_waPairs.l1 k out (i : Int) ((j : Int) + 1) x9 (i : Int) H L := fun k => by
   rw [spec_waPairs.l1, if_pos (by omega), if_pos (by omega), if_pos (by omega), if_pos (by omega), if_pos (by omega), w64 (x := rd H j + 1) (by omega) (by omega), w64 (x := (j : Int) + 1) (by omega) (by omega)]
   have l1 : (i : Int) < (L.length : Int) := by omega
   have l2 : out.length < 5864062014805 := by omega
   simp only [if_pos l1, if_pos l2]
   have no : (¬ (rd H i = rd H j ∧ rd L i < rd L j)) → (¬ (rd H i = rd H j + 1 ∧ rd L i > rd L j)) → ¬ isPair H L i j := fun h1 h2 h => h.elim h1 h2
   by_cases c1 : rd H i = rd H j
   ·by_cases c2 : rd L i < rd L j
    ·rw [if_pos c1, if_pos c2, if_pos (show isPair H L i j from .inl ⟨c1, c2⟩)]
    ·have c3 : ¬ rd H i = rd H j + 1 := by omega
     rw [if_pos c1, if_neg c2, if_neg c3, if_neg (no (fun h => c2 h.2) (fun h => c3 h.1))]
   ·by_cases c3 : rd H i = rd H j + 1
    ·by_cases c4 : rd L i > rd L j
     ·rw [if_neg c1, if_pos c3, if_pos c4, if_pos (show isPair H L i j from .inr ⟨c3, c4⟩)]
     ·rw [if_neg c1, if_pos c3, if_neg c4, if_neg (no (fun h => c1 h.1) (fun h => c4 h.2))]
    ·rw [if_neg c1, if_neg c3, if_neg (no (fun h => c1 h.1) (fun h => c3 h.1))]
  by_cases hp : isPair H L i j
  ·exact Ev.step (fun k => by rw [hu, if_pos hp]) (ihT hp)
  ·exact Ev.step (fun k => by rw [hu, if_neg hp]) (ihF hp)
theorem zq73 (H L : List Int) (hg : goodW H L = true) : ∀ (d i : Nat) (out : List (List Int)), i + d = L.length → out.length ≤ 10 * i →
  Ev (fun k => spec_waPairs.l0 k out (L.length : Int) (i : Int) H L) (pairsS H L d i out)
 | 0, i, out, hd, ho => by
  refine Ev.ret fun k => ?_
  rw [spec_waPairs.l0, if_neg (by omega), pairsS]
 | d + 1, i, out, hd, ho => by
  obtain ⟨⟨h8, hh⟩, h2, _⟩ := (zq53 H L).1 hg
  have hr := zq71 H L i d (i + 1) out
  have ih := zq73 H L hg d (i + 1) (rowP H L i d (i + 1) out) (by omega) (by omega)
  have e1 : ((i + 1 : Nat) : Int) = (i : Int) + 1 := by omega
  rw [e1] at ih
  rw [pairsS]
  refine Ev.step (f := fun k => spec_waPairs.l1 k out (i : Int) ((i + 1 : Nat) : Int) (L.length : Int) (i : Int) H L) (fun k => ?_) (zq72 H L hg _ i (by omega) _ d (i + 1) out (by omega) (by omega) ih)
  rw [spec_waPairs.l0, if_pos (by omega), w64 (by omega) (by omega), e1]
theorem zq74 (H L : List Int) (hg : goodW H L = true) : Ev (fun k => spec_waPairs.f k H L) (pairsS H L L.length 0 []) :=
 zq73 H L hg L.length 0 [] (by omega) (by simp)

theorem zq75 (H L : List Int) (hg : goodW H L = true) (x9 : List Int) (x10 : Int) (i : Nat) (hi : i < L.length) (r : List (List Int)) : ∀ (d j : Nat) (out : List (List Int)), j + d = L.length → out.length + d ≤ 10000 →
  Ev (fun k => impl_pairs.l0 k (rowP H L i d j out) x9 x10 ((i : Int) + 1) H L) r →
  Ev (fun k => impl_pairs.l1 k out (i : Int) (rd H i) (j : Int) x9 x10 (i : Int) H L) r
 | 0, j, out, hd, ho, h => by
  obtain ⟨⟨h8, hh⟩, h2, _⟩ := (zq53 H L).1 hg
  refine Ev.step (fun k => ?_) h
  show impl_pairs.l1 (k + 1) out (i : Int) (rd H i) (j : Int) x9 x10 (i : Int) H L = _
  rw [impl_pairs.l1, if_neg (by omega), w64 (by omega) (by omega)]
  rfl
 | d + 1, j, out, hd, ho, h => by
  obtain ⟨⟨h8, hh⟩, h2, _⟩ := (zq53 H L).1 hg
  have hHj := hts_rd h8 hh (j : Int) (by omega) (by omega)
  have ej : ((j + 1 : Nat) : Int) = (j : Int) + 1 := by omega
  rw [rowP] at h
  have ihT := fun hp : isPair H L i j => zq75 H L hg x9 x10 i hi r d (j + 1) (out ++ [[(i : Int), (j : Int)]]) (by omega) (by simp; omega) (by rw [if_pos hp] at h; exact h)
  have ihF := fun hp : ¬ isPair H L i j => zq75 H L hg x9 x10 i hi r d (j + 1) out (by omega) (by omega) (by rw [if_neg hp] at h; exact h)
  rw [ej] at ihT ihF
  have hu : ∀ k, impl_pairs.l1 (k + 1) out (i : Int) (rd H i) (j : Int) x9 x10 (i : Int) H L = if isPair H L i j then impl_pairs.l1 k (out ++ [[(i : Int), (j : Int)]]) (i : Int) (rd H i) ((j : Int) + 1) x9 x10 (i : Int) H L else impl_pairs.l1 k out (i : Int) (rd H i) ((j : Int) + 1) x9 x10 (i : Int) H L := fun k => by
   have l0 : (0 : Int) ≤ (i : Int) := by omega
   have l1 : (i : Int) < (L.length : Int) := by omega
   have l2 : out.length < 5864062014805 := by omega
   have l3 : (j : Int) < (L.length : Int) := by omega
   rw [impl_pairs.l1, if_pos (by omega), if_pos (by omega), w64 (x := rd H j + 1) (by omega) (by omega), w64 (x := (j : Int) + 1) (by omega) (by omega)]
   simp only [if_pos l0, if_pos l1, if_pos l2, if_pos l3]
   have no : (¬ (rd H i = rd H j ∧ rd L i < rd L j)) → (¬ (rd H i = rd H j + 1 ∧ rd L i > rd L j)) → ¬ isPair H L i j := fun h1 h2 h => h.elim h1 h2
   by_cases c1 : rd H i = rd H j
   ·by_cases c2 : rd L i < rd L j
    ·rw [if_pos c1, if_pos c2, if_pos (show isPair H L i j from .inl ⟨c1, c2⟩)]
    ·have c3 : ¬ rd H i = rd H j + 1 := by omega
     rw [if_pos c1, if_neg c2, if_neg c3, if_neg (no (fun h => c2 h.2) (fun h => c3 h.1))]
   ·by_cases c3 : rd H i = rd H j + 1
    ·by_cases c4 : rd L i > rd L j
     ·rw [if_neg c1, if_pos c3, if_pos c4, if_pos (show isPair H L i j from .inr ⟨c3, c4⟩)]
     ·rw [if_neg c1, if_pos c3, if_neg c4, if_neg (no (fun h => c1 h.1) (fun h => c4 h.2))]
    ·rw [if_neg c1, if_neg c3, if_neg (no (fun h => c1 h.1) (fun h => c3 h.1))]
  by_cases hp : isPair H L i j
  ·exact Ev.step (fun k => by rw [hu, if_pos hp]) (ihT hp)
  ·exact Ev.step (fun k => by rw [hu, if_neg hp]) (ihF hp)
theorem zq76 (H L : List Int) (hg : goodW H L = true) : ∀ (d i : Nat) (out : List (List Int)), i + d = L.length → out.length ≤ 10 * i →
  Ev (fun k => impl_pairs.l0 k out H (H.length : Int) (i : Int) H L) (pairsS H L d i out)
 | 0, i, out, hd, ho => by
  obtain ⟨⟨h8, hh⟩, h2, _⟩ := (zq53 H L).1 hg
  refine Ev.ret fun k => ?_
  rw [impl_pairs.l0, if_neg (by omega), pairsS]
 | d + 1, i, out, hd, ho => by
  obtain ⟨⟨h8, hh⟩, h2, _⟩ := (zq53 H L).1 hg
  have hr := zq71 H L i d (i + 1) out
  have ih := zq76 H L hg d (i + 1) (rowP H L i d (i + 1) out) (by omega) (by omega)
  have e1 : ((i + 1 : Nat) : Int) = (i : Int) + 1 := by omega
  rw [e1] at ih
  rw [pairsS]
  refine Ev.step (f := fun k => impl_pairs.l1 k out (i : Int) (rd H i) ((i + 1 : Nat) : Int) H (H.length : Int) (i : Int) H L) (fun k => ?_) (zq75 H L hg _ _ i (by omega) _ d (i + 1) out (by omega) (by omega) ih)
  rw [impl_pairs.l0, if_pos (by omega), if_pos (by omega), if_pos (by omega), w64 (by omega) (by omega), e1]
theorem zq77 (H L : List Int) (hg : goodW H L = true) : Ev (fun k => impl_pairs.f k H L) (pairsS H L L.length 0 []) :=
 zq76 H L hg L.length 0 [] (by omega) (by simp)

theorem zq78 (H L : List Int) (i : Int) : ∀ (d j : Nat) (out : List (List Int)), (∀ x ∈ out, x.length = 2) → ∀ x ∈ rowP H L i d j out, x.length = 2
 | 0, _, _, h => h
 | d + 1, j, out, h => by
  rw [rowP]
  refine zq78 H L i d (j + 1) _ fun x hx => ?_
  split at hx
  ·rcases List.mem_append.1 hx with h1 | h1
   ·exact h x h1
   ·rw [List.mem_singleton.1 h1]; rfl
  ·exact h x hx
theorem zq79 (H L : List Int) : ∀ (d i : Nat) (out : List (List Int)), (∀ x ∈ out, x.length = 2) → ∀ x ∈ pairsS H L d i out, x.length = 2
 | 0, _, _, h => h
 | d + 1, i, out, h => zq79 H L d (i + 1) _ (zq78 H L i d (i + 1) out h)
theorem zq80 (H L : List Int) : ∀ (d i : Nat) (out : List (List Int)), (pairsS H L d i out).length ≤ out.length + d * d
 | 0, _, out => by simp [pairsS]
 | d + 1, i, out => by
  rw [pairsS]
  have h1 := zq80 H L d (i + 1) (rowP H L i d (i + 1) out)
  have h2 := zq71 H L i d (i + 1) out
  have e : (d + 1) * (d + 1) = d * d + d + d + 1 := by rw [Nat.add_mul, Nat.mul_add]; omega
  omega

theorem zq81 (q : Int → Bool) (x : Int) : ∀ (l : List Int) (i : Int), places q (l ++ [x]) i = places q l i ++ (if q x = true then [i + (l.length : Int)] else [])
 | [], i => by
  rw [List.nil_append, places]
  split
  ·rename_i c
   simp [places, c]
  ·rename_i c
   simp [places, c]
 | h :: t, i => by
  have ih := zq81 q x t (i + 1)
  rw [List.cons_append, places, places, ih]
  have e : i + 1 + (t.length : Int) = i + ((h :: t).length : Int) := by rw [List.length_cons]; omega
  rw [e]
  split <;> simp
def dnW (H L : List Int) (h : Int) (d : Nat) : List Int := (places (fun n => decide (n = h)) (H.take d) 0).reverse.map (fun i => rd L i)
theorem zq82 (H L : List Int) (h : Int) : dnW H L h 0 = [] := by simp [dnW, places]
theorem zq83 (H L : List Int) (h : Int) (d : Nat) (hd : d < H.length) : dnW H L h (d + 1) = (if rd H (d : Int) = h then [rd L (d : Int)] else []) ++ dnW H L h d := by
 have e : H.take (d + 1) = H.take d ++ [rd H (d : Int)] := by
  rw [List.take_add_one, List.getElem?_eq_getElem hd, rd_nat, List.getD_eq_getElem?_getD, List.getElem?_eq_getElem hd]
  rfl
 have hl : (H.take d).length = d := by rw [List.length_take]; omega
 unfold dnW
 rw [e, zq81, hl]
 by_cases c : rd H (d : Int) = h
 ·rw [if_pos (by simpa using c), if_pos c]
  simp
 ·rw [if_neg (by simpa using c), if_neg c]
  simp
theorem zq84 (H L : List Int) (h : Int) (d : Nat) : (dnW H L h d).length ≤ H.length := by
 unfold dnW
 rw [List.length_map, List.length_reverse]
 have h1 := zq23 (fun n => decide (n = h)) (H.take d) 0
 have h2 : ∀ (l : List Int) (i : Int), (places (fun n => decide (n = h)) l i).length ≤ l.length := fun l => by
  induction l with
  | nil => intro i; simp [places]
  | cons x t ih =>
   intro i
   rw [places]
   have := ih (i + 1)
   split
   ·simp; omega
   ·simp; omega
 exact Nat.le_trans (h2 _ _) (by rw [List.length_take]; omega)
def rdAllW (H L : List Int) : Nat → List Int → List Int
 | 0, out => out
 | d + 1, out => rdAllW H L d (out ++ dnW H L (d : Int) H.length)
theorem zq85 (H L : List Int) (h8 : H.length ≤ 8) (hl : L.length = H.length) (h : Int) (r : List Int × Bool) : ∀ (d : Nat) (out : List Int), d ≤ H.length → out.length ≤ 1000 + (8 - d) →
  0 ≤ h → h ≤ 100 → Ev (fun k => spec_ReadingOf.l0 k (out ++ dnW H L h d) (h - 1) H L) r → Ev (fun k => spec_ReadingOf.l1 k out h ((d : Int) - 1) H L) r
 | 0, out, hd, ho, h0, h1, hr => by
  rw [zq82, List.append_nil] at hr
  refine Ev.step (fun k => ?_) hr
  show spec_ReadingOf.l1 (k + 1) out h (((0 : Nat) : Int) - 1) H L = _
  rw [spec_ReadingOf.l1, if_neg (by omega), w64 (by omega) (by omega)]
 | d + 1, out, hd, ho, h0, h1, hr => by
  rw [zq83 H L h d (by omega), ← List.append_assoc] at hr
  by_cases c : rd H (d : Int) = h
  ·rw [if_pos c] at hr
   have ih := zq85 H L h8 hl h r d (out ++ [rd L (d : Int)]) (by omega) (by simp; omega) h0 h1 hr
   refine Ev.step (fun k => ?_) ih
   show spec_ReadingOf.l1 (k + 1) out h (((d + 1 : Nat) : Int) - 1) H L = _
   rw [show ((d + 1 : Nat) : Int) - 1 = (d : Int) by omega, spec_ReadingOf.l1, if_pos (by omega), if_pos (by omega), if_pos (by omega), if_pos c, if_pos (by omega), if_pos (by omega), w64 (by omega) (by omega)]
  ·rw [if_neg c, List.append_nil] at hr
   have ih := zq85 H L h8 hl h r d out (by omega) (by omega) h0 h1 hr
   refine Ev.step (fun k => ?_) ih
   show spec_ReadingOf.l1 (k + 1) out h (((d + 1 : Nat) : Int) - 1) H L = _
   rw [show ((d + 1 : Nat) : Int) - 1 = (d : Int) by omega, spec_ReadingOf.l1, if_pos (by omega), if_pos (by omega), if_pos (by omega), if_neg c, w64 (by omega) (by omega)]
theorem zq86 (H L : List Int) (h8 : H.length ≤ 8) (hl : L.length = H.length) : ∀ (d : Nat) (out : List Int), d ≤ 9 → out.length + 8 * d ≤ 72 → Ev (fun k => spec_ReadingOf.l0 k out ((d : Int) - 1) H L) (rdAllW H L d out, true)
 | 0, out, _, _ => by
  refine Ev.ret fun k => ?_
  rw [spec_ReadingOf.l0, if_neg (by omega), rdAllW]
 | d + 1, out, hd, ho => by
  have hn := zq84 H L (d : Int) H.length
  have ih := zq86 H L h8 hl d (out ++ dnW H L (d : Int) H.length) (by omega) (by rw [List.length_append]; omega)
  have h1 := zq85 H L h8 hl (d : Int) _ H.length out (Nat.le_refl _) (by omega) (by omega) (by omega) ih
  rw [rdAllW]
  refine Ev.step (fun k => ?_) h1
  show spec_ReadingOf.l0 (k + 1) out (((d + 1 : Nat) : Int) - 1) H L = _
  rw [show ((d + 1 : Nat) : Int) - 1 = (d : Int) by omega, spec_ReadingOf.l0, if_pos (by omega), hl, w64 (by omega) (by omega)]
theorem zq87 (H L : List Int) (h8 : H.length ≤ 8) (hl : L.length = H.length) : ∀ (d : Nat) (out : List Int), d ≤ 9 → out.length + 8 * d ≤ 72 → Ev (fun k => impl_ReadingOf.down k H L d out) (rdAllW H L d out)
 | 0, out, _, _ => Ev.ret fun k => by rw [impl_ReadingOf.down, rdAllW]
 | d + 1, out, hd, ho => by
  have hn := zq84 H L (d : Int) H.length
  have ih := zq87 H L h8 hl d (out ++ dnW H L (d : Int) H.length) (by omega) (by rw [List.length_append]; omega)
  rw [rdAllW]
  refine Ev.congr (fun k => by rw [impl_ReadingOf.down]) ?_
  refine Ev.bind ?_ ih
  refine Ev.congr (fun k => by rw [impl_ReadingOf.step]) ?_
  have hi : Ev (fun k => impl_ReadingOf_1.f k H (d : Int)) (places (fun n => decide (n = (d : Int))) H 0) := zq27 _ H (by omega)
  refine Ev.bind hi ?_
  have hc : (places (fun n => decide (n = (d : Int))) H 0).length ≤ 100 ∧ out.length ≤ 1000 ∧ ∀ i ∈ places (fun n => decide (n = (d : Int))) H 0, 0 ≤ i ∧ i < (L.length : Int) := by
   refine ⟨?_, by omega, ?_⟩
   ·unfold dnW at hn
    rw [List.length_map, List.length_reverse, List.take_length] at hn
    omega
   ·intro i hi
    obtain ⟨j, v, h1, _, h2⟩ := (zq24 _ i H 0).1 hi
    have := (List.getElem?_eq_some_iff.1 h1).1
    omega
  refine Ev.congr (fun k => by rw [if_pos hc]) ?_
  have e : dnW H L (d : Int) H.length = (places (fun n => decide (n = (d : Int))) H 0).reverse.map (fun i => rd L i) := by rw [dnW, List.take_length]
  rw [e]
  exact Ev.now _
theorem zq88 (l m : List Int) (hm : m.length ≤ 35184372088832) : Ev (fun k => spec_ReadingOf.f k l m) (if goodW l m = true then (rdAllW l m (l.length + 1) [], true) else ([], false)) := by
 refine Ev.bind (zq58 l m hm) ?_
 cases c : goodW l m with
 | false => rw [if_neg (by simp)]; exact Ev.now _
 | true =>
  obtain ⟨⟨h8, _⟩, h2, _⟩ := (zq53 l m).1 c
  rw [if_pos rfl]
  refine Ev.congr (fun k => by rw [if_pos rfl]) ?_
  have := zq86 l m h8 h2 (l.length + 1) [] (by omega) (by simp; omega)
  rwa [show ((l.length + 1 : Nat) : Int) - 1 = (l.length : Int) by omega] at this
theorem zq89 (l m : List Int) (hl : l.length ≤ 35184372088832) : Ev (fun k => impl_ReadingOf.f k l m) (if goodW l m = true then (rdAllW l m (l.length + 1) [], true) else ([], false)) := by
 refine Ev.bind (zq70 l m hl) ?_
 cases c : goodW l m with
 | false => rw [if_neg (by simp)]; exact Ev.now _
 | true =>
  obtain ⟨⟨h8, _⟩, h2, _⟩ := (zq53 l m).1 c
  rw [if_pos rfl]
  refine Ev.congr (fun k => by rw [if_pos rfl, if_pos (by omega)]) ?_
  refine Ev.bind (zq87 l m h8 h2 (l.length + 1) [] (by omega) (by simp; omega)) ?_
  exact Ev.now _
def rdI (H : List Int) : Nat → List Int
 | 0 => []
 | d + 1 => (places (fun n => decide (n = (d : Int))) H 0).reverse ++ rdI H d
theorem zq90 (H L : List Int) : ∀ (d : Nat) (out : List Int), rdAllW H L d out = out ++ (rdI H d).map (fun i => rd L i)
 | 0, out => by simp [rdAllW, rdI]
 | d + 1, out => by
  rw [rdAllW, zq90 H L d, rdI, dnW, List.take_length, List.map_append, List.append_assoc]
def Ahead (H : List Int) (i j : Int) : Prop := rd H i > rd H j ∨ (rd H i = rd H j ∧ i > j)
theorem zq91 (H : List Int) (h x : Int) : x ∈ places (fun n => decide (n = h)) H 0 ↔ ∃ j : Nat, j < H.length ∧ x = (j : Int) ∧ rd H x = h := by
 rw [zq24]
 constructor
 ·rintro ⟨j, v, h1, h2, h3⟩
  obtain ⟨h4, h5⟩ := List.getElem?_eq_some_iff.1 h1
  refine ⟨j, h4, by omega, ?_⟩
  rw [show x = (j : Int) by omega, rd_nat, List.getD_eq_getElem?_getD, h1]
  simpa using h2
 ·rintro ⟨j, h1, rfl, h2⟩
  refine ⟨j, H[j], List.getElem?_eq_getElem h1, ?_, by omega⟩
  rw [rd_nat, List.getD_eq_getElem?_getD, List.getElem?_eq_getElem h1] at h2
  simpa using h2
theorem rdI_mem (H : List Int) (x : Int) : ∀ d : Nat, x ∈ rdI H d ↔ ∃ j : Nat, j < H.length ∧ x = (j : Int) ∧ 0 ≤ rd H x ∧ rd H x < (d : Int)
 | 0 => by
  simp only [rdI, List.not_mem_nil, false_iff]
  rintro ⟨j, _, _, h1, h2⟩
  omega
 | d + 1 => by
  rw [rdI, List.mem_append, List.mem_reverse, zq91, rdI_mem H x d]
  constructor
  ·rintro (⟨j, h1, h2, h3⟩ | ⟨j, h1, h2, h3, h4⟩)
   ·exact ⟨j, h1, h2, by omega, by omega⟩
   ·exact ⟨j, h1, h2, h3, by omega⟩
  ·rintro ⟨j, h1, h2, h3, h4⟩
   by_cases e : rd H x = (d : Int)
   ·exact .inl ⟨j, h1, h2, e⟩
   ·exact .inr ⟨j, h1, h2, h3, by omega⟩
theorem zq92 (H : List Int) : ∀ d : Nat, (rdI H d).Pairwise (Ahead H)
 | 0 => by simp [rdI]
 | d + 1 => by
  rw [rdI, List.pairwise_append]
  refine ⟨?_, zq92 H d, fun a ha b hb => ?_⟩
  ·rw [List.pairwise_reverse]
   refine List.Pairwise.imp_of_mem (fun {a b} ha hb hab => ?_) (zq25 _ H 0)
   obtain ⟨_, _, _, e1⟩ := (zq91 H _ a).1 ha
   obtain ⟨_, _, _, e2⟩ := (zq91 H _ b).1 hb
   exact .inr ⟨by omega, by omega⟩
  ·obtain ⟨_, _, _, e1⟩ := (zq91 H _ a).1 (List.mem_reverse.1 ha)
   obtain ⟨_, _, _, _, e2⟩ := (rdI_mem H b d).1 hb
   exact .inl (by omega)
theorem zq93 (R : List Int) (x : Int) (p : Nat) (hp : p < R.length) (hR : R.length ≤ 1000) (hx : rd R (p : Int) = x) (hf : ∀ q : Nat, q < p → rd R (q : Int) ≠ x) : ∀ (d i : Nat), i + d = p → Ev (fun k => laws_wPlace.l0 k x R (R.length : Int) (i : Int)) (p : Int)
 | 0, i, hd => by
  obtain rfl : i = p := by omega
  exact Ev.ret fun k => by rw [laws_wPlace.l0, if_pos (by omega), if_pos (by omega), if_pos (by omega), if_pos hx]
 | d + 1, i, hd => by
  have ih := zq93 R x p hp hR hx hf d (i + 1) (by omega)
  exact Ev.step (fun k => by rw [laws_wPlace.l0, if_pos (by omega), if_pos (by omega), if_pos (by omega), if_neg (hf i (by omega)), w64 (by omega) (by omega), show (i : Int) + 1 = ((i + 1 : Nat) : Int) by omega]) ih
theorem rd_map (I L : List Int) (p : Nat) (hp : p < I.length) : rd (I.map fun i => rd L i) (p : Int) = rd L I[p] := by
 rw [rd_nat, List.getD_eq_getElem?_getD, List.getElem?_map, List.getElem?_eq_getElem hp]
 rfl
theorem zq94 {H L : List Int} (hg : goodW H L = true) (j : Nat) (hj : j < H.length) : 0 ≤ rd H (j : Int) ∧ rd H (j : Int) < ((H.length + 1 : Nat) : Int) := by
 obtain ⟨⟨h8, hh⟩, _⟩ := (zq53 H L).1 hg
 have := hts_mem H (-1) hh _ (rd_mem H (j : Int) (by omega) (by omega))
 omega
theorem zq95 (H : List Int) (d : Nat) : (rdI H d).Nodup := (zq92 H d).imp fun {a b} h e => by
 subst e
 rcases h with h | h
 ·omega
 ·omega
theorem zq96 {H L : List Int} (hg : goodW H L = true) : (rdI H (H.length + 1)).length = H.length := by
 have e : srt (rdI H (H.length + 1)) = iota H.length 0 := by
  refine zq41 _ _ (zq42 _ (zq95 H _)) (zq44 _ _) fun x => ?_
  rw [(zq39 _).mem_iff, rdI_mem, zq43]
  constructor
  ·rintro ⟨j, h1, h2, _⟩
   omega
  ·intro h
   have := zq94 hg x.toNat (by omega)
   rw [show ((x.toNat : Nat) : Int) = x by omega] at this
   exact ⟨x.toNat, by omega, by omega, this.1, this.2⟩
 rw [← (zq39 (rdI H (H.length + 1))).length_eq, e, zq45]
theorem rd_inj2 {l : List Int} (h : l.Nodup) {i j : Int} (hi0 : 0 ≤ i) (hi : i < l.length) (hj0 : 0 ≤ j) (hj : j < l.length) (e : rd l i = rd l j) : i = j := by
 unfold rd at e
 rw [List.getD_eq_getElem?_getD, List.getD_eq_getElem?_getD, List.getElem?_eq_getElem (by omega), List.getElem?_eq_getElem (by omega)] at e
 have e' : l[i.toNat]'(by omega) = l[j.toNat]'(by omega) := e
 rcases Nat.lt_trichotomy i.toNat j.toNat with h1 | h1 | h1
 ·exact absurd e' (zq36 h h1 (by omega))
 ·omega
 ·exact absurd e'.symm (zq36 h h1 (by omega))
theorem zq97 {H L : List Int} (hg : goodW H L = true) (i j : Nat) (hi : i < H.length) (hj : j < H.length) (ha : Ahead H (i : Int) (j : Int)) :
  ∃ p q : Int, p < q ∧ Ev (fun k => laws_wPlace.f k (rdAllW H L (H.length + 1) []) (rd L (i : Int))) p ∧ Ev (fun k => laws_wPlace.f k (rdAllW H L (H.length + 1) []) (rd L (j : Int))) q := by
 obtain ⟨⟨h8, _⟩, hl, _, hnd, _⟩ := (zq53 H L).1 hg
 have hlen := zq96 hg
 have hpw := zq92 H (H.length + 1)
 have hmem : ∀ m : Nat, m < H.length → (m : Int) ∈ rdI H (H.length + 1) := fun m hm => (rdI_mem H _ _).2 ⟨m, hm, rfl, (zq94 hg m hm).1, (zq94 hg m hm).2⟩
 have hat : ∀ m : Nat, m < H.length → ∃ p : Nat, ∃ hp : p < (rdI H (H.length + 1)).length, (rdI H (H.length + 1))[p] = (m : Int) ∧ Ev (fun k => laws_wPlace.f k (rdAllW H L (H.length + 1) []) (rd L (m : Int))) (p : Int) := by
  intro m hm
  obtain ⟨p, hp, e⟩ := List.mem_iff_getElem.1 (hmem m hm)
  refine ⟨p, hp, e, ?_⟩
  rw [zq90, List.nil_append]
  have hR : ((rdI H (H.length + 1)).map fun i => rd L i).length = H.length := by rw [List.length_map, hlen]
  exact zq93 _ (rd L (m : Int)) p (by omega) (by omega) (by rw [rd_map _ _ _ hp, e]) (fun q hq he => by
   have hq' : q < (rdI H (H.length + 1)).length := by omega
   rw [rd_map _ _ _ hq'] at he
   obtain ⟨j', hj', ej, _⟩ := (rdI_mem H _ _).1 (List.getElem_mem hq')
   rw [ej] at he
   have := rd_inj2 hnd (i := (j' : Int)) (j := (m : Int)) (by omega) (by omega) (by omega) (by omega) he
   have h3 := List.pairwise_iff_getElem.1 hpw q p hq' hp hq
   rw [ej, e, this] at h3
   rcases h3 with h3 | h3
   ·omega
   ·omega) p 0 (by omega)
 obtain ⟨p, hp, ep, evp⟩ := hat i hi
 obtain ⟨q, hq, eq_, evq⟩ := hat j hj
 refine ⟨p, q, ?_, evp, evq⟩
 rcases Nat.lt_trichotomy p q with h | h | h
 ·omega
 ·subst h
  rw [ep] at eq_
  rw [eq_] at ha
  rcases ha with h3 | h3
  ·omega
  ·omega
 ·have h3 := List.pairwise_iff_getElem.1 hpw q p hq hp h
  rw [ep, eq_] at h3
  rcases ha with h4 | h4 <;> rcases h3 with h5 | h5 <;> omega
theorem zq98 (H L : List Int) (i : Int) (Q : List Int → Prop) : ∀ (d j : Nat) (out : List (List Int)), (∀ x ∈ out, Q x) → (∀ j' : Nat, j ≤ j' → j' < j + d → isPair H L i (j' : Int) → Q [i, (j' : Int)]) → ∀ x ∈ rowP H L i d j out, Q x
 | 0, _, _, h, _ => h
 | d + 1, j, out, h, hp => by
  rw [rowP]
  refine zq98 H L i Q d (j + 1) _ (fun x hx => ?_) (fun j' h1 h2 h3 => hp j' (by omega) (by omega) h3)
  split at hx
  ·rename_i c
   rcases List.mem_append.1 hx with h1 | h1
   ·exact h x h1
   ·rw [List.mem_singleton.1 h1]; exact hp j (by omega) (by omega) c
  ·exact h x hx
theorem zq99 (H L : List Int) (n : Nat) : ∀ (d i : Nat) (out : List (List Int)), i + d = n → (∀ x ∈ out, ∃ i j : Nat, x = [(i : Int), (j : Int)] ∧ i < j ∧ j < n ∧ isPair H L i j) → ∀ x ∈ pairsS H L d i out, ∃ i j : Nat, x = [(i : Int), (j : Int)] ∧ i < j ∧ j < n ∧ isPair H L i j
 | 0, _, _, _, h => h
 | d + 1, i, out, hd, h => by
  rw [pairsS]
  exact zq99 H L n d (i + 1) _ (by omega) (zq98 H L (i : Int) _ d (i + 1) out h (fun j' h1 h2 h3 => ⟨i, j', rfl, by omega, by omega, h3⟩))

theorem zq100 (L : List Int) (hl : L.length ≤ 1000000) : ∀ (d i : Nat), i + d = L.length → Ev (fun k => laws_wSame.l0 k L L (L.length : Int) (i : Int)) true
 | 0, i, hd => Ev.ret fun k => by rw [laws_wSame.l0, if_neg (by omega)]
 | d + 1, i, hd => by
  have ih := zq100 L hl d (i + 1) (by omega)
  rw [show ((i + 1 : Nat) : Int) = (i : Int) + 1 by omega] at ih
  refine Ev.step (fun k => ?_) ih
  show laws_wSame.l0 (k + 1) L L (L.length : Int) (i : Int) = _
  rw [laws_wSame.l0, if_pos (by omega), if_pos (by omega), if_pos (by omega), if_pos (by omega), if_pos rfl, w64 (by omega) (by omega)]
theorem zq101 (L : List Int) (hl : L.length ≤ 1000000) : Ev (fun k => laws_wSame.f k L L) true :=
 Ev.congr (fun k => by rw [laws_wSame.f, if_pos rfl]; rfl) (zq100 L hl L.length 0 (by omega))

theorem zq102 (L : List (List Int)) (hl : L.length ≤ 1000000) (hx : ∀ x ∈ L, x.length ≤ 1000000) : ∀ (d i : Nat), i + d = L.length → Ev (fun k => laws_wSameLists.l0 k L L (L.length : Int) (i : Int)) true
 | 0, i, hd => Ev.ret fun k => by rw [laws_wSameLists.l0, if_neg (by omega)]
 | d + 1, i, hd => by
  have ih := zq102 L hl hx d (i + 1) (by omega)
  rw [show ((i + 1 : Nat) : Int) = (i : Int) + 1 by omega] at ih
  have hm : (rd_L2 L i).length ≤ 1000000 := by
   refine hx _ ?_
   unfold rd_L2
   rw [Int.toNat_natCast, List.getD_eq_getElem?_getD, List.getElem?_eq_getElem (by omega)]
   exact List.getElem_mem _
  refine Ev.step (fun k => by rw [laws_wSameLists.l0, if_pos (by omega), if_pos (by omega), if_pos (by omega), if_pos (by omega)]) (Ev.bind (zq101 (rd_L2 L i) hm) ?_)
  exact Ev.congr (fun k => by rw [if_pos rfl, w64 (by omega) (by omega)]) ih
theorem zq103 (L : List (List Int)) (hl : L.length ≤ 1000000) (hx : ∀ x ∈ L, x.length ≤ 1000000) : Ev (fun k => laws_wSameLists.f k L L) true :=
 Ev.congr (fun k => by rw [laws_wSameLists.f, if_pos rfl]; rfl) (zq102 L hl hx L.length 0 (by omega))

theorem zq104 (H L : List Int) (hg : goodW H L = true) (P : List (List Int)) (hP : P.length ≤ 1000) (hA : ∀ x ∈ P, ∃ i j : Nat, x = [(i : Int), (j : Int)] ∧ i < j ∧ j < L.length ∧ isPair H L i j) : ∀ (d x : Nat), x + d = P.length →
  Ev (fun k => laws_FnPairsOfWalks.l0 k (rdAllW H L (H.length + 1) []) P (P.length : Int) (x : Int) H L) true
 | 0, x, hd => Ev.ret fun k => by rw [laws_FnPairsOfWalks.l0, if_neg (by omega)]
 | d + 1, x, hd => by
  have ih := zq104 H L hg P hP hA d (x + 1) (by omega)
  have hl : L.length = H.length := ((zq53 H L).1 hg).2.1
  have hh := zq94 hg
  have h8 := ((zq53 H L).1 hg).1.1
  obtain ⟨i, j, e, hij, hj, hp⟩ := hA (rd_L2 P (x : Int)) (by
   rw [rd_L2, Int.toNat_natCast, List.getD_eq_getElem?_getD, List.getElem?_eq_getElem (by omega)]
   exact List.getElem_mem _)
  have r0 : rd [(i : Int), (j : Int)] 0 = (i : Int) := rfl
  have r1 : rd [(i : Int), (j : Int)] 1 = (j : Int) := rfl
  have n2 : (([(i : Int), (j : Int)] : List Int).length : Int) = 2 := rfl
  have hhi := hh i (by omega)
  have hhj := hh j (by omega)
  have fin : ∀ (b : Bool), Ev (fun k => laws_FnPairsOfWalks.l0 k (rdAllW H L (H.length + 1) []) P (P.length : Int) (wrap64 ((x : Int) + 1)) H L) true := fun _ => Ev.congr (fun k => by rw [w64 (by omega) (by omega), show (x : Int) + 1 = ((x + 1 : Nat) : Int) by omega]) ih
  rcases hp with ⟨h1, h2⟩ | ⟨h1, h2⟩
  ·obtain ⟨p, q, hpq, ep, eq_⟩ := zq97 hg j i (by omega) (by omega) (.inr ⟨h1.symm, by omega⟩)
   refine Ev.step (fun k => by rw [laws_FnPairsOfWalks.l0, if_pos (by omega), if_pos (by omega), if_pos (by omega), e, n2, if_pos (by omega), if_pos (by omega), r0, r1, if_pos (by omega), if_pos (by omega), if_pos (by omega), if_pos (by omega), if_pos h1, if_pos (by omega), if_pos (by omega), decide_eq_true h2]) ?_
   refine Ev.step (fun k => by rw [laws_FnPairsOfWalks.j3, if_pos (by omega), if_pos (by omega), if_pos (by omega), if_pos (by omega), w64 (by omega) (by omega), if_neg (by omega)]) ?_
   refine Ev.step (fun k => by rw [laws_FnPairsOfWalks.j4, if_neg (by simp)]) ?_
   refine Ev.step (fun k => by rw [laws_FnPairsOfWalks.j5, if_neg (by omega), if_pos rfl, if_pos (by omega), if_pos (by omega)]) ?_
   refine Ev.bind eq_ ?_
   refine Ev.congr (fun k => by rw [if_pos (by omega), if_pos (by omega)]) (Ev.bind ep ?_)
   exact Ev.congr (fun k => by rw [if_neg (by omega)]) (fin true)
  ·obtain ⟨p, q, hpq, ep, eq_⟩ := zq97 hg i j (by omega) (by omega) (.inl (by omega))
   refine Ev.step (fun k => by rw [laws_FnPairsOfWalks.l0, if_pos (by omega), if_pos (by omega), if_pos (by omega), e, n2, if_pos (by omega), if_pos (by omega), r0, r1, if_pos (by omega), if_pos (by omega), if_pos (by omega), if_pos (by omega), if_neg (by omega)]) ?_
   refine Ev.step (fun k => by rw [laws_FnPairsOfWalks.j3, if_pos (by omega), if_pos (by omega), if_pos (by omega), if_pos (by omega), w64 (by omega) (by omega), if_pos h1, if_pos (by omega), if_pos (by omega), decide_eq_true h2]) ?_
   refine Ev.step (fun k => by rw [laws_FnPairsOfWalks.j4, if_pos rfl]) ?_
   refine Ev.step (fun k => by rw [laws_FnPairsOfWalks.j5, if_neg (by omega), if_neg (by simp), if_pos rfl, if_pos (by omega), if_pos (by omega)]) ?_
   refine Ev.bind eq_ ?_
   refine Ev.congr (fun k => by rw [if_pos (by omega), if_pos (by omega)]) (Ev.bind ep ?_)
   exact Ev.congr (fun k => by rw [if_neg (by omega)]) (fin true)
theorem FnPairsOfWalks : laws_FnPairsOfWalks.Pure := by
 intro l0 l1 hm0 _ hw0 hm1 _ hw1
 have hbig : ∃ b, laws_big.f l0 l1 = some b := by
  unfold laws_big.f
  by_cases c : (l0.length : Int) > 1048576
  ·rw [if_pos c]; exact ⟨true, rfl⟩
  ·rw [if_neg c]; exact ⟨_, rfl⟩
 obtain ⟨b, hb⟩ := hbig
 cases b with
 | true => exact ⟨0, by rw [laws_FnPairsOfWalks.f, hb]; rfl⟩
 | false =>
  have hc0 : ∀ x ∈ l0, 0 ≤ x ∧ x ≤ 255 := fun x hx => by
   have := hw0 x hx
   simpa [Lit.wf, IntKind.min, IntKind.max, IntKind.signed, IntKind.bits] using this
  obtain ⟨H, L, a, s, hH, hL, eD⟩ := zq34 l0 hc0
  have hD : Ev (fun k => spec_DrawPairsOf.f k l0) (H, L) := Ev.bind eD (Ev.now _)
  refine Ev.rounds ?_
  refine Ev.congr (fun k => by rw [laws_FnPairsOfWalks.f, hb, Option.bind_some, if_neg (by simp)]) (Ev.bind hD ?_)
  have eR1 := zq89 H L (by omega)
  have eR2 := zq88 H L (by omega)
  cases c : goodW H L with
  | false =>
   rw [c, if_neg (by simp)] at eR1 eR2
   have e1 : Ev (fun k => impl_PairsOf.f k H L) (([] : List (List Int)), false) := by
    refine Ev.bind (zq70 H L (by omega)) ?_
    rw [c]; exact Ev.now _
   have e2 : Ev (fun k => spec_PairsOf.f k H L) (([] : List (List Int)), false) := by
    refine Ev.bind (zq58 H L (by omega)) ?_
    rw [c]; exact Ev.now _
   have e3 : Ev (fun k => impl_PairCount.f k H L) ((0 : Int), false) := by
    refine Ev.bind (zq70 H L (by omega)) ?_
    rw [c]; exact Ev.now _
   refine Ev.bind e1 (Ev.bind e2 (Ev.bind e3 (Ev.bind eR1 (Ev.bind eR2 ?_))))
   refine Ev.congr (fun k => by rw [bne_self_eq_false, if_neg (by simp)]) (Ev.bind (zq103 [] (by simp) (by simp)) ?_)
   refine Ev.congr (fun k => by rw [if_pos rfl, if_neg (by simp), if_neg (by simp)]) (Ev.bind (zq101 [] (by simp)) ?_)
   refine Ev.congr (fun k => by rw [if_pos rfl]) ?_
   exact Ev.ret fun k => by rw [laws_FnPairsOfWalks.j0, if_neg (by simp), if_neg (by simp)]
  | true =>
   rw [c, if_pos rfl] at eR1 eR2
   obtain ⟨⟨h8, _⟩, hl, _⟩ := (zq53 H L).1 c
   have h1 := zq80 H L L.length 0 []
   have h3 := zq79 H L L.length 0 [] (by simp)
   have h4 := zq99 H L L.length L.length 0 [] (by omega) (by simp)
   have hsq : L.length * L.length ≤ 8 * 8 := Nat.mul_le_mul (by omega) (by omega)
   have hpl : (pairsS H L L.length 0 []).length ≤ 100 := by simp at h1; omega
   have hrl : (rdAllW H L (H.length + 1) []).length = H.length := by rw [zq90, List.nil_append, List.length_map, zq96 c]
   have e1 : Ev (fun k => impl_PairsOf.f k H L) (pairsS H L L.length 0 [], true) := by
    refine Ev.bind (zq70 H L (by omega)) ?_
    rw [c]
    exact Ev.congr (fun k => by rw [if_pos rfl]) (Ev.bind (zq77 H L c) (Ev.now _))
   have e2 : Ev (fun k => spec_PairsOf.f k H L) (pairsS H L L.length 0 [], true) := by
    refine Ev.bind (zq58 H L (by omega)) ?_
    rw [c]
    exact Ev.congr (fun k => by rw [if_pos rfl]) (Ev.bind (zq74 H L c) (Ev.now _))
   have e3 : Ev (fun k => impl_PairCount.f k H L) (((pairsS H L L.length 0 []).length : Int), true) := by
    refine Ev.bind (zq70 H L (by omega)) ?_
    rw [c]
    exact Ev.congr (fun k => by rw [if_pos rfl]) (Ev.bind (zq77 H L c) (Ev.now _))
   refine Ev.bind e1 (Ev.bind e2 (Ev.bind e3 (Ev.bind eR1 (Ev.bind eR2 ?_))))
   refine Ev.congr (fun k => by rw [bne_self_eq_false, if_neg (by simp)]) (Ev.bind (zq103 (pairsS H L L.length 0 []) (by omega) (fun x hx => by rw [h3 x hx]; omega)) ?_)
   refine Ev.congr (fun k => by rw [if_pos rfl, if_neg (by simp), if_neg (by simp)]) (Ev.bind (zq101 (rdAllW H L (H.length + 1) []) (by rw [hrl]; omega)) ?_)
   refine Ev.congr (fun k => by rw [if_pos rfl]) ?_
   have hb2 : (((rdAllW H L (H.length + 1) []).length : Int) != (L.length : Int)) = false := by rw [hrl, hl]; exact bne_self_eq_false _
   refine Ev.step (f := fun k => laws_FnPairsOfWalks.j1 k (pairsS H L L.length 0 []) (rdAllW H L (H.length + 1) []) false H L) (fun k => by rw [laws_FnPairsOfWalks.j0, if_neg (by simp), if_pos rfl, if_pos rfl]; show laws_FnPairsOfWalks.j1 k _ _ (((rdAllW H L (H.length + 1) []).length : Int) != (L.length : Int)) H L = _; rw [hb2]) ?_
   exact Ev.step (fun k => by rw [laws_FnPairsOfWalks.j1, if_neg (by simp)]; rfl) (zq104 H L c _ (by omega) h4 (pairsS H L L.length 0 []).length 0 (by omega))

end Go.Proofs.Ytkbdjbmalpkkfaa.Pure
