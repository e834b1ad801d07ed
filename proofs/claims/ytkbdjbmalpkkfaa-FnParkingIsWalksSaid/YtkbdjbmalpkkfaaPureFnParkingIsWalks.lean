/- Favourites and walks are carried to each other, the area is the total distance, and the touches are the cuts, for every drawn list and walk. -/
import Derived.Test.YtkbdjbmalpkkfaaVFnParkingIsWalksSized
import Derived.Test.YtkbdjbmalpkkfaaPFnParkingIsWalksx
import Derived.Laws.BitsLemmas
import Derived.Lib.EndianBits
namespace Go.Proofs.Ytkbdjbmalpkkfaa.PrintWords
set_option linter.defProp false in
def sized_ints := @Go.Proofs.YtkbdjbmalpkkfaaW.PrintWords.sized_ints
end Go.Proofs.Ytkbdjbmalpkkfaa.PrintWords
namespace Go.Proofs.Ytkbdjbmalpkkfaa.Pure
open Go.RowKit Go.Proofs.Ytkbdjbmalpkkfaa.PFnParkingIsWalks Go.Proofs.YtkbdjbmalpkkfaaW.PrintWords Go.Proofs.YtkbdjbmalpkkfaaW.PrintLast
set_option linter.unusedVariables false
set_option linter.unusedSimpArgs false

theorem w64 {x : Int} (h0 : -9223372036854775808 ≤ x) (h1 : x ≤ 9223372036854775807) : wrap64 x = x := by
 unfold wrap64
 omega
theorem rd_mid (p : List Int) (h : Int) (t : List Int) : rd (p ++ h :: t) (p.length : Int) = h := by
 unfold rd
 simp
theorem rd_nat (l : List Int) (i : Nat) : rd l (i : Int) = l.getD i 0 := by
 unfold rd
 simp
theorem Ev.ret {α : Type} {g : Nat → Option α} {r : α} (h : ∀ k, g (k + 1) = some r) : Ev g r :=
 Ev.step (f := fun _ => some r) h (Ev.now r)

theorem zq0 (p : List Int) (h : Int) : (((p ++ [h]).length : Nat) : Int) = (p.length : Int) + 1 := by simp
theorem zq1 (p : List Int) (h : Int) (t : List Int) : (p ++ [h]) ++ t = p ++ h :: t := by simp
theorem len_mid (p : List Int) (h : Int) (t : List Int) : ((p ++ h :: t).length : Int) = (p.length : Int) + t.length + 1 := by simp; omega

theorem and255 (x : Int) (h0 : 0 ≤ x) (h1 : x < 18446744073709551616) : 0 ≤ Go.bits .and .u64 x 255 ∧ Go.bits .and .u64 x 255 ≤ 255 := by
 have h : Go.bits .and .u64 x 255 = x % 256 := bits_mask .u64 64 (by decide) wraps_u64 8 (by decide) x h0 h1
 rw [h]
 omega
theorem wrapu (x : Int) : 0 ≤ IntKind.u64.wrap x ∧ IntKind.u64.wrap x < 18446744073709551616 := by
 rw [IntKind.wrap_u64]
 omega
theorem zq2 (code : List Int) (hc : ∀ x ∈ code, 0 ≤ x ∧ x ≤ 255) (at_ seed : Int) (h0 : 0 ≤ at_) (h1 : at_ ≤ 1000000000000) :
  ∃ b s, spec_l1Cur_next.f code at_ seed = some (b, at_ + 1, s) ∧ 0 ≤ b ∧ b ≤ 255 := by
 have fin : ∀ q : Int, 0 ≤ wrap64 (Go.bits .and .u64 (IntKind.u64.wrap q / 1099511627776) 255) ∧ wrap64 (Go.bits .and .u64 (IntKind.u64.wrap q / 1099511627776) 255) ≤ 255 := fun q => by
  have hq := wrapu q
  have := and255 (IntKind.u64.wrap q / 1099511627776) (by omega) (by omega)
  rw [w64 (by omega) (by omega)]
  exact this
 unfold spec_l1Cur_next.f
 rw [w64 (x := at_ + 1) (by omega) (by omega)]
 by_cases c : at_ < (code.length : Int)
 ·have hb : 0 ≤ rd code at_ ∧ rd code at_ ≤ 255 := by
   refine hc _ ?_
   unfold rd
   rw [List.getD_eq_getElem?_getD, List.getElem?_eq_getElem (by omega)]
   exact List.getElem_mem _
  rw [if_pos c, if_pos h0]
  by_cases d : at_ + 1 ≤ (code.length : Int)
  ·rw [if_pos d]
   exact ⟨_, _, rfl, by rw [w64 (by omega) (by omega)]; exact hb⟩
  ·rw [if_neg d]
   exact ⟨_, _, rfl, fin _⟩
 ·rw [if_neg c]
  by_cases d : at_ + 1 ≤ (code.length : Int)
  ·rw [if_pos d]
   exact ⟨_, _, rfl, by omega, by omega⟩
  ·rw [if_neg d]
   exact ⟨_, _, rfl, fin _⟩
def Rdy (at_ : Int) (n : Int) : Prop := 0 ≤ at_ ∧ at_ ≤ n
theorem Rdy.mono {a n m : Int} (h : Rdy a n) (hm : n ≤ m) : Rdy a m := ⟨h.1, Int.le_trans h.2 hm⟩
theorem zq3 (code : List Int) (hc : ∀ x ∈ code, 0 ≤ x ∧ x ≤ 255) (at_ seed n : Int) (b : Int) (h : Rdy at_ b) (hb : b ≤ 100000000000) :
  ∃ v a s, spec_l1Cur_pick.f code at_ seed n = some (v, a, s) ∧ 0 ≤ v ∧ (v = 0 ∨ v < n) ∧ Rdy a (b + 2) := by
 obtain ⟨h0, h1⟩ := h
 unfold spec_l1Cur_pick.f
 by_cases c : n ≤ 1
 ·rw [if_pos c]
  exact ⟨0, at_, seed, rfl, by omega, .inl rfl, h0, by omega⟩
 ·rw [if_neg c]
  obtain ⟨x, s, e, hx0, hx1⟩ := zq2 code hc at_ seed h0 (by omega)
  rw [e, Option.bind_some]
  by_cases d : n > 200
  ·rw [if_pos d]
   obtain ⟨y, s2, e2, hy0, hy1⟩ := zq2 code hc (at_ + 1) s (by omega) (by omega)
   simp only [e2, Option.bind_some]
   rw [if_neg (by omega), w64 (x := x * 256) (by omega) (by omega), w64 (by omega) (by omega)]
   exact ⟨_, _, _, rfl, Int.tmod_nonneg _ (by omega), .inr (Int.tmod_lt_of_pos _ (by omega)), by omega, by omega⟩
  ·rw [if_neg d, if_neg (by omega)]
   exact ⟨_, _, _, rfl, Int.tmod_nonneg _ (by omega), .inr (Int.tmod_lt_of_pos _ (by omega)), by show 0 ≤ at_ + 1; omega, by show at_ + 1 ≤ b + 2; omega⟩

theorem zq4 (code : List Int) (hc : ∀ x ∈ code, 0 ≤ x ∧ x ≤ 255) (at_ seed : Int) (l : List Int) (hl : 1 ≤ l.length) (b : Int) (h : Rdy at_ b) (hb : b ≤ 100000000000) :
  ∃ v a s, spec_l1Cur_among.f code at_ seed l = some (v, a, s) ∧ v ∈ l ∧ Rdy a (b + 2) := by
 obtain ⟨v, a, s, e, h0, h1, h2⟩ := zq3 code hc at_ seed (l.length : Int) b h hb
 unfold spec_l1Cur_among.f
 rw [e, Option.bind_some]
 have hlt : v < (l.length : Int) := by omega
 show ∃ v' a' s', (if 0 ≤ v then (if v < (l.length : Int) then some (rd l v, a, s) else none) else none) = some (v', a', s') ∧ _
 rw [if_pos h0, if_pos hlt]
 refine ⟨_, _, _, rfl, ?_, h2⟩
 unfold rd
 rw [List.getD_eq_getElem?_getD, List.getElem?_eq_getElem (by omega)]
 exact List.getElem_mem _

theorem zq5 (l : List Int) (h : l.length < 17592186044416) : spec_l1Own.f l = some l := by
 unfold spec_l1Own.f
 simp only [Option.bind_some]
 rw [if_pos (by simp; omega)]
 simp

theorem park_l1 (code : List Int) (a s : Int) : ∀ (d : Nat) (l : List Int), l.length + d = 9 ∨ (d = 0 ∧ 9 ≤ l.length) → l.length ≤ 100000 →
  ∃ r : List Int, r.length ≤ l.length + d ∧ Ev (fun k => spec_l1Cur_park.l1 k l code a s) (r, a, s)
 | 0, l, h, hl => ⟨l, by omega, Ev.ret fun k => by rw [spec_l1Cur_park.l1, if_neg (by omega)]⟩
 | d + 1, l, h, hl => by
  obtain ⟨r, h1, h2⟩ := park_l1 code a s d (l ++ [0]) (by simp; omega) (by simp; omega)
  rw [List.length_append, List.length_singleton] at h1
  refine ⟨r, by omega, Ev.step (fun k => ?_) h2⟩
  show spec_l1Cur_park.l1 (k + 1) l code a s = _
  rw [spec_l1Cur_park.l1, if_pos (by omega), if_pos (by omega)]
theorem park_l0 (code : List Int) (hc : ∀ x ∈ code, 0 ≤ x ∧ x ≤ 255) : ∀ (d : Nat) (l : List Int) (at_ seed b : Int), d ≤ 1000 → l.length + d ≤ 2000 → Rdy at_ b → b + 4 * d ≤ 100000 →
  ∃ (r : List Int) (a s : Int), r.length ≤ l.length + d + 10 ∧ Rdy a (b + 4 * d + 10) ∧ Ev (fun k => spec_l1Cur_park.l0 k l (d : Int) code at_ seed) (r, a, s)
 | 0, l, at_, seed, b, hd, hl, hr, hb => by
  obtain ⟨w, a1, s1, e1, w0, w1, r1⟩ := zq3 code hc at_ seed 20 b hr (by omega)
  by_cases c0 : w = 0
  ·obtain ⟨x, a2, s2, e2, x0, r2⟩ := zq4 code hc a1 s1 [-1, 0, (l.length : Int), wrap64 ((l.length : Int) + 1), 99, 100] (by simp) (b + 2) r1 (by omega)
   refine ⟨l ++ [x], a2, s2, by simp, r2.mono (by omega), Ev.ret fun k => ?_⟩
   rw [spec_l1Cur_park.l0, if_neg (by omega), e1, Option.bind_some, if_pos c0, e2, Option.bind_some, if_pos (by omega)]
  ·by_cases c1 : w = 1
   ·by_cases c2 : (l.length : Int) > 0
    ·obtain ⟨x, a2, s2, e2, x0, x1, r2⟩ := zq3 code hc a1 s1 (l.length : Int) (b + 2) r1 (by omega)
     obtain ⟨y, a3, s3, e3, y0, y1, r3⟩ := zq3 code hc a2 s2 (l.length : Int) (b + 2 + 2) r2 (by omega)
     refine ⟨l.set x.toNat y, a3, s3, by rw [List.length_set]; omega, r3.mono (by omega), Ev.ret fun k => ?_⟩
     rw [spec_l1Cur_park.l0, if_neg (by omega), e1, Option.bind_some, if_neg c0, if_pos c1, if_pos c2, e2, Option.bind_some]
     simp only [e3, Option.bind_some]
     rw [if_pos x0, if_pos (by omega)]
    ·refine ⟨l, a1, s1, by omega, r1.mono (by omega), Ev.ret fun k => ?_⟩
     rw [spec_l1Cur_park.l0, if_neg (by omega), e1, Option.bind_some, if_neg c0, if_pos c1, if_neg c2]
   ·by_cases c2 : w = 2
    ·obtain ⟨r, h1, h2⟩ := park_l1 code a1 s1 (9 - l.length) l (by omega) (by omega)
     refine ⟨r, a1, s1, by omega, r1.mono (by omega), Ev.step (fun k => ?_) h2⟩
     rw [spec_l1Cur_park.l0, if_neg (by omega), e1, Option.bind_some, if_neg c0, if_neg c1, if_pos c2]
    ·refine ⟨l, a1, s1, by omega, r1.mono (by omega), Ev.ret fun k => ?_⟩
     rw [spec_l1Cur_park.l0, if_neg (by omega), e1, Option.bind_some, if_neg c0, if_neg c1, if_neg c2]
 | d + 1, l, at_, seed, b, hd, hl, hr, hb => by
  obtain ⟨x, a1, s1, e1, x0, x1, r1⟩ := zq3 code hc at_ seed ((l.length : Int) + 1) b hr (by omega)
  obtain ⟨y, a2, s2, e2, y0, y1, r2⟩ := zq3 code hc a1 s1 ((l.length : Int) + 1) (b + 2) r1 (by omega)
  obtain ⟨r, a, s, h1, h2, h3⟩ := park_l0 code hc d (l.take y.toNat ++ [x] ++ l.drop y.toNat) a2 s2 (b + 2 + 2) (by omega) (by simp; omega) r2 (by omega)
  have hlen : (l.take y.toNat ++ [x] ++ l.drop y.toNat).length = l.length + 1 := by simp; omega
  refine ⟨r, a, s, by omega, h2.mono (by omega), Ev.step (fun k => ?_) h3⟩
  show spec_l1Cur_park.l0 (k + 1) l ((d + 1 : Nat) : Int) code at_ seed = _
  have ho : spec_l1Own.f (l.take y.toNat) = some (l.take y.toNat) := zq5 _ (by simp; omega)
  have w1 : wrap64 ((l.length : Int) + 1) = (l.length : Int) + 1 := w64 (by omega) (by omega)
  have w2 : wrap64 (((d + 1 : Nat) : Int) - 1) = (d : Int) := by rw [w64 (by omega) (by omega)]; omega
  rw [spec_l1Cur_park.l0, if_pos (by omega), w1, w2, e1, Option.bind_some]
  simp only [e2, Option.bind_some]
  rw [if_pos y0, if_pos (by omega), ho, Option.bind_some, if_pos (by simp; omega), if_pos (by simp; omega)]
theorem zq6 (code : List Int) (hc : ∀ x ∈ code, 0 ≤ x ∧ x ≤ 255) (at_ seed : Int) (most : Nat) (hm : most ≤ 100) (b : Int) (h : Rdy at_ b) (hb : b ≤ 10000) :
  ∃ (r : List Int) (a s : Int), r.length ≤ 200 ∧ Rdy a (b + 1000) ∧ Ev (fun k => spec_l1Cur_park.f k code at_ seed (most : Int)) (r, a, s) := by
 obtain ⟨n, a1, s1, e1, n0, n1, r1⟩ := zq3 code hc at_ seed ((most : Int) + 1) b h (by omega)
 obtain ⟨r, a, s, h1, h2, h3⟩ := park_l0 code hc n.toNat [] a1 s1 (b + 2) (by omega) (by simp; omega) r1 (by omega)
 rw [show ((n.toNat : Nat) : Int) = n by omega] at h2 h3
 simp only [List.length_nil] at h1
 refine ⟨r, a, s, by omega, h2.mono (by omega), Ev.congr (fun k => ?_) h3⟩
 show spec_l1Cur_park.f k code at_ seed (most : Int) = _
 rw [spec_l1Cur_park.f, w64 (by omega) (by omega), e1, Option.bind_some]

theorem zq7 (code : List Int) (hc : ∀ x ∈ code, 0 ≤ x ∧ x ≤ 255) : ∀ (d : Nat) (l : List Int) (last at_ seed b : Int), d ≤ 1000 → l.length + d ≤ 2000 → -1 ≤ last → last ≤ l.length → (∀ x ∈ l, 0 ≤ x ∧ x ≤ l.length) → Rdy at_ b → b + 4 * d ≤ 100000 →
  ∃ (r : List Int) (a s : Int), r.length ≤ l.length + d + 10 ∧ Rdy a (b + 4 * d + 10) ∧ Ev (fun k => spec_l1Cur_heights.l0 k l last (d : Int) code at_ seed) (r, a, s)
 | 0, l, last, at_, seed, b, hd, hl, h0, h1, hm, hr, hb => by
  obtain ⟨w, a1, s1, e1, w0, w1, r1⟩ := zq3 code hc at_ seed 14 b hr (by omega)
  by_cases c0 : w = 0
  ·obtain ⟨x, a2, s2, e2, x0, x1, r2⟩ := zq3 code hc a1 s1 4 (b + 2) r1 (by omega)
   refine ⟨l ++ [wrap64 (x - 1)], a2, s2, by simp, r2.mono (by omega), Ev.ret fun k => ?_⟩
   rw [spec_l1Cur_heights.l0, if_neg (by omega), e1, Option.bind_some, if_pos c0, e2, Option.bind_some, if_pos (by omega)]
  ·by_cases c1 : w = 1
   ·obtain ⟨x, a2, s2, e2, x0, x1, r2⟩ := zq3 code hc a1 s1 2 (b + 2) r1 (by omega)
    have hw : wrap64 (8 + x) = 8 + x := w64 (by omega) (by omega)
    refine ⟨List.replicate (8 + x).toNat 0, a2, s2, by rw [List.length_replicate]; omega, r2.mono (by omega), Ev.ret fun k => ?_⟩
    rw [spec_l1Cur_heights.l0, if_neg (by omega), e1, Option.bind_some, if_neg c0, if_pos c1, e2, Option.bind_some]
    simp only [hw]
    rw [if_pos (by omega), if_pos (by omega)]
   ·refine ⟨l, a1, s1, by omega, r1.mono (by omega), Ev.ret fun k => ?_⟩
    rw [spec_l1Cur_heights.l0, if_neg (by omega), e1, Option.bind_some, if_neg c0, if_neg c1]
 | d + 1, l, last, at_, seed, b, hd, hl, h0, h1, hm, hr, hb => by
  obtain ⟨v, a1, s1, e1, v0, v1, r1⟩ := zq3 code hc at_ seed (last + 2) b hr (by omega)
  obtain ⟨y, a2, s2, e2, y0, y1, r2⟩ := zq3 code hc a1 s1 4 (b + 2) r1 (by omega)
  have e3 : spec_l1Cur_one.f code a1 s1 4 = some ((y == 0), a2, s2) := by rw [spec_l1Cur_one.f, e2, Option.bind_some]
  have w2 : wrap64 (((d + 1 : Nat) : Int) - 1) = (d : Int) := by rw [w64 (by omega) (by omega)]; omega
  have w1 : wrap64 (last + 2) = last + 2 := w64 (by omega) (by omega)
  have plain : ∃ (r : List Int) (a s : Int), r.length ≤ l.length + (d + 1) + 10 ∧ Rdy a (b + 4 * ((d + 1 : Nat) : Int) + 10) ∧ Ev (fun k => spec_l1Cur_heights.l0 k (l ++ [v]) v (d : Int) code a2 s2) (r, a, s) := by
   obtain ⟨r, a, s, h5, h6, h7⟩ := zq7 code hc d (l ++ [v]) v a2 s2 (b + 2 + 2) (by omega) (by simp; omega) (by omega) (by simp; omega) (fun x hx => by
    rw [List.length_append, List.length_singleton]
    rcases List.mem_append.1 hx with h | h
    ·have := hm x h; omega
    ·have := List.mem_singleton.1 h; omega) r2 (by omega)
   rw [List.length_append, List.length_singleton] at h5
   exact ⟨r, a, s, by omega, h6.mono (by omega), h7⟩
  by_cases c : y = 0
  ·have hy : (y == 0) = true := by simpa using c
   by_cases cl : (l.length : Int) > 0
   ·have wl : wrap64 ((l.length : Int) - 1) = (l.length : Int) - 1 := w64 (by omega) (by omega)
    have hx := hm (rd l ((l.length : Int) - 1)) (by
     unfold rd
     rw [List.getD_eq_getElem?_getD, List.getElem?_eq_getElem (by omega)]
     exact List.getElem_mem _)
    obtain ⟨q, hq⟩ : ∃ q, q = rd l ((l.length : Int) - 1) := ⟨_, rfl⟩
    rw [← hq] at hx
    have wq : wrap64 (q + 1) = q + 1 := w64 (by omega) (by omega)
    obtain ⟨r, a, s, h5, h6, h7⟩ := zq7 code hc d (l ++ [q + 1]) (q + 1) a2 s2 (b + 2 + 2) (by omega) (by simp; omega) (by omega) (by simp; omega) (fun x hx => by
     rw [List.length_append, List.length_singleton]
     rcases List.mem_append.1 hx with h | h
     ·have := hm x h; omega
     ·have := List.mem_singleton.1 h; omega) r2 (by omega)
    rw [List.length_append, List.length_singleton] at h5
    refine ⟨r, a, s, by omega, h6.mono (by omega), Ev.step (fun k => ?_) h7⟩
    show spec_l1Cur_heights.l0 (k + 1) l last ((d + 1 : Nat) : Int) code at_ seed = _
    rw [spec_l1Cur_heights.l0, if_pos (by omega), w1, w2, e1, Option.bind_some]
    simp only [e3, Option.bind_some]
    rw [hy, if_pos rfl, if_pos cl, wl, if_pos (by omega), if_pos (by omega), if_pos (by omega), ← hq, wq]
   ·obtain ⟨r, a, s, h5, h6, h7⟩ := plain
    refine ⟨r, a, s, by omega, h6, Ev.step (fun k => ?_) h7⟩
    show spec_l1Cur_heights.l0 (k + 1) l last ((d + 1 : Nat) : Int) code at_ seed = _
    rw [spec_l1Cur_heights.l0, if_pos (by omega), w1, w2, e1, Option.bind_some]
    simp only [e3, Option.bind_some]
    rw [hy, if_pos rfl, if_neg cl, if_pos (by omega)]
  ·have hy : (y == 0) = false := by simpa using c
   obtain ⟨r, a, s, h5, h6, h7⟩ := plain
   refine ⟨r, a, s, by omega, h6, Ev.step (fun k => ?_) h7⟩
   show spec_l1Cur_heights.l0 (k + 1) l last ((d + 1 : Nat) : Int) code at_ seed = _
   rw [spec_l1Cur_heights.l0, if_pos (by omega), w1, w2, e1, Option.bind_some]
   simp only [e3, Option.bind_some]
   rw [hy, if_neg (by simp), if_pos (by omega)]
theorem zq8 (code : List Int) (hc : ∀ x ∈ code, 0 ≤ x ∧ x ≤ 255) (at_ seed : Int) (most : Nat) (hm : most ≤ 100) (b : Int) (h : Rdy at_ b) (hb : b ≤ 10000) :
  ∃ (r : List Int) (a s : Int), r.length ≤ 200 ∧ Rdy a (b + 1000) ∧ Ev (fun k => spec_l1Cur_heights.f k code at_ seed (most : Int)) (r, a, s) := by
 obtain ⟨n, a1, s1, e1, n0, n1, r1⟩ := zq3 code hc at_ seed ((most : Int) + 1) b h (by omega)
 obtain ⟨r, a, s, h1, h2, h3⟩ := zq7 code hc n.toNat [] (-1) a1 s1 (b + 2) (by omega) (by simp; omega) (by omega) (by simp) (by simp) r1 (by omega)
 rw [show ((n.toNat : Nat) : Int) = n by omega] at h2 h3
 simp only [List.length_nil] at h1
 refine ⟨r, a, s, by omega, h2.mono (by omega), Ev.congr (fun k => ?_) h3⟩
 show spec_l1Cur_heights.f k code at_ seed (most : Int) = _
 rw [spec_l1Cur_heights.f, w64 (by omega) (by omega), e1, Option.bind_some]

def seek (out : List Int) : Nat → Int → Int
 | 0, _ => -1
 | d + 1, x => if x ∈ out then seek out d (x + 1) else x
theorem zq9 (out : List Int) : ∀ (d : Nat) (x : Int), seek out d x = -1 ∨ x ≤ seek out d x ∧ seek out d x < x + d ∧ seek out d x ∉ out
 | 0, x => .inl rfl
 | d + 1, x => by
  simp only [seek]
  by_cases c : x ∈ out
  ·rw [if_pos c]
   rcases zq9 out d (x + 1) with h | ⟨h1, h2, h3⟩
   ·exact .inl h
   ·exact .inr ⟨by omega, by omega, h3⟩
  ·rw [if_neg c]
   exact .inr ⟨by omega, by omega, c⟩
def driveS (places : Int) (out : List Int) : List Int → List Int
 | [] => out
 | c :: t => driveS places (out ++ [seek out (places - c).toNat c]) t
theorem zq10 (places : Int) : ∀ (t out : List Int), ∃ s, s.length = t.length ∧ driveS places out t = out ++ s
 | [], out => ⟨[], rfl, by simp [driveS]⟩
 | c :: t, out => by
  obtain ⟨s, hl, h⟩ := zq10 places t (out ++ [seek out (places - c).toNat c])
  exact ⟨seek out (places - c).toNat c :: s, by simp [hl], by rw [driveS, h]; simp⟩
theorem zq11 (places : Int) (t out : List Int) : (driveS places out t).length = out.length + t.length := by
 obtain ⟨s, hl, h⟩ := zq10 places t out
 rw [h]; simp [hl]
def Tk (places : Int) (out : List Int) (taken : List Bool) : Prop :=
 (taken.length : Int) = places ∧ ∀ j : Nat, (j : Int) < places → taken.getD j false = decide ((j : Int) ∈ out)
theorem Tk.at {places : Int} {out : List Int} {taken : List Bool} (h : Tk places out taken) (x : Int) (h0 : 0 ≤ x) (h1 : x < places) : rdOf false taken x = decide (x ∈ out) := by
 have := h.2 x.toNat (by omega)
 have e : ((x.toNat : Nat) : Int) = x := by omega
 rw [e] at this
 exact this
theorem Tk.take {places : Int} {out : List Int} {taken : List Bool} (h : Tk places out taken) (x : Int) (h0 : 0 ≤ x) (h1 : x < places) : Tk places (out ++ [x]) (taken.set x.toNat true) := by
 refine ⟨by simp [h.1], fun j hj => ?_⟩
 have hl := h.1
 have hx : x.toNat < taken.length := by omega
 have hjl : j < taken.length := by omega
 have e := h.2 j hj
 rw [List.getD_eq_getElem?_getD] at e ⊢
 by_cases c : x.toNat = j
 ·rw [c, List.getElem?_set_self (by omega)]
  have : (j : Int) ∈ out ++ [x] := by simp; right; omega
  simp [this]
 ·rw [List.getElem?_set_ne c, e]
  refine decide_eq_decide.2 ?_
  have : (j : Int) ≠ x := by omega
  simp [this]
theorem Tk.none (places : Int) (h0 : 0 ≤ places) : Tk places [] (List.replicate places.toNat false) := by
 refine ⟨by simp; omega, fun j hj => ?_⟩
 rw [List.getD_eq_getElem?_getD, List.getElem?_replicate]
 split <;> simp

def inAll (lo hi : Int) (l : List Int) : Bool := l.all fun n => decide (lo ≤ n) && decide (n ≤ hi)
theorem zq12 (lo hi : Int) (l : List Int) : inAll lo hi l = true ↔ ∀ x ∈ l, lo ≤ x ∧ x ≤ hi := by
 simp [inAll, List.all_eq_true]
theorem zq13 (lo hi x : Int) (l : List Int) : inAll lo hi (x :: l) = ((decide (lo ≤ x) && decide (x ≤ hi)) && inAll lo hi l) := by
 simp [inAll]

def pf (l : List Int) : Bool := decide (l.length ≤ 8) && (inAll 0 ((l.length : Int) - 1) l && !(decide ((-1 : Int) ∈ driveS l.length [] l)))
theorem pf_iff (l : List Int) : pf l = true ↔ l.length ≤ 8 ∧ (∀ x ∈ l, 0 ≤ x ∧ x ≤ (l.length : Int) - 1) ∧ (-1 : Int) ∉ driveS l.length [] l := by
 simp only [pf, Bool.and_eq_true, decide_eq_true_eq, zq12, Bool.not_eq_true', decide_eq_false_iff_not]
theorem zq14 (places : Int) : ∀ (t out : List Int), (∃ c ∈ t, places ≤ c) → (-1 : Int) ∈ driveS places out t
 | [], out, h => by obtain ⟨c, hc, _⟩ := h; cases hc
 | c :: t, out, h => by
  rw [driveS]
  by_cases d : places ≤ c
  ·rw [show (places - c).toNat = 0 by omega]
   obtain ⟨s, _, hs⟩ := zq10 places t (out ++ [seek out 0 c])
   rw [hs]
   simp [seek]
  ·refine zq14 places t _ ?_
   obtain ⟨x, hx, h1⟩ := h
   rcases List.mem_cons.1 hx with rfl | h2
   ·exact absurd h1 d
   ·exact ⟨x, h2, h1⟩

theorem zq15 (x : Int) : ∀ (t p : List Int), p.length + t.length ≤ 35184372088832 →
  Ev (fun k => spec_l1Has.l0 k x (p ++ t) ((p ++ t).length : Int) (p.length : Int)) (decide (x ∈ t))
 | [], p, _ => by
  refine Ev.ret fun k => ?_
  rw [spec_l1Has.l0, if_neg (by simp)]
  simp
 | h :: t, p, hn => by
  have hn' : p.length + t.length + 1 ≤ 35184372088832 := by simpa [Nat.add_assoc] using hn
  have hm := len_mid p h t
  by_cases c : h = x
  ·rw [decide_eq_true (by simp [c] : x ∈ h :: t)]
   refine Ev.ret fun k => ?_
   rw [spec_l1Has.l0, if_pos (by omega), if_pos (by omega), if_pos (by omega), rd_mid, if_pos c]
  ·have ih := zq15 x t (p ++ [h]) (by simp; omega)
   rw [zq1, zq0] at ih
   have e : decide (x ∈ h :: t) = decide (x ∈ t) := decide_eq_decide.2 (by simp [Ne.symm c])
   rw [e]
   refine Ev.step (fun k => ?_) ih
   show spec_l1Has.l0 (k + 1) x (p ++ h :: t) ((p ++ h :: t).length : Int) (p.length : Int) = _
   rw [spec_l1Has.l0, if_pos (by omega), if_pos (by omega), if_pos (by omega), rd_mid, if_neg c, w64 (by omega) (by omega)]
theorem zq16 (l : List Int) (x : Int) (hl : l.length ≤ 35184372088832) : Ev (fun k => spec_l1Has.f k l x) (decide (x ∈ l)) :=
 zq15 x l [] (by simpa using hl)

theorem zq17 (places : Int) (cars : List Int) (n i : Int) (out : List Int) (ho : out.length ≤ 1000) (r : List Int) : ∀ (d : Nat) (x : Int), x + d = places → 0 ≤ x → places ≤ 1000 →
  Ev (fun k => spec_paDrive.l0 k places (out ++ [seek out d x]) cars n (wrap64 (i + 1))) r → Ev (fun k => spec_paDrive.l1 k places out x cars n i) r
 | 0, x, hx, h0, hp, h => by
  refine Ev.step (fun k => ?_) h
  show spec_paDrive.l1 (k + 1) places out x cars n i = _
  rw [spec_paDrive.l1, if_neg (by omega), if_pos (by omega), if_pos (by omega)]
  rfl
 | d + 1, x, hx, h0, hp, h => by
  by_cases c : x ∈ out
  ·have ih := zq17 places cars n i out ho r d (x + 1) (by omega) (by omega) hp (by rw [seek, if_pos c] at h; exact h)
   refine Ev.step (f := fun k => (spec_l1Has.f k out x).bind fun t => if t = true then spec_paDrive.l1 k places out (wrap64 (x + 1)) cars n i else if x ≥ places then if out.length < 17592186044416 then spec_paDrive.l0 k places (out ++ [-1]) cars n (wrap64 (i + 1)) else none else if out.length < 17592186044416 then spec_paDrive.l0 k places (out ++ [x]) cars n (wrap64 (i + 1)) else none) (fun k => ?_) ?_
   ·rw [spec_paDrive.l1, if_pos (by omega)]
   ·refine Ev.bind (zq16 out x (by omega)) ?_
    rw [decide_eq_true c, w64 (by omega) (by omega)]
    exact ih
  ·refine Ev.step (f := fun k => (spec_l1Has.f k out x).bind fun t => if t = true then spec_paDrive.l1 k places out (wrap64 (x + 1)) cars n i else if x ≥ places then if out.length < 17592186044416 then spec_paDrive.l0 k places (out ++ [-1]) cars n (wrap64 (i + 1)) else none else if out.length < 17592186044416 then spec_paDrive.l0 k places (out ++ [x]) cars n (wrap64 (i + 1)) else none) (fun k => ?_) ?_
   ·rw [spec_paDrive.l1, if_pos (by omega)]
   ·refine Ev.bind (zq16 out x (by omega)) ?_
    rw [decide_eq_false c]
    rw [seek, if_neg c] at h
    refine Ev.congr (fun k => ?_) h
    show (if false = true then _ else _) = _
    rw [if_neg (by simp), if_neg (by omega), if_pos (by omega)]
theorem zq18 (places : Int) (hp : places ≤ 1000) : ∀ (t p out : List Int), (∀ c ∈ t, 0 ≤ c ∧ c ≤ places) → p.length + t.length ≤ 500 → out.length + t.length ≤ 500 →
  Ev (fun k => spec_paDrive.l0 k places out (p ++ t) ((p ++ t).length : Int) (p.length : Int)) (driveS places out t)
 | [], p, out, _, _, _ => by
  refine Ev.ret fun k => ?_
  rw [spec_paDrive.l0, if_neg (by simp)]
  rfl
 | c :: t, p, out, hc, hn, ho => by
  have hn' : p.length + t.length + 1 ≤ 500 := by simpa [Nat.add_assoc] using hn
  have ho' : out.length + t.length + 1 ≤ 500 := by simpa [Nat.add_assoc] using ho
  have hm := len_mid p c t
  have h0 := hc c (by simp)
  have ih := zq18 places hp t (p ++ [c]) (out ++ [seek out (places - c).toNat c]) (fun x hx => hc x (by simp [hx])) (by simp; omega) (by simp; omega)
  rw [zq1, zq0] at ih
  refine Ev.step (fun k => ?_) (zq17 places (p ++ c :: t) ((p ++ c :: t).length : Int) (p.length : Int) out (by omega) _ (places - c).toNat c (by omega) (by omega) hp ?_)
  ·show spec_paDrive.l0 (k + 1) places out (p ++ c :: t) ((p ++ c :: t).length : Int) (p.length : Int) = _
   rw [spec_paDrive.l0, if_pos (by omega), if_pos (by omega), if_pos (by omega), rd_mid]
  ·rw [w64 (by omega) (by omega)]
   exact ih
theorem zq19 (l : List Int) (places : Int) (hp : places ≤ 1000) (hl : l.length ≤ 500) (hc : ∀ c ∈ l, 0 ≤ c ∧ c ≤ places) : Ev (fun k => spec_paDrive.f k l places) (driveS places [] l) :=
 zq18 places hp l [] [] hc (by simpa using hl) (by simpa using hl)

theorem zq20 (a b c : Int) : spec_l1In.f a b c = some (decide (b ≤ a) && decide (a ≤ c)) := by
 unfold spec_l1In.f
 by_cases h : a ≥ b
 ·rw [if_pos h]; simp [show b ≤ a from h]
 ·rw [if_neg h]; simp [show ¬ b ≤ a from h]

theorem zq21 (lo hi : Int) : ∀ (t p : List Int), p.length + t.length ≤ 35184372088832 →
  Ev (fun k => spec_l1All.l0 k lo hi (p ++ t) ((p ++ t).length : Int) (p.length : Int)) (inAll lo hi t)
 | [], p, _ => by
  refine Ev.ret fun k => ?_
  rw [spec_l1All.l0, if_neg (by simp)]
  rfl
 | h :: t, p, hn => by
  have hn' : p.length + t.length + 1 ≤ 35184372088832 := by simpa [Nat.add_assoc] using hn
  have hm := len_mid p h t
  rw [zq13]
  cases c : decide (lo ≤ h) && decide (h ≤ hi) with
  | true =>
   have ih := zq21 lo hi t (p ++ [h]) (by simp; omega)
   rw [zq1, zq0] at ih
   rw [Bool.true_and]
   refine Ev.step (fun k => ?_) ih
   show spec_l1All.l0 (k + 1) lo hi (p ++ h :: t) ((p ++ h :: t).length : Int) (p.length : Int) = _
   rw [spec_l1All.l0, if_pos (by omega), if_pos (by omega), if_pos (by omega), rd_mid, zq20, c, Option.bind_some, if_pos rfl, w64 (by omega) (by omega)]
  | false =>
   rw [Bool.false_and]
   refine Ev.ret fun k => ?_
   rw [spec_l1All.l0, if_pos (by omega), if_pos (by omega), if_pos (by omega), rd_mid, zq20, c]
   rfl
theorem zq22 (l : List Int) (lo hi : Int) (hl : l.length ≤ 35184372088832) : Ev (fun k => spec_l1All.f k l lo hi) (inAll lo hi l) :=
 zq21 lo hi l [] (by simpa using hl)

theorem zq23 (l : List Int) (hl : l.length ≤ 35184372088832) : Ev (fun k => spec_paParking.f k l) (pf l) := by
 by_cases c8 : l.length ≤ 8
 ·refine Ev.congr (fun k => by rw [spec_paParking.f, if_pos (by omega), w64 (by omega) (by omega)]) ?_
  refine Ev.bind (zq22 l 0 ((l.length : Int) - 1) hl) ?_
  cases c : inAll 0 ((l.length : Int) - 1) l with
  | false =>
   have e : pf l = false := by simp [pf, c]
   rw [e]
   exact Ev.congr (fun k => by rw [if_neg (by simp)]) (Ev.now false)
  | true =>
   have hp := (zq12 _ _ _).1 c
   have e : pf l = !(decide ((-1 : Int) ∈ driveS l.length [] l)) := by simp [pf, c, c8]
   rw [e]
   refine Ev.congr (fun k => by rw [if_pos rfl]) ?_
   refine Ev.bind (a := !(decide ((-1 : Int) ∈ driveS l.length [] l))) ?_ (Ev.now _)
   refine Ev.congr (fun k => rfl) (Ev.bind (zq19 l l.length (by omega) (by omega) (fun x hx => by have := hp x hx; omega)) ?_)
   exact Ev.bind (zq16 _ (-1) (by rw [zq11]; simp; omega)) (Ev.now _)
 ·have e : pf l = false := by simp [pf, c8]
  rw [e]
  exact Ev.congr (fun k => by rw [spec_paParking.f, if_neg (by omega)]) (Ev.now false)

def cnt (q : Int → Bool) : List Int → Int
 | [] => 0
 | h :: t => (if q h = true then 1 else 0) + cnt q t
theorem zq24 (q : Int → Bool) : ∀ l : List Int, 0 ≤ cnt q l ∧ cnt q l ≤ l.length
 | [] => by simp [cnt]
 | h :: t => by
  have := zq24 q t
  have e : ((h :: t).length : Int) = (t.length : Int) + 1 := by simp
  simp only [cnt]
  rw [e]
  split <;> omega
theorem zq25 (q : Int → Bool) : ∀ a b : List Int, cnt q (a ++ b) = cnt q a + cnt q b
 | [], b => by simp [cnt]
 | h :: t, b => by simp only [List.cons_append, cnt, zq25 q t b]; omega

def places (q : Int → Bool) : List Int → Int → List Int
 | [], _ => []
 | h :: t, i => if q h = true then i :: places q t (i + 1) else places q t (i + 1)
theorem zq26 (q : Int → Bool) : ∀ (l : List Int) (i : Int), ((places q l i).length : Int) = cnt q l
 | [], i => by simp [places, cnt]
 | h :: t, i => by
  rw [places, cnt]
  have := zq26 q t (i + 1)
  split
  ·simp; omega
  ·omega
theorem zq27 (q : Int → Bool) (x : Int) : ∀ (l : List Int) (i : Int), x ∈ places q l i ↔ ∃ j : Nat, ∃ v, l[j]? = some v ∧ q v = true ∧ x = i + j
 | [], i => by simp [places]
 | h :: t, i => by
  rw [places]
  have ih := zq27 q x t (i + 1)
  constructor
  ·intro hx
   have : x = i ∧ q h = true ∨ x ∈ places q t (i + 1) := by
    split at hx
    ·rename_i c
     rcases List.mem_cons.1 hx with h1 | h1
     ·exact .inl ⟨h1, c⟩
     ·exact .inr h1
    ·exact .inr hx
   rcases this with ⟨h1, h2⟩ | h1
   ·exact ⟨0, h, by simp, h2, by omega⟩
   ·obtain ⟨j, v, h2, h3, h4⟩ := ih.1 h1
    exact ⟨j + 1, v, by simpa using h2, h3, by omega⟩
  ·rintro ⟨j, v, h2, h3, h4⟩
   cases j with
   | zero =>
    have e : h = v := by simpa using h2
    rw [e, if_pos h3]
    exact List.mem_cons.2 (.inl (by omega))
   | succ j =>
    have h1 : x ∈ places q t (i + 1) := ih.2 ⟨j, v, by simpa using h2, h3, by omega⟩
    split
    ·exact List.mem_cons_of_mem _ h1
    ·exact h1
theorem zq28 (q : Int → Bool) : ∀ (l : List Int) (i : Int), (places q l i).Pairwise (· < ·)
 | [], i => by simp [places]
 | h :: t, i => by
  rw [places]
  split
  ·rw [List.pairwise_cons]
   refine ⟨fun x hx => ?_, zq28 q t (i + 1)⟩
   obtain ⟨j, v, _, _, e⟩ := (zq27 q x t (i + 1)).1 hx
   omega
  ·exact zq28 q t (i + 1)

theorem zq29 (q : Int → Bool) : ∀ (t p out : List Int), p.length + t.length ≤ 1000000 → out.length ≤ p.length →
  Ev (fun k => impl_indices.l0 q k out (p ++ t) ((p ++ t).length : Int) (p.length : Int)) (out ++ places q t p.length)
 | [], p, out, _, _ => by
  refine Ev.ret fun k => ?_
  rw [impl_indices.l0, if_neg (by simp)]
  simp [places]
 | h :: t, p, out, hn, ho => by
  have hn' : p.length + t.length + 1 ≤ 1000000 := by simpa [Nat.add_assoc] using hn
  have hm := len_mid p h t
  cases c : q h with
  | true =>
   have ih := zq29 q t (p ++ [h]) (out ++ [(p.length : Int)]) (by simp; omega) (by simp; omega)
   rw [zq1, zq0] at ih
   have e : out ++ places q (h :: t) p.length = out ++ [(p.length : Int)] ++ places q t (p.length + 1) := by rw [places, if_pos c]; simp
   rw [e]
   refine Ev.step (fun k => ?_) ih
   show impl_indices.l0 q (k + 1) out (p ++ h :: t) ((p ++ h :: t).length : Int) (p.length : Int) = _
   rw [impl_indices.l0, if_pos (by omega), if_pos (by omega), if_pos (by omega), rd_mid, c, Option.bind_some, if_pos rfl, if_pos (by omega), w64 (by omega) (by omega)]
  | false =>
   have ih := zq29 q t (p ++ [h]) out (by simp; omega) (by simp; omega)
   rw [zq1, zq0] at ih
   have e : out ++ places q (h :: t) p.length = out ++ places q t (p.length + 1) := by rw [places, if_neg (by simp [c])]
   rw [e]
   refine Ev.step (fun k => ?_) ih
   show impl_indices.l0 q (k + 1) out (p ++ h :: t) ((p ++ h :: t).length : Int) (p.length : Int) = _
   rw [impl_indices.l0, if_pos (by omega), if_pos (by omega), if_pos (by omega), rd_mid, c, Option.bind_some, if_neg (by simp), w64 (by omega) (by omega)]
theorem zq30 (q : Int → Bool) (l : List Int) (hl : l.length ≤ 1000000) : Ev (fun k => impl_indices.f q k l) (places q l 0) := by
 have := zq29 q l [] [] (by simpa using hl) (by simp)
 exact this

def wadd (f : Int) : List Int → List Int → List Int → List Int × List Int
 | [], H, L => (H, L)
 | c :: t, H, L => wadd f t (H ++ [(L.length : Int) - f]) (L ++ [c])
theorem zq31 (f : Int) : ∀ (t H L : List Int), (wadd f t H L).1.length = H.length + t.length ∧ (wadd f t H L).2.length = L.length + t.length
 | [], H, L => by simp [wadd]
 | c :: t, H, L => by
  have ih := zq31 f t (H ++ [(L.length : Int) - f]) (L ++ [c])
  simp only [wadd, List.length_append, List.length_cons, List.length_nil] at ih ⊢
  omega
def cars (l : List Int) (k : Int) : List Int := places (fun x => decide (x = k)) l 0
theorem zq32 (l : List Int) (k : Int) : (cars l k).length ≤ l.length := by
 have a := zq26 (fun x => decide (x = k)) l 0
 have b := (zq24 (fun x => decide (x = k)) l).2
 unfold cars
 omega
def walkS (l : List Int) : Nat → Nat → List Int → List Int → List Int × List Int
 | 0, _, H, L => (H, L)
 | d + 1, k, H, L => walkS l d (k + 1) (wadd k (cars l k) H L).1 (wadd k (cars l k) H L).2
theorem zq33 (l : List Int) : ∀ (d k : Nat) (H L : List Int), (walkS l d k H L).1.length ≤ H.length + l.length * d ∧ (walkS l d k H L).2.length ≤ L.length + l.length * d
 | 0, k, H, L => by simp [walkS]
 | d + 1, k, H, L => by
  have ih := zq33 l d (k + 1) (wadd k (cars l k) H L).1 (wadd k (cars l k) H L).2
  have h1 := zq31 k (cars l k) H L
  have h2 := zq32 l k
  rw [Nat.mul_add, Nat.mul_one]
  rw [walkS]
  omega

theorem zq34 (l : List Int) (f : Nat) (hf : f ≤ 1000) (r : List Int × List Int) : ∀ (t p H L : List Int), p.length + t.length ≤ 100 → H.length ≤ 1000 + p.length → L.length ≤ 1000 + p.length →
  Ev (fun k => spec_waOf.l0 k l (l.length : Int) ((f : Int) + 1) (wadd f (places (fun x => decide (x = (f : Int))) t p.length) H L).1 (wadd f (places (fun x => decide (x = (f : Int))) t p.length) H L).2) r →
  Ev (fun k => spec_waOf.l1 k l (f : Int) (l.length : Int) (f : Int) (p ++ t) ((p ++ t).length : Int) (p.length : Int) H L) r
 | [], p, H, L, hn, h1, h2, h => by
  refine Ev.step (fun k => ?_) h
  show spec_waOf.l1 (k + 1) l (f : Int) (l.length : Int) (f : Int) (p ++ []) ((p ++ []).length : Int) (p.length : Int) H L = _
  rw [spec_waOf.l1, if_neg (by simp), w64 (by omega) (by omega)]
  rfl
 | x :: t, p, H, L, hn, h1, h2, h => by
  have hn' : p.length + t.length + 1 ≤ 100 := by simpa [Nat.add_assoc] using hn
  have hm := len_mid p x t
  by_cases c : x = (f : Int)
  ·rw [places, if_pos (by simpa using c), wadd] at h
   have ih := zq34 l f hf r t (p ++ [x]) (H ++ [(L.length : Int) - f]) (L ++ [(p.length : Int)]) (by simp; omega) (by simp; omega) (by simp; omega)
   rw [zq1 p x t, zq0 p x] at ih
   refine Ev.step (fun k => ?_) (ih h)
   show spec_waOf.l1 (k + 1) l (f : Int) (l.length : Int) (f : Int) (p ++ x :: t) ((p ++ x :: t).length : Int) (p.length : Int) H L = _
   rw [spec_waOf.l1, if_pos (by omega), if_pos (by omega), if_pos (by omega), rd_mid, if_pos c.symm, if_pos (by omega), if_pos (by omega), w64 (by omega) (by omega), w64 (by omega) (by omega)]
  ·rw [places, if_neg (by simpa using c)] at h
   have ih := zq34 l f hf r t (p ++ [x]) H L (by simp; omega) (by simp; omega) (by simp; omega)
   rw [zq1 p x t, zq0 p x] at ih
   refine Ev.step (fun k => ?_) (ih h)
   show spec_waOf.l1 (k + 1) l (f : Int) (l.length : Int) (f : Int) (p ++ x :: t) ((p ++ x :: t).length : Int) (p.length : Int) H L = _
   rw [spec_waOf.l1, if_pos (by omega), if_pos (by omega), if_pos (by omega), rd_mid, if_neg (fun e => c e.symm), w64 (by omega) (by omega)]
theorem zq35 (l : List Int) (hl : l.length ≤ 8) : ∀ (d k : Nat) (H L : List Int), k + d = l.length → H.length ≤ 10 * k → L.length ≤ 10 * k →
  Ev (fun kk => spec_waOf.l0 kk l (l.length : Int) (k : Int) H L) (walkS l d k H L)
 | 0, k, H, L, hk, h1, h2 => by
  refine Ev.ret fun kk => ?_
  rw [spec_waOf.l0, if_neg (by omega)]
  rfl
 | d + 1, k, H, L, hk, h1, h2 => by
  have h3 := zq31 k (cars l k) H L
  have h4 := zq32 l k
  have ih := zq35 l hl d (k + 1) (wadd k (cars l k) H L).1 (wadd k (cars l k) H L).2 (by omega) (by omega) (by omega)
  rw [show ((k + 1 : Nat) : Int) = (k : Int) + 1 by omega] at ih
  refine Ev.step (f := fun kk => spec_waOf.l1 kk l (k : Int) (l.length : Int) (k : Int) l (l.length : Int) 0 H L) (fun kk => ?_) ?_
  ·rw [spec_waOf.l0, if_pos (by omega)]
  ·exact zq34 l k (by omega) _ l [] H L (by simp; omega) (by simp; omega) (by simp; omega) ih
theorem zq36 (l : List Int) (hl : l.length ≤ 8) : Ev (fun k => spec_waOf.f k l) (walkS l l.length 0 [] []) :=
 zq35 l hl l.length 0 [] [] (by omega) (by simp) (by simp)

theorem zq37 (code : List Int) (hc : ∀ x ∈ code, 0 ≤ x ∧ x ≤ 255) (most : Nat) (hm : most ≤ 100) : ∃ (H L : List Int) (a s : Int), H.length ≤ 1000 ∧ L.length ≤ 1000 ∧ Rdy a 5000 ∧ Ev (fun k => spec_l1Cur_walk.f k code 0 0 (most : Int)) (H, L, a, s) := by
 obtain ⟨r, a1, s1, h1, r1, e1⟩ := zq6 code hc 0 0 most hm 0 ⟨by omega, by omega⟩ (by omega)
 cases c : pf r with
 | false =>
  obtain ⟨H, a2, s2, h2, r2, e2⟩ := zq8 code hc a1 s1 most hm (0 + 1000) r1 (by omega)
  refine ⟨H, r, a2, s2, by omega, by omega, r2.mono (by omega), ?_⟩
  refine Ev.congr (fun k => by rw [spec_l1Cur_walk.f]) ?_
  refine Ev.bind e1 (Ev.bind (zq23 r (by omega)) ?_)
  rw [c]
  refine Ev.congr (fun k => by rw [if_neg (by simp)]) ?_
  exact Ev.bind e2 (Ev.now _)
 | true =>
  obtain ⟨h8, _, _⟩ := (pf_iff r).1 c
  have hw := zq33 r r.length 0 [] []
  have hq : r.length * r.length ≤ 8 * 8 := Nat.mul_le_mul h8 h8
  simp only [List.length_nil] at hw
  obtain ⟨v, a2, s2, e2, v0, v1, r2⟩ := zq3 code hc a1 s1 14 (0 + 1000) r1 (by omega)
  obtain ⟨H, L, hW⟩ : ∃ H L, walkS r r.length 0 [] [] = (H, L) := ⟨_, _, rfl⟩
  have ew := zq36 r h8
  rw [hW] at ew hw
  have hH : H.length ≤ 100 := by have := hw; simp only at this; omega
  have hL : L.length ≤ 100 := by have := hw; simp only at this; omega
  have go : ∀ res : List Int × List Int × Int × Int, Ev (fun k => if v = 0 then (if (L.length : Int) > 1 then ((spec_l1Cur_pick.f code a2 s2 (wrap64 ((L.length : Int) - 1))).bind fun bt257 => (if 0 ≤ bt257.1 then (if bt257.1 < (L.length : Int) then (if 0 ≤ (wrap64 (bt257.1 + 1)) then (if (wrap64 (bt257.1 + 1)) < (L.length : Int) then (some (H, ((L.set (bt257.1 : Int).toNat (rd L (wrap64 (bt257.1 + 1)))).set ((wrap64 (bt257.1 + 1)) : Int).toNat (rd L bt257.1)), bt257.2.1, bt257.2.2)) else (none)) else (none)) else (none)) else (none))) else (some (H, L, a2, s2))) else (if v = 1 then (if L.length < 17592186044416 then (some (H, (L ++ [(L.length : Int)]), a2, s2)) else (none)) else (some (H, L, a2, s2)))) res → Ev (fun k => spec_l1Cur_walk.f k code 0 0 (most : Int)) res := by
   intro res hres
   refine Ev.congr (fun k => by rw [spec_l1Cur_walk.f]) ?_
   refine Ev.bind e1 (Ev.bind (zq23 r (by omega)) ?_)
   rw [c]
   refine Ev.congr (fun k => by rw [if_pos rfl]) (Ev.bind ew ?_)
   refine Ev.congr (fun k => ?_) hres
   show (spec_l1Cur_pick.f code a1 s1 14).bind _ = _
   rw [e2, Option.bind_some]
  by_cases c0 : v = 0
  ·by_cases c1 : (L.length : Int) > 1
   ·obtain ⟨i, a3, s3, e3, i0, i1, r3⟩ := zq3 code hc a2 s2 (wrap64 ((L.length : Int) - 1)) (0 + 1000 + 2) r2 (by omega)
    have hw1 : wrap64 ((L.length : Int) - 1) = (L.length : Int) - 1 := w64 (by omega) (by omega)
    have hi : i < (L.length : Int) - 1 := by rw [hw1] at i1; omega
    have hw2 : wrap64 (i + 1) = i + 1 := w64 (by omega) (by omega)
    refine ⟨H, _, a3, s3, by omega, ?_, r3.mono (by omega), go (_, _, _, _) (Ev.congr (fun k => by rw [if_pos c0, if_pos c1, e3, Option.bind_some]; simp only [hw2]; rw [if_pos i0, if_pos (by omega), if_pos (by omega), if_pos (by omega)]) (Ev.now _))⟩
    simp only [List.length_set]
    omega
   ·exact ⟨H, L, a2, s2, by omega, by omega, r2.mono (by omega), go _ (Ev.congr (fun k => by rw [if_pos c0, if_neg c1]) (Ev.now _))⟩
  ·by_cases c1 : v = 1
   ·exact ⟨H, L ++ [(L.length : Int)], a2, s2, by omega, by simp; omega, r2.mono (by omega), go _ (Ev.congr (fun k => by rw [if_neg c0, if_pos c1, if_pos (by omega)]) (Ev.now _))⟩
   ·exact ⟨H, L, a2, s2, by omega, by omega, r2.mono (by omega), go _ (Ev.congr (fun k => by rw [if_neg c0, if_neg c1]) (Ev.now _))⟩
theorem zq38 (code : List Int) (hc : ∀ x ∈ code, 0 ≤ x ∧ x ≤ 255) : ∃ (H L : List Int) (a s : Int), H.length ≤ 1000 ∧ L.length ≤ 1000 ∧ Ev (fun k => spec_l1Cur_walk.f k code 0 0 8) (H, L, a, s) := by
 obtain ⟨H, L, a, s, h1, h2, _, h4⟩ := zq37 code hc 8 (by omega)
 exact ⟨H, L, a, s, h1, h2, h4⟩

def climb (par : List Int) : Nat → Int → Bool
 | 0, a => decide (a ≤ 0)
 | m + 1, a => if a > 0 then climb par m (rd par (a - 1)) else true
theorem zq39 : ∀ (n : Nat) (f : Nat → Int), (∀ i, i ≤ n → 1 ≤ f i ∧ f i ≤ n) → ∃ i j, i < j ∧ j ≤ n ∧ f i = f j
 | 0, f, h => by have := h 0 (by omega); omega
 | n + 1, f, h => by
  by_cases c : ∃ i, i ≤ n ∧ f i = f (n + 1)
  ·obtain ⟨i, hi, e⟩ := c
   exact ⟨i, n + 1, by omega, by omega, e⟩
  · -- the last one's value is left out
   let g : Nat → Int := fun i => if f i > f (n + 1) then f i - 1 else f i
   have hg : ∀ i, i ≤ n → 1 ≤ g i ∧ g i ≤ n := by
    intro i hi
    have h1 := h i (by omega)
    have h2 := h (n + 1) (by omega)
    have h3 : f i ≠ f (n + 1) := fun e => c ⟨i, hi, e⟩
    show 1 ≤ (if f i > f (n + 1) then f i - 1 else f i) ∧ (if f i > f (n + 1) then f i - 1 else f i) ≤ n
    split <;> omega
   obtain ⟨i, j, hij, hj, e⟩ := zq39 n g hg
   have h3 : f i ≠ f (n + 1) := fun e => c ⟨i, by omega, e⟩
   have h4 : f j ≠ f (n + 1) := fun e => c ⟨j, by omega, e⟩
   refine ⟨i, j, hij, by omega, ?_⟩
   have e' : (if f i > f (n + 1) then f i - 1 else f i) = (if f j > f (n + 1) then f j - 1 else f j) := e
   split at e' <;> split at e' <;> omega
theorem zq40 {l : List Int} (h : l.Nodup) {i j : Nat} (hi : i < j) (hj : j < l.length) : l[i]'(by omega) ≠ l[j] :=
 List.pairwise_iff_getElem.1 h i j (by omega) hj hi
theorem zq41 (n : Nat) (l : List Int) (h : l.Nodup) (hr : ∀ v ∈ l, 0 ≤ v ∧ v ≤ n) : l.length ≤ n + 1 := by
 refine Classical.byContradiction fun c => ?_
 obtain ⟨i, j, hij, hj, e⟩ := zq39 (n + 1) (fun i => l.getD i 0 + 1) (fun i hi => by
  have hm : l.getD i 0 ∈ l := by
   rw [List.getD_eq_getElem?_getD, List.getElem?_eq_getElem (by omega)]
   exact List.getElem_mem _
  have := hr _ hm
  show 1 ≤ l.getD i 0 + 1 ∧ l.getD i 0 + 1 ≤ ((n + 1 : Nat) : Int)
  omega)
 have e2 : l.getD i 0 + 1 = l.getD j 0 + 1 := e
 rw [List.getD_eq_getElem?_getD, List.getD_eq_getElem?_getD, List.getElem?_eq_getElem (by omega), List.getElem?_eq_getElem (by omega)] at e2
 simp only [Option.getD_some] at e2
 exact zq40 h hij (by omega) (by omega)

def Up (l : List Int) : Prop := l.Pairwise (· ≤ ·)
def put (x : Int) : List Int → List Int
 | [] => [x]
 | h :: t => if x ≤ h then x :: h :: t else h :: put x t
def srt : List Int → List Int
 | [] => []
 | h :: t => put h (srt t)
theorem zq42 (x : Int) : ∀ l : List Int, (put x l).Perm (x :: l)
 | [] => .refl _
 | h :: t => by
  rw [put]
  split
  ·exact .refl _
  ·exact ((zq42 x t).cons h).trans (.swap x h t)
theorem put_up (x : Int) : ∀ l : List Int, Up l → Up (put x l)
 | [], _ => by simp [put, Up]
 | h :: t, hl => by
  have h1 := List.pairwise_cons.1 hl
  rw [put]
  split
  ·refine List.pairwise_cons.2 ⟨fun y hy => ?_, hl⟩
   rcases List.mem_cons.1 hy with e | e
   ·omega
   ·have := h1.1 y e; omega
  ·refine List.pairwise_cons.2 ⟨fun y hy => ?_, put_up x t h1.2⟩
   rcases List.mem_cons.1 ((zq42 x t).mem_iff.1 hy) with e | e
   ·omega
   ·exact h1.1 y e
theorem zq43 : ∀ l : List Int, (srt l).Perm l
 | [] => .refl _
 | h :: t => (zq42 h (srt t)).trans ((zq43 t).cons h)
theorem srt_up : ∀ l : List Int, Up (srt l)
 | [] => by simp [srt, Up]
 | h :: t => put_up h _ (srt_up t)
theorem zq44 : ∀ (a b : List Int), Up a → Up b → a.Perm b → a = b
 | [], b, _, _, h => by simpa using h.length_eq.symm
 | x :: a, [], _, _, h => by simpa using h.length_eq
 | x :: a, y :: b, ha, hb, h => by
  have h1 := List.pairwise_cons.1 ha
  have h2 := List.pairwise_cons.1 hb
  have e : x = y := by
   have hx : x ∈ y :: b := h.mem_iff.1 (by simp)
   have hy : y ∈ x :: a := h.mem_iff.2 (by simp)
   rcases List.mem_cons.1 hx with e | e
   ·exact e
   ·rcases List.mem_cons.1 hy with e' | e'
    ·exact e'.symm
    ·have := h1.1 y e'
     have := h2.1 x e
     omega
  subst e
  rw [zq44 a b h1.2 h2.2 (List.perm_cons x |>.1 h)]

theorem zq45 : ∀ (a b : List Int), a.Pairwise (· < ·) → b.Pairwise (· < ·) → (∀ x, x ∈ a ↔ x ∈ b) → a = b
 | [], [], _, _, _ => rfl
 | [], y :: b, _, _, h => by have := (h y).2 (by simp); simp at this
 | x :: a, [], _, _, h => by have := (h x).1 (by simp); simp at this
 | x :: a, y :: b, ha, hb, h => by
  have h1 := List.pairwise_cons.1 ha
  have h2 := List.pairwise_cons.1 hb
  have e : x = y := by
   rcases List.mem_cons.1 ((h x).1 (by simp)) with e | e
   ·exact e
   ·rcases List.mem_cons.1 ((h y).2 (by simp)) with e' | e'
    ·exact e'.symm
    ·have := h1.1 y e'
     have := h2.1 x e
     omega
  subst e
  rw [zq45 a b h1.2 h2.2 fun z => ?_]
  constructor
  ·intro hz
   rcases List.mem_cons.1 ((h z).1 (by simp [hz])) with e | e
   ·have := h1.1 z hz; omega
   ·exact e
  ·intro hz
   rcases List.mem_cons.1 ((h z).2 (by simp [hz])) with e | e
   ·have := h2.1 z hz; omega
   ·exact e
theorem zq46 (l : List Int) (h : l.Nodup) : (srt l).Pairwise (· < ·) := by
 have h1 := srt_up l
 have h2 : (srt l).Nodup := (zq43 l).nodup_iff.2 h
 refine List.pairwise_iff_getElem.2 fun i j hi hj hij => ?_
 have h3 := List.pairwise_iff_getElem.1 h1 i j hi hj hij
 have h4 := List.pairwise_iff_getElem.1 h2 i j hi hj hij
 omega

def hts (last : Int) : List Int → Bool
 | [] => true
 | h :: t => decide (0 ≤ h) && decide (h ≤ last + 1) && hts h t
theorem hts_mem : ∀ (l : List Int) (last : Int), hts last l = true → ∀ x ∈ l, 0 ≤ x ∧ x ≤ last + l.length
 | [], _, _, x, hx => by cases hx
 | h :: t, last, hh, x, hx => by
  simp only [hts, Bool.and_eq_true, decide_eq_true_eq] at hh
  have e : ((h :: t).length : Int) = (t.length : Int) + 1 := by simp
  rw [e]
  cases hx with
  | head => omega
  | tail _ hx =>
   have := hts_mem t h hh.2 x hx
   omega
theorem rd_prev (q : List Int) (x : Int) (t : List Int) : rd ((q ++ [x]) ++ t) (((q ++ [x]).length : Int) - 1) = x := by
 unfold rd
 have : (((q ++ [x]).length : Int) - 1).toNat = q.length := by simp
 rw [this]
 simp

theorem rd_mem (l : List Int) (i : Int) (h0 : 0 ≤ i) (h1 : i < l.length) : rd l i ∈ l := by
 unfold rd
 rw [List.getD_eq_getElem?_getD, List.getElem?_eq_getElem (by omega)]
 exact List.getElem_mem _
def iota : Nat → Int → List Int
 | 0, _ => []
 | n + 1, i => i :: iota n (i + 1)
theorem zq47 (x : Int) : ∀ (n : Nat) (i : Int), x ∈ iota n i ↔ i ≤ x ∧ x < i + n
 | 0, i => by
  simp only [iota, List.not_mem_nil, false_iff]
  omega
 | n + 1, i => by
  rw [iota, List.mem_cons, zq47 x n (i + 1)]
  omega
theorem zq48 : ∀ (n : Nat) (i : Int), (iota n i).Pairwise (· < ·)
 | 0, i => by simp [iota]
 | n + 1, i => List.pairwise_cons.2 ⟨fun x hx => by have := (zq47 x n (i + 1)).1 hx; omega, zq48 n (i + 1)⟩
theorem zq49 : ∀ (n : Nat) (i : Int), (iota n i).length = n
 | 0, _ => rfl
 | n + 1, i => by rw [iota, List.length_cons, zq49 n]
theorem zq50 {l : List Int} (h : l.Pairwise (· < ·)) : l.Nodup := h.imp fun hab => by omega
def isUp : List Int → Int → Bool
 | [], _ => true
 | h :: t, i => decide (h = i) && isUp t (i + 1)
theorem zq51 : ∀ (l : List Int) (i : Int), isUp l i = true ↔ l = iota l.length i
 | [], i => by simp [isUp, iota]
 | h :: t, i => by
  rw [isUp, Bool.and_eq_true, decide_eq_true_eq, zq51 t (i + 1), List.length_cons, iota]
  constructor
  ·rintro ⟨h1, h2⟩
   rw [h1, ← h2]
  ·intro e
   injection e with h1 h2
   exact ⟨h1, h2⟩
theorem zq52 (l : List Int) : isUp (srt l) 0 = true ↔ inAll 0 ((l.length : Int) - 1) l = true ∧ l.Nodup := by
 rw [zq51, (zq43 l).length_eq, zq12]
 constructor
 ·intro e
  have hm : ∀ x, x ∈ l ↔ 0 ≤ x ∧ x < 0 + (l.length : Int) := fun x => by
   rw [← zq47 x l.length 0, ← e]
   exact (zq43 l).mem_iff.symm
  refine ⟨fun x hx => by have := (hm x).1 hx; omega, ?_⟩
  rw [← (zq43 l).nodup_iff, e]
  exact zq50 (zq48 _ _)
 ·rintro ⟨h1, h2⟩
  refine zq45 _ _ (zq46 l h2) (zq48 _ _) fun x => ?_
  rw [(zq43 l).mem_iff, zq47]
  constructor
  ·intro hx
   have := h1 x hx
   omega
  ·intro hx
   refine Classical.byContradiction fun hn => ?_
   have hc : (x :: l).Nodup := List.nodup_cons.2 ⟨hn, h2⟩
   have := zq41 (l.length - 1) (x :: l) hc fun v hv => by
    rcases List.mem_cons.1 hv with e | e
    ·omega
    ·have := h1 v e; omega
   rw [List.length_cons] at this
   omega
def labsFrom (H L : List Int) : Nat → Nat → Bool
 | 0, _ => true
 | d + 1, i => if rd H i = rd H ((i : Int) - 1) + 1 ∧ rd L ((i : Int) - 1) > rd L i then false else labsFrom H L d (i + 1)
theorem zq53 (H L : List Int) : ∀ (d i : Nat), labsFrom H L d i = true ↔ ∀ j : Nat, i ≤ j → j < i + d → rd H j = rd H ((j : Int) - 1) + 1 → rd L ((j : Int) - 1) ≤ rd L j
 | 0, i => by
  simp only [labsFrom, true_iff]
  intro j h1 h2
  omega
 | d + 1, i => by
  rw [labsFrom]
  have ih := zq53 H L d (i + 1)
  by_cases c : rd H i = rd H ((i : Int) - 1) + 1 ∧ rd L ((i : Int) - 1) > rd L i
  ·rw [if_pos c]
   constructor
   ·intro h; cases h
   ·intro h
    have := h i (Nat.le_refl _) (by omega) c.1
    omega
  ·rw [if_neg c, ih]
   constructor
   ·intro h j h1 h2 h3
    by_cases e : j = i
    ·subst e
     refine Classical.byContradiction fun h4 => c ⟨h3, by omega⟩
    ·exact h j (by omega) (by omega) h3
   ·intro h j h1 h2 h3
    exact h j (by omega) (by omega) h3
def bothFrom (H L : List Int) : Nat → Nat → Bool
 | 0, _ => true
 | d + 1, i => if rd L i ∈ L.take i then false else if 0 < i ∧ rd H i = rd H ((i : Int) - 1) + 1 ∧ rd L ((i : Int) - 1) > rd L i then false else bothFrom H L d (i + 1)
theorem zq54 (H L : List Int) : ∀ (d i : Nat), bothFrom H L d i = true ↔ ∀ j : Nat, i ≤ j → j < i + d → rd L j ∉ L.take j ∧ (0 < j → rd H j = rd H ((j : Int) - 1) + 1 → rd L ((j : Int) - 1) ≤ rd L j)
 | 0, i => by
  simp only [bothFrom, true_iff]
  intro j h1 h2
  omega
 | d + 1, i => by
  rw [bothFrom]
  have ih := zq54 H L d (i + 1)
  by_cases g : rd L i ∈ L.take i
  ·rw [if_pos g]
   constructor
   ·intro h; cases h
   ·intro h
    exact absurd g (h i (Nat.le_refl _) (by omega)).1
  ·rw [if_neg g]
   by_cases c : 0 < i ∧ rd H i = rd H ((i : Int) - 1) + 1 ∧ rd L ((i : Int) - 1) > rd L i
   ·rw [if_pos c]
    constructor
    ·intro h; cases h
    ·intro h
     have := (h i (Nat.le_refl _) (by omega)).2 c.1 c.2.1
     omega
   ·rw [if_neg c, ih]
    constructor
    ·intro h j h1 h2
     by_cases e : j = i
     ·subst e
      exact ⟨g, fun h3 h4 => Classical.byContradiction fun h5 => c ⟨h3, h4, by omega⟩⟩
     ·exact h j (by omega) (by omega)
    ·intro h j h1 h2
     exact h j (by omega) (by omega)
theorem zq55 (L : List Int) : L.Nodup ↔ ∀ j : Nat, j < L.length → rd L j ∉ L.take j := by
 constructor
 ·intro h j hj hm
  obtain ⟨i, hi, e⟩ := List.mem_iff_getElem.1 hm
  rw [List.getElem_take] at e
  have hij : i < j := by simp at hi; omega
  rw [rd_nat, List.getD_eq_getElem?_getD, List.getElem?_eq_getElem hj] at e
  exact zq40 h hij hj e
 ·intro h
  refine List.pairwise_iff_getElem.2 fun i j hi hj hij e => h j hj ?_
  rw [rd_nat, List.getD_eq_getElem?_getD, List.getElem?_eq_getElem hj]
  refine List.mem_iff_getElem.2 ⟨i, by simp; omega, ?_⟩
  rw [List.getElem_take]
  exact e
theorem zq56 (H L : List Int) : bothFrom H L L.length 0 = (decide L.Nodup && labsFrom H L (L.length - 1) 1) := by
 rw [Bool.eq_iff_iff, Bool.and_eq_true, decide_eq_true_eq, zq54, zq53, zq55]
 constructor
 ·intro h
  exact ⟨fun j hj => (h j (by omega) (by omega)).1, fun j h1 h2 => (h j (by omega) (by omega)).2 (by omega)⟩
 ·rintro ⟨h1, h2⟩ j _ h3
  exact ⟨h1 j (by omega), fun h4 => h2 j (by omega) (by omega)⟩
def goodW (H L : List Int) : Bool := (decide (H.length ≤ 8) && hts (-1) H) && (decide ((L.length : Int) = (H.length : Int)) && (inAll 0 ((H.length : Int) - 1) L && (decide L.Nodup && labsFrom H L (L.length - 1) 1)))
theorem zq57 (H L : List Int) : goodW H L = true ↔ (H.length ≤ 8 ∧ hts (-1) H = true) ∧ L.length = H.length ∧ (∀ x ∈ L, 0 ≤ x ∧ x ≤ (H.length : Int) - 1) ∧ L.Nodup ∧ labsFrom H L (L.length - 1) 1 = true := by
 simp only [goodW, Bool.and_eq_true, decide_eq_true_eq, zq12]
 constructor
 ·rintro ⟨h1, h2, h3⟩
  exact ⟨h1, by omega, h3⟩
 ·rintro ⟨h1, h2, h3⟩
  exact ⟨h1, by omega, h3⟩
theorem hts_rd {H : List Int} (h8 : H.length ≤ 8) (h : hts (-1) H = true) (i : Int) (h0 : 0 ≤ i) (h1 : i < H.length) : 0 ≤ rd H i ∧ rd H i ≤ 8 := by
 have := hts_mem H (-1) h _ (rd_mem H i h0 h1)
 omega

theorem all_in : ∀ (n : Nat) (g : List Int), (∀ v : Int, 1 ≤ v → v ≤ n → v ∈ g) → n ≤ g.length
 | 0, g, _ => Nat.zero_le _
 | n + 1, g, h => by
  have hm : ((n + 1 : Nat) : Int) ∈ g := h _ (by omega) (by omega)
  have ih := all_in n (g.erase ((n + 1 : Nat) : Int)) fun v h1 h2 => (List.mem_erase_of_ne (by omega)).2 (h v h1 (by omega))
  rw [List.length_erase_of_mem hm] at ih
  have := List.length_pos_of_mem hm
  omega

theorem zq58 (P : Int) : ∀ (t out : List Int), out.Nodup → (-1 : Int) ∉ driveS P out t → (driveS P out t).Nodup
 | [], out, h, _ => h
 | c :: t, out, h, hn => by
  rw [driveS] at hn ⊢
  obtain ⟨s, _, hs⟩ := zq10 P t (out ++ [seek out (P - c).toNat c])
  have hm : seek out (P - c).toNat c ∈ driveS P (out ++ [seek out (P - c).toNat c]) t := by rw [hs]; simp
  refine zq58 P t _ ?_ hn
  rcases zq9 out (P - c).toNat c with h5 | ⟨_, _, h5⟩
  ·exact absurd (by rw [← h5]; exact hm) hn
  ·rw [List.nodup_append]
   refine ⟨h, by simp, fun a ha b hb => ?_⟩
   rw [List.mem_singleton] at hb
   rw [hb]
   exact fun e => h5 (e ▸ ha)
theorem zq59 (P k : Int) : ∀ (t out : List Int), (-1 : Int) ∉ driveS P out t → cnt (fun x => decide (x < k)) (driveS P out t) ≤ cnt (fun x => decide (x < k)) out + cnt (fun x => decide (x < k)) t
 | [], out, _ => by simp [driveS, cnt]
 | c :: t, out, hn => by
  rw [driveS] at hn ⊢
  obtain ⟨s, _, hs⟩ := zq10 P t (out ++ [seek out (P - c).toNat c])
  have hm : seek out (P - c).toNat c ∈ driveS P (out ++ [seek out (P - c).toNat c]) t := by rw [hs]; simp
  have ih := zq59 P k t (out ++ [seek out (P - c).toNat c]) hn
  rw [zq25] at ih
  have h4 : c ≤ seek out (P - c).toNat c := by
   rcases zq9 out (P - c).toNat c with h5 | ⟨h5, _, _⟩
   ·exact absurd (by rw [← h5]; exact hm) hn
   ·exact h5
  have e : cnt (fun x => decide (x < k)) [seek out (P - c).toNat c] ≤ (if decide (c < k) = true then 1 else 0) := by
   simp only [cnt]
   by_cases d : seek out (P - c).toNat c < k
   ·rw [if_pos (by simpa using d), if_pos (by simp; omega)]
    omega
   ·rw [if_neg (by simpa using d)]
    split <;> omega
  simp only [cnt] at ih e ⊢
  omega
theorem zq60 (s : List Int) (a : Int) (m : Nat) (hn : s.Nodup) (hr : ∀ x ∈ s, a ≤ x ∧ x < a + m) : s.length ≤ m := by
 rcases Nat.lt_or_ge m s.length with h | h
 ·exfalso
  obtain ⟨i, j, hij, hj, e⟩ := zq39 m (fun i => s.getD i 0 - a + 1) (fun i hi => by
   have hx : s.getD i 0 ∈ s := by
    rw [List.getD_eq_getElem?_getD, List.getElem?_eq_getElem (by omega)]
    exact List.getElem_mem _
   have := hr _ hx
   omega)
  have hi : i < s.length := by omega
  have hj' : j < s.length := by omega
  have e2 : s[i] = s[j] := by
   have e3 : s.getD i 0 = s.getD j 0 := by have : s.getD i 0 - a + 1 = s.getD j 0 - a + 1 := e; omega
   rw [List.getD_eq_getElem?_getD, List.getD_eq_getElem?_getD, List.getElem?_eq_getElem hi, List.getElem?_eq_getElem hj'] at e3
   exact e3
  exact (List.pairwise_iff_getElem.1 hn) i j hi hj' hij e2
 ·exact h
theorem zq61 (k : Int) : ∀ s : List Int, cnt (fun x => decide (x < k)) s + (s.filter fun x => decide (k ≤ x)).length = s.length
 | [] => by simp [cnt]
 | h :: t => by
  have ih := zq61 k t
  simp only [cnt, List.filter_cons, List.length_cons]
  by_cases c : h < k
  ·rw [if_pos (by simpa using c), if_neg (by simp; omega)]
   omega
  ·rw [if_neg (by simpa using c), if_pos (by simp; omega)]
   simp only [List.length_cons]
   omega
theorem zq62 (l : List Int) (h : pf l = true) (k : Nat) (hk : k ≤ l.length) : (k : Int) ≤ cnt (fun x => decide (x < (k : Int))) l := by
 obtain ⟨_, h2, h3⟩ := (pf_iff l).1 h
 have hnd := zq58 (l.length : Int) l [] (by simp) h3
 have hc := zq59 (l.length : Int) (k : Int) l [] h3
 have hlen : (driveS (l.length : Int) [] l).length = l.length := by rw [zq11]; simp
 have hr : ∀ v ∈ driveS (l.length : Int) [] l, 0 ≤ v ∧ v < l.length := fun v hv => by
  have : ∀ (t out : List Int), (∀ c ∈ t, 0 ≤ c) → (∀ v ∈ out, v = -1 ∨ 0 ≤ v ∧ v < (l.length : Int)) → ∀ v ∈ driveS (l.length : Int) out t, v = -1 ∨ 0 ≤ v ∧ v < (l.length : Int) := by
   intro t
   induction t with
   | nil => intro out _ ho v hv; exact ho v hv
   | cons c t ih =>
    intro out hc ho v hv
    rw [driveS] at hv
    refine ih _ (fun x hx => hc x (by simp [hx])) (fun w hw => ?_) v hv
    rcases List.mem_append.1 hw with h | h
    ·exact ho w h
    ·rw [List.mem_singleton] at h
     subst h
     have h3 := hc c (by simp)
     rcases zq9 out ((l.length : Int) - c).toNat c with h5 | ⟨h5, h6, _⟩
     ·exact .inl h5
     ·exact .inr ⟨by omega, by omega⟩
  rcases this l [] (fun c hc => (h2 c hc).1) (by simp) v hv with h4 | h4
  ·exact absurd (h4 ▸ hv) h3
  ·exact h4
 have hb := zq60 ((driveS (l.length : Int) [] l).filter fun x => decide ((k : Int) ≤ x)) (k : Int) (l.length - k) (hnd.filter _) (fun x hx => by
  rw [List.mem_filter] at hx
  have h4 := hr x hx.1
  have h5 : (k : Int) ≤ x := by simpa using hx.2
  omega)
 have hf := zq61 (k : Int) (driveS (l.length : Int) [] l)
 simp only [cnt] at hc
 omega

theorem zq63 (out : List Int) : ∀ (d : Nat) (x : Int), 0 ≤ x → seek out d x = -1 → ∀ v, x ≤ v → v < x + d → v ∈ out
 | 0, x, _, _, v, h1, h2 => by omega
 | d + 1, x, h0, h, v, h1, h2 => by
  rw [seek] at h
  split at h
  ·rename_i c
   by_cases e : v = x
   ·rw [e]; exact c
   ·exact zq63 out d (x + 1) (by omega) h v (by omega) (by omega)
  ·omega
theorem zq64 (out : List Int) : ∀ (d : Nat) (x : Int), 0 ≤ x → seek out d x ≠ -1 → ∀ v, x ≤ v → v < seek out d x → v ∈ out
 | 0, x, _, h, v, _, _ => absurd rfl h
 | d + 1, x, h0, h, v, h1, h2 => by
  rw [seek] at h h2
  split at h
  ·rename_i c
   rw [if_pos c] at h2
   by_cases e : v = x
   ·rw [e]; exact c
   ·exact zq64 out d (x + 1) (by omega) h v (by omega) h2
  ·rename_i c
   rw [if_neg c] at h2
   omega
theorem cnt_len (q : Int → Bool) : ∀ l : List Int, cnt q l = ((l.filter q).length : Int)
 | [] => rfl
 | h :: t => by
  have ih := cnt_len q t
  rw [cnt, List.filter_cons]
  split
  ·rw [List.length_cons]; omega
  ·omega
theorem all_ge (s : Int) (m : Nat) (out : List Int) (h : ∀ v, s ≤ v → v < s + m → v ∈ out) : (m : Int) ≤ cnt (fun x => decide (s ≤ x)) out := by
 rw [cnt_len]
 have := all_in m ((out.filter fun x => decide (s ≤ x)).map (· - s + 1)) fun v h1 h2 => List.mem_map.2 ⟨v + s - 1, List.mem_filter.2 ⟨h _ (by omega) (by omega), by simp; omega⟩, by omega⟩
 rw [List.length_map] at this
 omega
theorem zq65 (P : Int) (out : List Int) : ∀ (m : Nat), (∀ v, (m : Int) ≤ v → v < P → v ∈ out) → ∃ s : Int, 0 ≤ s ∧ s ≤ m ∧ (s = 0 ∨ s - 1 ∉ out) ∧ ∀ v, s ≤ v → v < P → v ∈ out
 | 0, h => ⟨0, by omega, by omega, .inl rfl, h⟩
 | m + 1, h => by
  by_cases c : ((m + 1 : Nat) : Int) - 1 ∈ out
  ·obtain ⟨s, h1, h2, h3, h4⟩ := zq65 P out m (fun v hv1 hv2 => by
    by_cases e : v = (m : Int)
    ·rw [e, show (m : Int) = ((m + 1 : Nat) : Int) - 1 by omega]; exact c
    ·exact h v (by omega) hv2)
   exact ⟨s, h1, by omega, h3, h4⟩
  ·exact ⟨((m + 1 : Nat) : Int), by omega, by omega, .inr c, h⟩
theorem zq66 (P : Int) (L : List Int) (hL : ∀ s : Int, 0 ≤ s → s ≤ P → cnt (fun x => decide (s ≤ x)) L ≤ P - s) : ∀ (t p out : List Int), p ++ t = L → (∀ c ∈ t, 0 ≤ c ∧ c < P) → (-1 : Int) ∉ out →
  (∀ s : Int, 0 ≤ s → s ≤ P → (s = 0 ∨ s - 1 ∉ out) → cnt (fun x => decide (s ≤ x)) out ≤ cnt (fun x => decide (s ≤ x)) p) → (-1 : Int) ∉ driveS P out t
 | [], p, out, _, _, hn, _ => hn
 | c :: t, p, out, hp, hc, hn, inv => by
  have hcc := hc c (by simp)
  rw [driveS]
  have hx : seek out (P - c).toNat c ≠ -1 := by
   intro e
   have hf := zq63 out (P - c).toNat c hcc.1 e
   obtain ⟨s, h1, h2, h3, h4⟩ := zq65 P out c.toNat (fun v hv1 hv2 => hf v (by omega) (by omega))
   have g1 := all_ge s (P - s).toNat out (fun v hv1 hv2 => h4 v hv1 (by omega))
   have g2 := inv s h1 (by omega) h3
   have g3 := hL s h1 (by omega)
   rw [← hp, zq25, cnt, if_pos (by simp; omega)] at g3
   have g4 := (zq24 (fun x => decide (s ≤ x)) t).1
   omega
  have hpass := zq64 out (P - c).toNat c hcc.1 hx
  have hge : c ≤ seek out (P - c).toNat c := by
   rcases zq9 out (P - c).toNat c with h5 | ⟨h5, _, _⟩
   ·exact absurd h5 hx
   ·exact h5
  generalize seek out (P - c).toNat c = x at *
  refine zq66 P L hL t (p ++ [c]) (out ++ [x]) (by rw [← hp]; simp) (fun y hy => hc y (by simp [hy])) ?_ fun s h1 h2 h3 => ?_
  ·rw [List.mem_append, List.mem_singleton, not_or]
   exact ⟨hn, fun e => hx e.symm⟩
  ·have h3' : s = 0 ∨ s - 1 ∉ out := h3.imp id fun h hm => h (List.mem_append_left _ hm)
   have g := inv s h1 h2 h3'
   rw [zq25, zq25]
   have e : cnt (fun y => decide (s ≤ y)) [x] ≤ cnt (fun y => decide (s ≤ y)) [c] := by
    simp only [cnt]
    by_cases d : s ≤ x
    ·have d2 : s ≤ c := by
      refine Classical.byContradiction fun d3 => ?_
      rcases h3' with e0 | e0
      ·omega
      ·exact e0 (hpass (s - 1) (by omega) (by omega))
     rw [if_pos (by simpa using d), if_pos (by simpa using d2)]
     omega
    ·rw [if_neg (by simpa using d)]
     split <;> omega
   omega
theorem pf_conv (l : List Int) (h8 : l.length ≤ 8) (hr : ∀ x ∈ l, 0 ≤ x ∧ x ≤ (l.length : Int) - 1) (hcnt : ∀ s : Int, 0 ≤ s → s ≤ l.length → cnt (fun x => decide (s ≤ x)) l ≤ (l.length : Int) - s) : pf l = true :=
 (pf_iff l).2 ⟨h8, hr, zq66 l.length l hcnt l [] [] rfl (fun c hc => by have := hr c hc; omega) (by simp) (fun s _ _ _ => by simp [cnt])⟩

theorem zq67 : ∀ (t p : List Int) (last : Int), -1 ≤ last → last ≤ p.length → p.length + t.length ≤ 8 →
  Ev (fun k => spec_waHeights.l0 k last (p ++ t) ((p ++ t).length : Int) (p.length : Int)) (hts last t)
 | [], p, last, _, _, _ => by
  refine Ev.ret fun k => ?_
  rw [spec_waHeights.l0, if_neg (by simp)]
  rfl
 | h :: t, p, last, h0, h1, hn => by
  have hn' : p.length + t.length + 1 ≤ 8 := by simpa [Nat.add_assoc] using hn
  have e1 : (p ++ [h]) ++ t = p ++ h :: t := by simp
  have e2 : (((p ++ [h]).length : Nat) : Int) = (p.length : Int) + 1 := by simp
  by_cases c : 0 ≤ h ∧ h ≤ last + 1
  ·have ih := zq67 t (p ++ [h]) h (by omega) (by omega) (by simp; omega)
   rw [e1, e2] at ih
   have er : hts last (h :: t) = hts h t := by simp [hts, c]
   rw [er]
   refine Ev.step (fun k => ?_) ih
   show spec_waHeights.l0 (k + 1) last (p ++ h :: t) ((p ++ h :: t).length : Int) (p.length : Int) = _
   rw [spec_waHeights.l0, if_pos (by simp; omega), if_pos (by omega), if_pos (by simp; omega), rd_mid, zq20, w64 (by omega) (by omega), w64 (by omega) (by omega)]
   simp [c]
  ·have er : hts last (h :: t) = false := by
    simp only [hts, Bool.and_eq_false_iff, decide_eq_false_iff_not]
    omega
   rw [er]
   refine Ev.ret fun k => ?_
   rw [spec_waHeights.l0, if_pos (by simp; omega), if_pos (by omega), if_pos (by simp; omega), rd_mid, zq20, w64 (by omega) (by omega)]
   have : (decide (0 ≤ h) && decide (h ≤ last + 1)) = false := by
    simp only [Bool.and_eq_false_iff, decide_eq_false_iff_not]
    omega
   rw [this]
   rfl
theorem zq68 (l : List Int) : Ev (fun k => spec_waHeights.f k l) (decide (l.length ≤ 8) && hts (-1) l) := by
 by_cases c : l.length ≤ 8
 ·have z := zq67 l [] (-1) (by omega) (by simp) (by simpa using c)
  rw [decide_eq_true c, Bool.true_and]
  refine Ev.congr (fun k => ?_) z
  show spec_waHeights.f k l = _
  rw [spec_waHeights.f, if_neg (by omega)]
  rfl
 ·rw [decide_eq_false c, Bool.false_and]
  refine Ev.congr (fun k => ?_) (Ev.now false)
  show spec_waHeights.f k l = _
  rw [spec_waHeights.f, if_pos (by omega)]

theorem zq69 (H L : List Int) (h8 : H.length ≤ 8) (hh : hts (-1) H = true) (hl : L.length = H.length) : ∀ (d i : Nat), i + d = L.length →
  Ev (fun k => spec_waGood.l0 k L (L.length : Int) (i : Int) H L) (bothFrom H L d i)
 | 0, i, hd => by
  refine Ev.ret fun k => ?_
  rw [spec_waGood.l0, if_neg (by omega), bothFrom]
 | d + 1, i, hd => by
  have ih := zq69 H L h8 hh hl d (i + 1) (by omega)
  rw [show ((i + 1 : Nat) : Int) = (i : Int) + 1 by omega] at ih
  rw [bothFrom]
  refine Ev.step (f := fun k => (spec_l1Has.f k (L.take i) (rd L i)).bind fun t135 => if t135 = true then some false else if (i : Int) > 0 then (if (i : Int) < (H.length : Int) then (if 0 ≤ wrap64 ((i : Int) - 1) then (if wrap64 ((i : Int) - 1) < (H.length : Int) then (if rd H i = wrap64 (rd H (wrap64 ((i : Int) - 1)) + 1) then (if wrap64 ((i : Int) - 1) < (L.length : Int) then (if rd L (wrap64 ((i : Int) - 1)) > rd L i then some false else spec_waGood.l0 k L (L.length : Int) (wrap64 ((i : Int) + 1)) H L) else none) else spec_waGood.l0 k L (L.length : Int) (wrap64 ((i : Int) + 1)) H L) else none) else none) else none) else spec_waGood.l0 k L (L.length : Int) (wrap64 ((i : Int) + 1)) H L) (fun k => ?_) (Ev.bind (zq16 (L.take i) (rd L i) (by simp; omega)) ?_)
  ·rw [spec_waGood.l0, if_pos (by omega), if_pos (by omega), if_pos (by omega), if_pos (by omega), Int.toNat_natCast]
  ·by_cases g : rd L i ∈ L.take i
   ·rw [if_pos g]
    exact Ev.congr (fun k => by rw [if_pos (by simpa using g)]) (Ev.now _)
   ·rw [if_neg g]
    refine Ev.congr (fun k => by rw [if_neg (by simpa using g), w64 (x := (i : Int) - 1) (by omega) (by omega), w64 (x := (i : Int) + 1) (by omega) (by omega)]) ?_
    by_cases c0 : 0 < i
    ·have hr := hts_rd h8 hh ((i : Int) - 1) (by omega) (by omega)
     refine Ev.congr (fun k => by rw [if_pos (by omega), if_pos (by omega), if_pos (by omega), if_pos (by omega), w64 (by omega) (by omega)]) ?_
     by_cases c1 : rd H i = rd H ((i : Int) - 1) + 1
     ·by_cases c2 : rd L ((i : Int) - 1) > rd L i
      ·rw [if_pos ⟨c0, c1, c2⟩]
       exact Ev.congr (fun k => by rw [if_pos c1, if_pos (by omega), if_pos c2]) (Ev.now _)
      ·rw [if_neg (fun h => c2 h.2.2)]
       exact Ev.congr (fun k => by rw [if_pos c1, if_pos (by omega), if_neg c2]) ih
     ·rw [if_neg (fun h => c1 h.2.1)]
      exact Ev.congr (fun k => by rw [if_neg c1]) ih
    ·rw [if_neg (fun h => c0 h.1)]
     exact Ev.congr (fun k => by rw [if_neg (by omega)]) ih
theorem zq70 (H L : List Int) : Ev (fun k => spec_waGood.j0 k true H L) false :=
 Ev.ret fun k => by rw [spec_waGood.j0, if_pos rfl]
theorem zq71 (H L : List Int) (hL : L.length ≤ 35184372088832) : Ev (fun k => spec_waGood.f k H L) (goodW H L) := by
 refine Ev.bind (zq68 H) ?_
 cases c : decide (H.length ≤ 8) && hts (-1) H with
 | false =>
  rw [show goodW H L = false by rw [goodW, c, Bool.false_and]]
  exact Ev.congr (fun k => by rw [if_neg (by simp)]) (zq70 H L)
 | true =>
  have cc : H.length ≤ 8 ∧ hts (-1) H = true := by simpa using c
  refine Ev.congr (fun k => by rw [if_pos rfl]) ?_
  by_cases d : (L.length : Int) = (H.length : Int)
  ·refine Ev.congr (fun k => by rw [if_pos d, w64 (by omega) (by omega)]) ?_
   refine Ev.bind (zq22 L 0 ((H.length : Int) - 1) hL) ?_
   cases e : inAll 0 ((H.length : Int) - 1) L with
   | false =>
    rw [show goodW H L = false by rw [goodW, e, Bool.false_and, Bool.and_false, Bool.and_false]]
    exact Ev.congr (fun k => by rw [Bool.not_false]) (zq70 H L)
   | true =>
    rw [show goodW H L = bothFrom H L L.length 0 by rw [goodW, c, decide_eq_true d, e, Bool.true_and, Bool.true_and, Bool.true_and, zq56]]
    refine Ev.step (fun k => by rw [spec_waGood.j0, if_neg (by simp)]) ?_
    exact zq69 H L cc.1 cc.2 (by omega) L.length 0 (by omega)
  ·rw [show goodW H L = false by rw [goodW, decide_eq_false d, Bool.false_and, Bool.and_false]]
   exact Ev.congr (fun k => by rw [if_neg d]) (zq70 H L)

theorem zq72 (a b c : Int) : impl_between.f a b c = some (decide (b ≤ a) && decide (a ≤ c)) := by
 unfold impl_between.f
 by_cases h : a ≥ b
 ·rw [if_pos h]; simp [show b ≤ a from h]
 ·rw [if_neg h]; simp [show ¬ b ≤ a from h]

theorem zq73 (a : Int) : impl_isCars.f a = some (decide (0 ≤ a) && decide (a ≤ 8)) := by
 unfold impl_isCars.f
 rw [zq72]
 rfl

theorem zq74 : ∀ (t p : List Int) (last : Int), p.length + t.length ≤ 35184372088832 →
  (p = [] ∧ last = -1 ∨ ∃ q, p = q ++ [last]) → -1 ≤ last → last < p.length →
  Ev (fun k => impl_areHeights.l0 k (p ++ t) (p ++ t) ((p ++ t).length : Int) (p.length : Int)) (hts last t && decide ((p ++ t).length ≤ 8))
 | [], p, last, _, _, _, _ => by
  refine Ev.ret fun k => ?_
  rw [impl_areHeights.l0, if_neg (by simp), zq73]
  simp only [hts, Bool.true_and, Option.bind_some, Option.some.injEq]
  rw [Bool.eq_iff_iff]
  simp only [Bool.and_eq_true, decide_eq_true_eq]
  omega
 | h :: t, p, last, hn, hp, h0, h1 => by
  have hn' : p.length + t.length + 1 ≤ 35184372088832 := by simpa [Nat.add_assoc] using hn
  have e1 : (p ++ [h]) ++ t = p ++ h :: t := by simp
  have e2 : (((p ++ [h]).length : Nat) : Int) = (p.length : Int) + 1 := by simp
  by_cases c : 0 ≤ h ∧ h ≤ last + 1
  ·have ih := zq74 t (p ++ [h]) h (by simp; omega) (.inr ⟨p, rfl⟩) (by omega) (by omega)
   rw [e1, e2] at ih
   have er : hts last (h :: t) = hts h t := by simp [hts, c]
   rw [er]
   refine Ev.step (fun k => ?_) ih
   show impl_areHeights.l0 (k + 1) (p ++ h :: t) (p ++ h :: t) ((p ++ h :: t).length : Int) (p.length : Int) = _
   rw [impl_areHeights.l0, if_pos (by simp; omega), if_pos (by omega), if_pos (by simp; omega), rd_mid, if_neg (by omega)]
   rcases hp with ⟨rfl, rfl⟩ | ⟨q, rfl⟩
   ·rw [if_pos (by simp), if_neg (by omega), if_neg (by simp), w64 (by simp) (by simp)]
   ·have hl : ((q ++ [last]).length : Int) = (q.length : Int) + 1 := by simp
    have ep : wrap64 (((q ++ [last]).length : Int) - 1) = ((q ++ [last]).length : Int) - 1 := w64 (by omega) (by omega)
    rw [if_neg (by omega), if_pos (by omega), ep, if_pos (by omega), if_pos (by simp; omega), rd_prev, w64 (by omega) (by omega), if_neg (by omega), w64 (by omega) (by omega)]
  ·have er : hts last (h :: t) = false := by
    simp only [hts, Bool.and_eq_false_iff, decide_eq_false_iff_not]
    omega
   rw [er, Bool.false_and]
   refine Ev.ret fun k => ?_
   rw [impl_areHeights.l0, if_pos (by simp; omega), if_pos (by omega), if_pos (by simp; omega), rd_mid]
   by_cases c0 : h < 0
   ·rw [if_pos c0]
   ·rw [if_neg c0]
    rcases hp with ⟨rfl, rfl⟩ | ⟨q, rfl⟩
    ·rw [if_pos (by simp), if_pos (by omega)]
    ·have hl : ((q ++ [last]).length : Int) = (q.length : Int) + 1 := by simp
     have ep : wrap64 (((q ++ [last]).length : Int) - 1) = ((q ++ [last]).length : Int) - 1 := w64 (by omega) (by omega)
     rw [if_neg (by omega), if_pos (by omega), ep, if_pos (by omega), if_pos (by simp; omega), rd_prev, w64 (by omega) (by omega), if_pos (by omega)]
theorem zq75 (l : List Int) (hl : l.length ≤ 35184372088832) : Ev (fun k => impl_areHeights.f k l) (decide (l.length ≤ 8) && hts (-1) l) := by
 have z := zq74 l [] (-1) (by simpa using hl) (.inl ⟨rfl, rfl⟩) (by omega) (by simp)
 rw [Bool.and_comm]
 exact z

theorem zq76 (l : List Int) : (l.mergeSort fun x y => decide (x ≤ y)) = srt l := by
 refine zq44 _ _ ?_ (srt_up l) ((List.mergeSort_perm l _).trans (zq43 l).symm)
 have h := List.pairwise_mergeSort (le := fun x y : Int => decide (x ≤ y)) (fun a b c h1 h2 => by simp at h1 h2 ⊢; omega) (fun a b => by simp; omega) l
 exact h.imp fun hab => by simpa using hab
theorem zq77 (l : List Int) (hl : l.length ≤ 10000000) : Ev (fun k => impl_sorted.f k l) (srt l) := by
 refine Ev.congr (fun k => ?_) (Ev.now (srt l))
 show impl_sorted.f k l = _
 rw [impl_sorted.f, if_pos hl, slices_Sort_int_int.f, if_pos (by omega), zq76]

theorem zq78 (l : List Int) (hl : l.length ≤ 12) : Ev (fun k => impl_sorted.f k l) (srt l) := zq77 l (by omega)

theorem zq79 (l0 : List Int) : ∀ (t p : List Int), p.length + t.length ≤ 35184372088832 →
  Ev (fun k => impl_isOrder.l0 k l0 (p ++ t) ((p ++ t).length : Int) (p.length : Int)) (isUp t p.length && decide ((l0.length : Int) ≤ 8))
 | [], p, _ => by
  refine Ev.ret fun k => ?_
  rw [impl_isOrder.l0, if_neg (by simp), isUp, Bool.true_and]
 | h :: t, p, hn => by
  have hn' : p.length + t.length + 1 ≤ 35184372088832 := by simpa [Nat.add_assoc] using hn
  have hm := len_mid p h t
  rw [isUp]
  by_cases c : h = (p.length : Int)
  ·have ih := zq79 l0 t (p ++ [h]) (by simp; omega)
   rw [zq1 p h t, zq0 p h] at ih
   rw [decide_eq_true c, Bool.true_and]
   refine Ev.step (fun k => ?_) ih
   show impl_isOrder.l0 (k + 1) l0 (p ++ h :: t) ((p ++ h :: t).length : Int) (p.length : Int) = _
   rw [impl_isOrder.l0, if_pos (by omega), if_pos (by omega), if_pos (by omega), rd_mid, if_pos c, w64 (by omega) (by omega)]
  ·rw [decide_eq_false c, Bool.false_and, Bool.false_and]
   refine Ev.ret fun k => ?_
   rw [impl_isOrder.l0, if_pos (by omega), if_pos (by omega), if_pos (by omega), rd_mid, if_neg c]
theorem zq80 (l : List Int) (hl : l.length ≤ 12) : Ev (fun k => impl_isOrder.f k l) (isUp (srt l) 0 && decide ((l.length : Int) ≤ 8)) := by
 refine Ev.bind (zq78 l hl) ?_
 exact zq79 l (srt l) [] (by have := (zq43 l).length_eq; simp; omega)

theorem zq81 (H L : List Int) (h8 : H.length ≤ 8) (hh : hts (-1) H = true) (hl : L.length = H.length) : ∀ (d i : Nat), 1 ≤ i → i + d = max 1 H.length →
  Ev (fun k => impl_isWalk.l0 k (i : Int) H L) (labsFrom H L d i)
 | 0, i, h1, hd => by
  refine Ev.ret fun k => ?_
  rw [impl_isWalk.l0, if_neg (by omega), labsFrom]
 | d + 1, i, h1, hd => by
  have ih := zq81 H L h8 hh hl d (i + 1) (by omega) (by omega)
  rw [show ((i + 1 : Nat) : Int) = (i : Int) + 1 by omega] at ih
  have hr := hts_rd h8 hh ((i : Int) - 1) (by omega) (by omega)
  rw [labsFrom]
  by_cases c1 : rd H i = rd H ((i : Int) - 1) + 1
  ·by_cases c2 : rd L ((i : Int) - 1) > rd L i
   ·rw [if_pos ⟨c1, c2⟩]
    refine Ev.ret fun k => ?_
    rw [impl_isWalk.l0, w64 (x := (i : Int) - 1) (by omega) (by omega), w64 (x := rd H ((i : Int) - 1) + 1) (by omega) (by omega), if_pos (by omega), if_pos (by omega), if_pos (by omega), if_pos (by omega), if_pos c1, if_pos (by omega), if_pos (by omega), if_pos c2]
   ·rw [if_neg (fun h => c2 h.2)]
    refine Ev.step (fun k => ?_) ih
    show impl_isWalk.l0 (k + 1) (i : Int) H L = _
    rw [impl_isWalk.l0, w64 (x := (i : Int) - 1) (by omega) (by omega), w64 (x := rd H ((i : Int) - 1) + 1) (by omega) (by omega), if_pos (by omega), if_pos (by omega), if_pos (by omega), if_pos (by omega), if_pos c1, if_pos (by omega), if_pos (by omega), if_neg c2, w64 (by omega) (by omega)]
  ·rw [if_neg (fun h => c1 h.1)]
   refine Ev.step (fun k => ?_) ih
   show impl_isWalk.l0 (k + 1) (i : Int) H L = _
   rw [impl_isWalk.l0, w64 (x := (i : Int) - 1) (by omega) (by omega), w64 (x := rd H ((i : Int) - 1) + 1) (by omega) (by omega), if_pos (by omega), if_pos (by omega), if_pos (by omega), if_pos (by omega), if_neg c1, w64 (by omega) (by omega)]
theorem zq82 (H L : List Int) : Ev (fun k => impl_isWalk.j0 k true H L) false :=
 Ev.ret fun k => by rw [impl_isWalk.j0, if_pos rfl]
theorem zq83 (H L : List Int) (hH : H.length ≤ 35184372088832) : Ev (fun k => impl_isWalk.f k H L) (goodW H L) := by
 refine Ev.bind (zq75 H hH) ?_
 cases c : decide (H.length ≤ 8) && hts (-1) H with
 | false =>
  rw [show goodW H L = false by rw [goodW, c, Bool.false_and]]
  exact Ev.congr (fun k => by rw [if_neg (by simp)]) (zq82 H L)
 | true =>
  have cc : H.length ≤ 8 ∧ hts (-1) H = true := by simpa using c
  refine Ev.congr (fun k => by rw [if_pos rfl]) ?_
  by_cases d : (L.length : Int) = (H.length : Int)
  ·refine Ev.congr (fun k => by rw [if_pos d]) ?_
   refine Ev.bind (zq80 L (by omega)) ?_
   have e8 : decide ((L.length : Int) ≤ 8) = true := decide_eq_true (by omega)
   rw [e8, Bool.and_true]
   have ho := zq52 L
   cases e : isUp (srt L) 0 with
   | false =>
    have : goodW H L = false := by
     refine Bool.eq_false_iff.2 fun h => ?_
     obtain ⟨_, _, h3, h4, _⟩ := (zq57 H L).1 h
     have := ho.2 ⟨(zq12 _ _ _).2 fun x hx => by have := h3 x hx; omega, h4⟩
     rw [e] at this
     cases this
    rw [this]
    exact Ev.congr (fun k => by rw [Bool.not_false]) (zq82 H L)
   | true =>
    obtain ⟨h1, h2⟩ := ho.1 e
    rw [d] at h1
    rw [show goodW H L = labsFrom H L (L.length - 1) 1 by rw [goodW, c, decide_eq_true d, h1, decide_eq_true h2, Bool.true_and, Bool.true_and, Bool.true_and, Bool.true_and]]
    refine Ev.step (fun k => by rw [impl_isWalk.j0, if_neg (by simp)]) ?_
    exact zq81 H L cc.1 cc.2 (by omega) (L.length - 1) 1 (by omega) (by omega)
  ·rw [show goodW H L = false by rw [goodW, decide_eq_false d, Bool.false_and, Bool.and_false]]
   exact Ev.congr (fun k => by rw [if_neg d]) (zq82 H L)

def backW (H L : List Int) : Nat → Nat → List Int → List Int
 | 0, _, out => out
 | d + 1, i, out => backW H L d (i + 1) (out.set (rd L i).toNat ((i : Int) - rd H i))
theorem zq84 (H L : List Int) : ∀ (d i : Nat) (out : List Int), (backW H L d i out).length = out.length
 | 0, _, _ => rfl
 | d + 1, i, out => by rw [backW, zq84 H L d]; simp
theorem zq85 (H L : List Int) (hg : goodW H L = true) : ∀ (d i : Nat) (out : List Int), i + d = L.length → out.length = L.length →
  Ev (fun k => spec_ParkingOfWalk.l0 k out L (L.length : Int) (i : Int) H L) (backW H L d i out, true)
 | 0, i, out, hd, ho => by
  refine Ev.ret fun k => ?_
  rw [spec_ParkingOfWalk.l0, if_neg (by omega), backW]
 | d + 1, i, out, hd, ho => by
  obtain ⟨⟨h8, hh⟩, h2, h3, _⟩ := (zq57 H L).1 hg
  have hL := h3 (rd L i) (rd_mem L i (by omega) (by omega))
  have hH := hts_rd h8 hh (i : Int) (by omega) (by omega)
  have ih := zq85 H L hg d (i + 1) (out.set (rd L i).toNat ((i : Int) - rd H i)) (by omega) (by simp [ho])
  rw [show ((i + 1 : Nat) : Int) = (i : Int) + 1 by omega] at ih
  rw [backW]
  refine Ev.step (fun k => ?_) ih
  show spec_ParkingOfWalk.l0 (k + 1) out L (L.length : Int) (i : Int) H L = _
  rw [spec_ParkingOfWalk.l0, if_pos (by omega), if_pos (by omega), if_pos (by omega), if_pos (by omega), if_pos (by omega), if_pos (by omega), w64 (by omega) (by omega), w64 (by omega) (by omega)]
theorem zq86 (H L : List Int) (hg : goodW H L = true) : ∀ (d i : Nat) (out : List Int), i + d = L.length → out.length = L.length →
  Ev (fun k => impl_ParkingOfWalk.l0 k out L (L.length : Int) (i : Int) H L) (backW H L d i out, true)
 | 0, i, out, hd, ho => by
  refine Ev.ret fun k => ?_
  rw [impl_ParkingOfWalk.l0, if_neg (by omega), backW]
 | d + 1, i, out, hd, ho => by
  obtain ⟨⟨h8, hh⟩, h2, h3, _⟩ := (zq57 H L).1 hg
  have hL := h3 (rd L i) (rd_mem L i (by omega) (by omega))
  have hH := hts_rd h8 hh (i : Int) (by omega) (by omega)
  have ih := zq86 H L hg d (i + 1) (out.set (rd L i).toNat ((i : Int) - rd H i)) (by omega) (by simp [ho])
  rw [show ((i + 1 : Nat) : Int) = (i : Int) + 1 by omega] at ih
  rw [backW]
  refine Ev.step (fun k => ?_) ih
  show impl_ParkingOfWalk.l0 (k + 1) out L (L.length : Int) (i : Int) H L = _
  rw [impl_ParkingOfWalk.l0, if_pos (by omega), if_pos (by omega), if_pos (by omega), if_pos (by omega), if_pos (by omega), if_pos (by omega), w64 (by omega) (by omega), w64 (by omega) (by omega)]
def touchS (H : List Int) : List Int := (places (fun n => decide (n = 0)) H 0).drop 1
theorem zq87 (H L : List Int) (hH : H.length ≤ 1000000) : Ev (fun k => impl_TouchesOf.f k H L) (if goodW H L = true then (touchS H, true) else ([], false)) := by
 refine Ev.bind (zq83 H L (by omega)) ?_
 cases c : goodW H L with
 | false => rw [if_neg (by simp)]; exact Ev.now _
 | true =>
  rw [if_pos rfl]
  refine Ev.congr (fun k => by rw [if_pos rfl]) ?_
  have hi : Ev (fun k => impl_TouchesOf_1.f k H) (places (fun n => decide (n = 0)) H 0) := zq30 _ H hH
  refine Ev.bind hi ?_
  unfold touchS
  generalize places (fun n => decide (n = 0)) H 0 = z
  cases z with
  | nil => exact Ev.congr (fun k => by rw [show mn (([] : List Int).length : Int) 1 = 0 from rfl, if_pos (by omega), if_pos (by simp)]; rfl) (Ev.now _)
  | cons a t =>
   have e : mn ((a :: t).length : Int) 1 = 1 := by unfold mn; rw [List.length_cons]; split <;> omega
   exact Ev.congr (fun k => by rw [e, if_pos (by omega), if_pos (by rw [List.length_cons]; omega)]; rfl) (Ev.now _)

def kids (par : List Int) (v : Int) : List Int := (places (fun p => decide (p = v)) par 0).map (· + 1)
theorem zq88 (par : List Int) (v x : Int) : x ∈ kids par v ↔ 1 ≤ x ∧ x ≤ par.length ∧ rd par (x - 1) = v := by
 rw [kids, List.mem_map]
 constructor
 ·rintro ⟨y, hy, rfl⟩
  obtain ⟨j, w, h1, h2, h3⟩ := (zq27 _ _ _ _).1 hy
  have h4 := (List.getElem?_eq_some_iff.1 h1).1
  refine ⟨by omega, by omega, ?_⟩
  have h5 : w = v := by simpa using h2
  unfold rd
  rw [show (y + 1 - 1).toNat = j by omega, List.getD_eq_getElem?_getD, h1, ← h5]
  rfl
 ·rintro ⟨h1, h2, h3⟩
  refine ⟨x - 1, (zq27 _ _ _ _).2 ⟨(x - 1).toNat, v, ?_, by simp, by omega⟩, by omega⟩
  unfold rd at h3
  rw [List.getD_eq_getElem?_getD, List.getElem?_eq_getElem (by omega)] at h3
  rw [List.getElem?_eq_getElem (by omega)]
  exact congrArg some h3
theorem zq89 (par : List Int) (v : Int) : (kids par v).Nodup := by
 rw [kids]
 refine List.pairwise_map.2 ((zq28 (fun p => decide (p = v)) par 0).imp ?_)
 intro a b h
 omega
structure InB (par ord : List Int) (k : Nat) : Prop where
 nd : ord.Nodup
 le : k ≤ ord.length
 zero : 0 ∈ ord
 range : ∀ v ∈ ord, 0 ≤ v ∧ v ≤ par.length
 has : ∀ v : Int, 1 ≤ v → v ≤ par.length → (v ∈ ord ↔ rd par (v - 1) ∈ ord.take k)
theorem InB.length {par ord : List Int} {k : Nat} (h : InB par ord k) : ord.length ≤ par.length + 1 := zq41 par.length ord h.nd h.range
theorem InB.step {par ord : List Int} {k : Nat} (h : InB par ord k) (hk : k < ord.length) : InB par (ord ++ kids par (rd ord k)) (k + 1) := by
 have hrk : rd ord (k : Int) = ord[k] := by
  unfold rd
  rw [Int.toNat_natCast, List.getD_eq_getElem?_getD, List.getElem?_eq_getElem hk]
  rfl
 have hnt : rd ord (k : Int) ∉ ord.take k := by
  rw [hrk]
  intro hm
  obtain ⟨i, hi, e⟩ := List.mem_iff_getElem.1 hm
  rw [List.getElem_take] at e
  have : i < k := by simp at hi; omega
  exact zq40 h.nd this hk e
 have htk : (ord ++ kids par (rd ord k)).take (k + 1) = ord.take k ++ [rd ord (k : Int)] := by
  rw [List.take_append_of_le_length (by omega), hrk, List.take_append_getElem]
 refine ⟨?_, by simp; omega, List.mem_append_left _ h.zero, ?_, ?_⟩
 ·refine List.nodup_append.2 ⟨h.nd, zq89 par _, ?_⟩
  intro a ha b hb e
  obtain ⟨h1, h2, h3⟩ := (zq88 par _ b).1 hb
  rw [e] at ha
  have := (h.has b h1 h2).1 ha
  rw [h3] at this
  exact hnt this
 ·intro v hv
  rcases List.mem_append.1 hv with h1 | h1
  ·exact h.range v h1
  ·obtain ⟨h2, h3, _⟩ := (zq88 par _ v).1 h1
   omega
 ·intro v h1 h2
  rw [htk, List.mem_append, List.mem_append, h.has v h1 h2, zq88, List.mem_singleton]
  constructor
  ·rintro (h3 | ⟨_, _, h3⟩)
   ·exact .inl h3
   ·exact .inr h3
  ·rintro (h3 | h3)
   ·exact .inl h3
   ·exact .inr ⟨h1, h2, h3⟩
theorem InB.all {par ord : List Int} (h : InB par ord ord.length) : ∀ (m : Nat) (v : Int), 0 ≤ v → v ≤ par.length → climb par m v = true → (∀ x ∈ par, 0 ≤ x ∧ x ≤ par.length) → v ∈ ord
 | 0, v, h0, h1, hc, _ => by
  simp only [climb, decide_eq_true_eq] at hc
  rw [show v = 0 by omega]
  exact h.zero
 | m + 1, v, h0, h1, hc, hp => by
  by_cases c : v > 0
  ·rw [climb, if_pos c] at hc
   have hr := hp _ (rd_mem par (v - 1) (by omega) (by omega))
   have ih := InB.all h m (rd par (v - 1)) hr.1 hr.2 hc hp
   refine (h.has v (by omega) h1).2 ?_
   rw [List.take_length]
   exact ih
  ·rw [show v = 0 by omega]
   exact h.zero
theorem rd_inj {l : List Int} (h : l.Nodup) {i j : Int} (hi0 : 0 ≤ i) (hi : i < l.length) (hj0 : 0 ≤ j) (hj : j < l.length) (e : rd l i = rd l j) : i = j := by
 unfold rd at e
 rw [List.getD_eq_getElem?_getD, List.getD_eq_getElem?_getD, List.getElem?_eq_getElem (by omega), List.getElem?_eq_getElem (by omega)] at e
 have e' : l[i.toNat]'(by omega) = l[j.toNat]'(by omega) := e
 rcases Nat.lt_trichotomy i.toNat j.toNat with h1 | h1 | h1
 ·exact absurd e' (zq40 h h1 (by omega))
 ·omega
 ·exact absurd e'.symm (zq40 h h1 (by omega))
def orNone (l : List Int) : List Int × Bool := if (-1 : Int) ∈ l then ([], false) else (l, true)
def DriveGoes (places : Int) (out : List Int) (w : Int) (cars : List Int) (n i : Int) (r : List Int × Bool) : Prop :=
 (w = -1 → r = ([], false)) ∧ (w ≠ -1 → ∀ taken', Tk places (out ++ [w]) taken' → Ev (fun k => impl_drive.l0 k places taken' (out ++ [w]) cars n (wrap64 (i + 1))) r)
theorem zq90 (places : Int) (taken : List Bool) (out : List Int) (ht : Tk places out taken) (cars : List Int) (n i : Int) (ho : out.length ≤ 1000) (hp : places ≤ 1000) (r : List Int × Bool) : ∀ (d : Nat) (x : Int), (places - x).toNat = d → 0 ≤ x →
  DriveGoes places out (seek out d x) cars n i r → Ev (fun k => impl_drive.l1 k places taken out x cars n i) r
 | 0, x, hx, h0, h => by
  obtain rfl := h.1 rfl
  refine Ev.ret fun k => ?_
  rw [impl_drive.l1, if_neg (by omega), if_pos (by omega)]
 | d + 1, x, hx, h0, h => by
  have ha := ht.at x h0 (by omega)
  have hl := ht.1
  by_cases c : x ∈ out
  ·rw [seek, if_pos c] at h
   refine Ev.step (fun k => ?_) (zq90 places taken out ht cars n i ho hp r d (x + 1) (by omega) (by omega) h)
   show impl_drive.l1 (k + 1) places taken out x cars n i = _
   rw [impl_drive.l1, if_pos (by omega), if_pos (by omega), if_pos (by omega), ha, decide_eq_true c, if_pos rfl, w64 (by omega) (by omega)]
  ·rw [seek, if_neg c] at h
   refine Ev.step (fun k => ?_) (h.2 (by omega) _ (ht.take x h0 (by omega)))
   show impl_drive.l1 (k + 1) places taken out x cars n i = _
   rw [impl_drive.l1, if_pos (by omega), if_pos (by omega), if_pos (by omega), ha, decide_eq_false c, if_neg (by simp), if_neg (by omega), if_pos (by omega)]
theorem zq91 (places : Int) (hp : places ≤ 1000) : ∀ (t p out : List Int) (taken : List Bool), Tk places out taken → (-1 : Int) ∉ out → (∀ c ∈ t, 0 ≤ c) → p.length + t.length ≤ 500 → out.length + t.length ≤ 500 →
  Ev (fun k => impl_drive.l0 k places taken out (p ++ t) ((p ++ t).length : Int) (p.length : Int)) (orNone (driveS places out t))
 | [], p, out, taken, _, hnot, _, _, _ => by
  refine Ev.ret fun k => ?_
  rw [impl_drive.l0, if_neg (by simp)]
  show some (out, true) = some (orNone out)
  rw [orNone, if_neg hnot]
 | c :: t, p, out, taken, ht, hnot, hc, hn, ho => by
  have hn' : p.length + t.length + 1 ≤ 500 := by simpa [Nat.add_assoc] using hn
  have ho' : out.length + t.length + 1 ≤ 500 := by simpa [Nat.add_assoc] using ho
  have hm := len_mid p c t
  have h0 := hc c (by simp)
  refine Ev.step (fun k => ?_) (zq90 places taken out ht (p ++ c :: t) ((p ++ c :: t).length : Int) (p.length : Int) (by omega) hp (orNone (driveS places out (c :: t))) (places - c).toNat c rfl h0 ⟨fun e => ?_, fun e taken' ht' => ?_⟩)
  ·show impl_drive.l0 (k + 1) places taken out (p ++ c :: t) ((p ++ c :: t).length : Int) (p.length : Int) = _
   rw [impl_drive.l0, if_pos (by omega), if_pos (by omega), if_pos (by omega), rd_mid]
  ·obtain ⟨s, _, hs⟩ := zq10 places t (out ++ [-1])
   simp only [driveS, e, hs]
   unfold orNone
   rw [if_pos (by simp)]
  ·have ih := zq91 places hp t (p ++ [c]) (out ++ [seek out (places - c).toNat c]) taken' ht' (by simp [hnot]; exact fun h => e h.symm) (fun x hx => hc x (by simp [hx])) (by simp; omega) (by simp; omega)
   rw [zq1, zq0] at ih
   rw [w64 (by omega) (by omega)]
   exact ih
theorem zq92 (l : List Int) (places : Int) (hp0 : 0 ≤ places) (hp : places ≤ 1000) (hl : l.length ≤ 500) (hc : ∀ c ∈ l, 0 ≤ c) : Ev (fun k => impl_drive.f k l places) (orNone (driveS places [] l)) := by
 refine Ev.congr (fun k => by rw [impl_drive.f, if_pos hp0, if_pos (by omega)]) ?_
 exact zq91 places hp l [] [] _ (Tk.none places hp0) (by simp) hc (by simpa using hl) (by simpa using hl)

theorem zq93 (q : Int → Bool) : ∀ (t p : List Int), p.length + t.length ≤ 35184372088832 →
  ∃ r : Int, decide (r ≥ 0) = t.any q ∧ Ev (fun k => slices_IndexFunc_int_int.l0 q k (p ++ t) ((p ++ t).length : Int) (p.length : Int)) r
 | [], p, _ => by
  refine ⟨-1, by simp, Ev.ret fun k => ?_⟩
  rw [slices_IndexFunc_int_int.l0, if_neg (by simp)]
 | h :: t, p, hn => by
  have hn' : p.length + t.length + 1 ≤ 35184372088832 := by simpa [Nat.add_assoc] using hn
  have hm := len_mid p h t
  cases c : q h with
  | true =>
   refine ⟨p.length, by simp [c], Ev.ret fun k => ?_⟩
   rw [slices_IndexFunc_int_int.l0, if_pos (by omega), if_pos (by omega), if_pos (by omega), rd_mid, c, Option.bind_some, if_pos rfl]
  | false =>
   obtain ⟨r, hr, ih⟩ := zq93 q t (p ++ [h]) (by simp; omega)
   rw [zq1, zq0] at ih
   refine ⟨r, by simpa [c] using hr, Ev.step (fun k => ?_) ih⟩
   show slices_IndexFunc_int_int.l0 q (k + 1) (p ++ h :: t) ((p ++ h :: t).length : Int) (p.length : Int) = _
   rw [slices_IndexFunc_int_int.l0, if_pos (by omega), if_pos (by omega), if_pos (by omega), rd_mid, c, Option.bind_some, if_neg (by simp), w64 (by omega) (by omega)]
theorem zq94 (q : Int → Bool) (l : List Int) (hl : l.length ≤ 35184372088832) : Ev (fun k => slices_ContainsFunc_int_int.f q k l) (l.any q) := by
 obtain ⟨r, hr, h⟩ := zq93 q l [] (by simpa using hl)
 rw [← hr]
 exact Ev.congr (fun k => rfl) (Ev.bind h (Ev.now _))

theorem zq95 (l : List Int) (lo hi : Int) (hl : l.length ≤ 35184372088832) : Ev (fun k => impl_areBetween.f k l lo hi) (inAll lo hi l) := by
 have e : (!(l.any (impl_areBetween_1.p lo hi))) = inAll lo hi l := by
  have hp : ∀ n, impl_areBetween_1.p lo hi n = !(decide (lo ≤ n) && decide (n ≤ hi)) := fun n => by
   simp [impl_areBetween_1.p, zq72]
  unfold inAll
  induction l with
  | nil => rfl
  | cons x t ih =>
   rw [List.any_cons, List.all_cons, Bool.not_or, ih (by simp at hl; omega), hp, Bool.not_not]
 rw [← e]
 exact Ev.congr (fun k => rfl) (Ev.bind (zq94 (impl_areBetween_1.p lo hi) l hl) (Ev.now _))

theorem zq96 (l : List Int) (hl : l.length ≤ 35184372088832) : Ev (fun k => impl_areCars.f k l) (decide (l.length ≤ 8) && inAll 0 99 l) := by
 by_cases c8 : l.length ≤ 8
 ·rw [decide_eq_true c8, Bool.true_and]
  refine Ev.congr (fun k => by rw [impl_areCars.f, if_pos (by omega)]) ?_
  exact Ev.bind (zq95 l 0 99 hl) (Ev.now _)
 ·rw [decide_eq_false c8, Bool.false_and]
  exact Ev.congr (fun k => by rw [impl_areCars.f, if_neg (by omega)]) (Ev.now false)
theorem zq97 (l : List Int) (hl : l.length ≤ 35184372088832) : Ev (fun k => impl_isParking.f k l) (pf l) := by
 refine Ev.congr (fun k => rfl) (Ev.bind (zq96 l hl) ?_)
 cases c : decide (l.length ≤ 8) && inAll 0 99 l with
 | false =>
  have e : pf l = false := by
   cases d : pf l with
   | false => rfl
   | true =>
    obtain ⟨h1, h2, _⟩ := (pf_iff l).1 d
    rw [decide_eq_true h1, Bool.true_and] at c
    have : inAll 0 99 l = true := (zq12 _ _ _).2 fun x hx => by have := h2 x hx; omega
    rw [this] at c; cases c
  rw [e]
  exact Ev.congr (fun k => by rw [if_neg (by simp)]) (Ev.now false)
 | true =>
  have cc : l.length ≤ 8 ∧ inAll 0 99 l = true := by simpa only [Bool.and_eq_true, decide_eq_true_eq] using c
  have hx := (zq12 _ _ _).1 cc.2
  refine Ev.congr (fun k => by rw [if_pos rfl]) ?_
  refine Ev.bind (zq92 l l.length (by omega) (by omega) (by omega) (fun x h => (hx x h).1)) ?_
  have e : (orNone (driveS l.length [] l)).2 = pf l := by
   unfold orNone
   by_cases d : (-1 : Int) ∈ driveS l.length [] l
   ·rw [if_pos d]
    symm
    simp [pf, d]
   ·rw [if_neg d]
    symm
    rw [pf_iff]
    refine ⟨cc.1, fun x h => ⟨(hx x h).1, ?_⟩, d⟩
    have : ¬ (l.length : Int) ≤ x := fun h1 => d (zq14 _ _ _ ⟨x, h, h1⟩)
    omega
  rw [← e]
  exact Ev.now _

theorem rd_set (l : List Int) (i j : Nat) (x : Int) (hi : i < l.length) : rd (l.set i x) (j : Int) = if j = i then x else rd l (j : Int) := by
 rw [rd_nat, rd_nat, List.getD_eq_getElem?_getD, List.getD_eq_getElem?_getD]
 by_cases c : j = i
 ·rw [if_pos c, c, List.getElem?_set_self hi]; rfl
 ·rw [if_neg c, List.getElem?_set_ne (fun e => c e.symm)]

theorem rd_map (f : Int → Int) (l : List Int) (j : Nat) (hj : j < l.length) : rd (l.map f) j = f (rd l j) := by
 rw [rd_nat, rd_nat, List.getD_eq_getElem?_getD, List.getD_eq_getElem?_getD, List.getElem?_map, List.getElem?_eq_getElem hj]
 rfl
theorem ext_rd (a b : List Int) (hl : a.length = b.length) (h : ∀ j : Nat, j < a.length → rd a j = rd b j) : a = b := by
 refine List.ext_getElem hl fun j h1 h2 => ?_
 have := h j h1
 rw [rd_nat, rd_nat, List.getD_eq_getElem?_getD, List.getD_eq_getElem?_getD, List.getElem?_eq_getElem h1, List.getElem?_eq_getElem h2] at this
 exact this
theorem zq98 (P : Int) : ∀ (t out : List Int), (∀ c ∈ t, 0 ≤ c) → (∀ v ∈ out, v = -1 ∨ 0 ≤ v ∧ v < P) → ∀ v ∈ driveS P out t, v = -1 ∨ 0 ≤ v ∧ v < P
 | [], out, _, ho, v, hv => ho v hv
 | c :: t, out, hc, ho, v, hv => by
  rw [driveS] at hv
  refine zq98 P t _ (fun x hx => hc x (by simp [hx])) (fun w hw => ?_) v hv
  rcases List.mem_append.1 hw with h | h
  ·exact ho w h
  ·rw [List.mem_singleton] at h
   subst h
   have h3 := hc c (by simp)
   rcases zq9 out (P - c).toNat c with h5 | ⟨h5, h6, _⟩
   ·exact .inl h5
   ·exact .inr ⟨by omega, by omega⟩
theorem zq99 {a b : List Int} (h : a.Perm b) : a.sum = b.sum := by
 induction h with
 | nil => rfl
 | cons x _ ih => rw [List.sum_cons, List.sum_cons, ih]
 | swap x y l => simp only [List.sum_cons]; omega
 | trans _ _ h1 h2 => rw [h1, h2]
theorem zq100 (q : Int → Bool) {a b : List Int} (h : a.Perm b) : cnt q a = cnt q b := by
 induction h with
 | nil => rfl
 | cons x _ ih => rw [cnt, cnt, ih]
 | swap x y l => simp only [cnt]; omega
 | trans _ _ h1 h2 => rw [h1, h2]
theorem zq101 {a b : List Int} (ha : a.Nodup) (hb : b.Nodup) (h : ∀ x, x ∈ a ↔ x ∈ b) : a.Perm b := by
 have e : srt a = srt b := zq45 _ _ (zq46 a ha) (zq46 b hb) fun x => by rw [(zq43 a).mem_iff, (zq43 b).mem_iff, h]
 exact (zq43 a).symm.trans (e ▸ zq43 b)
theorem iota_rd : ∀ (m : Nat) (i : Int) (j : Nat), j < m → rd (iota m i) (j : Int) = i + j
 | 0, i, j, h => by omega
 | m + 1, i, 0, h => by rw [iota, rd_nat, List.getD_cons_zero]; omega
 | m + 1, i, j + 1, h => by
  have ih := iota_rd m (i + 1) j (by omega)
  rw [iota, rd_nat, List.getD_cons_succ, ← rd_nat, ih]
  omega

def hF (l : List Int) : Int → List Int → List Int
 | _, [] => []
 | i, c :: t => (i - rd l c) :: hF l (i + 1) t
theorem zq102 (l : List Int) : ∀ (t : List Int) (i : Int), (hF l i t).length = t.length
 | [], _ => rfl
 | c :: t, i => by rw [hF, List.length_cons, zq102 l t, List.length_cons]
theorem zq103 (l : List Int) : ∀ (a b : List Int) (i : Int), hF l i (a ++ b) = hF l i a ++ hF l (i + a.length) b
 | [], b, i => by simp [hF]
 | c :: t, b, i => by
  rw [List.cons_append, hF, hF, zq103 l t b, List.cons_append, List.length_cons, show i + 1 + (t.length : Int) = i + ((t.length + 1 : Nat) : Int) by omega]
theorem hF_rd (l : List Int) : ∀ (t : List Int) (i : Int) (j : Nat), j < t.length → rd (hF l i t) (j : Int) = i + j - rd l (rd t (j : Int))
 | [], i, j, h => by simp at h
 | c :: t, i, j, h => by
  rw [hF, rd_nat, rd_nat]
  cases j with
  | zero => rw [List.getD_cons_zero, List.getD_cons_zero]; omega
  | succ j =>
   have ih := hF_rd l t (i + 1) j (by simpa using h)
   rw [List.getD_cons_succ, List.getD_cons_succ, ← rd_nat, ← rd_nat, ih]
   omega
theorem wadd_hF (l : List Int) (f : Int) : ∀ (t H L : List Int), (∀ c ∈ t, rd l c = f) → wadd f t H L = (H ++ hF l L.length t, L ++ t)
 | [], H, L, _ => by simp [wadd, hF]
 | c :: t, H, L, h => by
  have hc := h c (by simp)
  rw [wadd, wadd_hF l f t _ _ (fun x hx => h x (by simp [hx])), hF, hc, zq0]
  simp
def labs (l : List Int) : Nat → Nat → List Int
 | 0, _ => []
 | d + 1, k => cars l k ++ labs l d (k + 1)
theorem zq104 (l : List Int) (k c : Int) : c ∈ cars l k ↔ 0 ≤ c ∧ c < l.length ∧ rd l c = k := by
 unfold cars
 rw [zq27]
 constructor
 ·rintro ⟨j, v, h1, h2, e⟩
  obtain ⟨h3, h4⟩ := List.getElem?_eq_some_iff.1 h1
  have e' : c = (j : Int) := by omega
  subst e'
  refine ⟨by omega, by omega, ?_⟩
  rw [rd_nat, List.getD_eq_getElem?_getD, h1]
  simpa using h2
 ·rintro ⟨h0, h1, h2⟩
  refine ⟨c.toNat, rd l c, ?_, by simpa using h2, by omega⟩
  unfold rd
  rw [List.getD_eq_getElem?_getD, List.getElem?_eq_getElem (by omega)]
  rfl
theorem zq105 (l : List Int) : ∀ (d k : Nat) (H L : List Int), walkS l d k H L = (H ++ hF l L.length (labs l d k), L ++ labs l d k)
 | 0, k, H, L => by simp [walkS, labs, hF]
 | d + 1, k, H, L => by
  rw [walkS, wadd_hF l k (cars l k) H L (fun c hc => ((zq104 l k c).1 hc).2.2), zq105 l d (k + 1), labs, zq103]
  simp only [List.append_assoc, List.length_append]
  rw [show ((L.length + (cars l (k : Int)).length : Nat) : Int) = (L.length : Int) + ((cars l (k : Int)).length : Int) by omega]
theorem zq106 (l : List Int) (c : Int) : ∀ (d k : Nat), c ∈ labs l d k ↔ 0 ≤ c ∧ c < l.length ∧ (k : Int) ≤ rd l c ∧ rd l c < k + d
 | 0, k => by
  simp only [labs, List.not_mem_nil, false_iff]
  omega
 | d + 1, k => by
  rw [labs, List.mem_append, zq104, zq106 l c d (k + 1)]
  constructor
  ·rintro (h | h) <;> omega
  ·intro h
   by_cases e : rd l c = k
   ·exact .inl ⟨h.1, h.2.1, e⟩
   ·exact .inr ⟨h.1, h.2.1, by omega, by omega⟩
def lexP (l : List Int) (a b : Int) : Prop := rd l a < rd l b ∨ rd l a = rd l b ∧ a < b
theorem zq107 (l : List Int) : ∀ (d k : Nat), (labs l d k).Pairwise (lexP l)
 | 0, k => by simp [labs]
 | d + 1, k => by
  rw [labs, List.pairwise_append]
  refine ⟨(zq28 _ l 0).imp_of_mem fun ha hb h => .inr ⟨?_, h⟩, zq107 l d (k + 1), fun a ha b hb => .inl ?_⟩
  ·rw [((zq104 l k _).1 ha).2.2, ((zq104 l k _).1 hb).2.2]
  ·have h1 := ((zq104 l k a).1 ha).2.2
   have h2 := (zq106 l b d (k + 1)).1 hb
   omega
theorem lexP_ne {l : List Int} {a b : Int} (h : lexP l a b) : a ≠ b := by
 rintro rfl
 rcases h with h | h <;> omega
theorem zq108 (l : List Int) : ∀ (a b : List Int), a.Pairwise (lexP l) → b.Pairwise (lexP l) → (∀ x, x ∈ a ↔ x ∈ b) → a = b
 | [], [], _, _, _ => rfl
 | [], y :: b, _, _, h => by have := (h y).2 (by simp); simp at this
 | x :: a, [], _, _, h => by have := (h x).1 (by simp); simp at this
 | x :: a, y :: b, ha, hb, h => by
  have h1 := List.pairwise_cons.1 ha
  have h2 := List.pairwise_cons.1 hb
  have e : x = y := by
   rcases List.mem_cons.1 ((h x).1 (by simp)) with e | e
   ·exact e
   ·rcases List.mem_cons.1 ((h y).2 (by simp)) with e' | e'
    ·exact e'.symm
    ·have g1 := h1.1 y e'
     have g2 := h2.1 x e
     unfold lexP at g1 g2
     omega
  subst e
  rw [zq108 l a b h1.2 h2.2 fun z => ?_]
  constructor
  ·intro hz
   rcases List.mem_cons.1 ((h z).1 (by simp [hz])) with e | e
   ·exact absurd e.symm (lexP_ne (h1.1 z hz))
   ·exact e
  ·intro hz
   rcases List.mem_cons.1 ((h z).2 (by simp [hz])) with e | e
   ·exact absurd e.symm (lexP_ne (h2.1 z hz))
   ·exact e
def lab (l : List Int) : List Int := labs l l.length 0
theorem zq109 (l : List Int) : walkS l l.length 0 [] [] = (hF l 0 (lab l), lab l) := by
 rw [zq105]
 rfl
theorem zq110 (l : List Int) : (lab l).Nodup := (zq107 l l.length 0).imp fun h => lexP_ne h
theorem lab_mem (l : List Int) (hl : ∀ x ∈ l, 0 ≤ x ∧ x ≤ (l.length : Int) - 1) (c : Int) : c ∈ lab l ↔ 0 ≤ c ∧ c < l.length := by
 rw [lab, zq106]
 constructor
 ·rintro ⟨h0, h1, _⟩; exact ⟨h0, h1⟩
 ·rintro ⟨h0, h1⟩
  have := hl _ (rd_mem l c h0 h1)
  exact ⟨h0, h1, by omega, by omega⟩
theorem zq111 (n : Nat) {L : List Int} (hn : L.Nodup) (h : ∀ c, c ∈ L ↔ 0 ≤ c ∧ c < (n : Int)) : L.Perm (iota n 0) :=
 zq101 hn (zq50 (zq48 n 0)) fun x => by rw [h, zq47]; omega
theorem zq112 (l : List Int) : (iota l.length 0).map (fun c => rd l c) = l := by
 refine ext_rd _ _ (by simp [zq49]) fun j hj => ?_
 have hj' : j < (iota l.length 0).length := by simpa using hj
 rw [List.length_map, zq49] at hj
 rw [rd_map _ _ j hj', iota_rd l.length 0 j hj, Int.zero_add]
theorem zq113 (l : List Int) (hl : ∀ x ∈ l, 0 ≤ x ∧ x ≤ (l.length : Int) - 1) : ((lab l).map fun c => rd l c).Perm l := by
 have h := (zq111 l.length (zq110 l) (lab_mem l hl)).map fun c => rd l c
 rwa [zq112] at h
theorem zq114 (l : List Int) (hl : ∀ x ∈ l, 0 ≤ x ∧ x ≤ (l.length : Int) - 1) : (lab l).length = l.length := by
 have h := (zq111 l.length (zq110 l) (lab_mem l hl)).length_eq
 rwa [zq49] at h
theorem hts_at : ∀ (H : List Int) (last : Int), hts last H = true ↔ ∀ j : Nat, j < H.length → 0 ≤ rd H (j : Int) ∧ rd H (j : Int) ≤ (if j = 0 then last else rd H ((j : Int) - 1)) + 1
 | [], last => by simp [hts]
 | h :: t, last => by
  have r0 : rd (h :: t) ((0 : Nat) : Int) = h := rfl
  have rs : ∀ j : Nat, rd (h :: t) ((j + 1 : Nat) : Int) = rd t (j : Int) := fun j => by rw [rd_nat, rd_nat, List.getD_cons_succ]
  simp only [hts, Bool.and_eq_true, decide_eq_true_eq, hts_at t h]
  constructor
  ·rintro ⟨⟨h1, h2⟩, h3⟩ j hj
   cases j with
   | zero => rw [r0, if_pos rfl]; omega
   | succ j =>
    have g := h3 j (by simpa using hj)
    rw [rs, if_neg (by omega), show ((j + 1 : Nat) : Int) - 1 = (j : Int) by omega]
    cases j with
    | zero => rw [if_pos rfl] at g; rw [r0]; exact g
    | succ i =>
     rw [if_neg (by omega), show ((i + 1 : Nat) : Int) - 1 = (i : Int) by omega] at g
     rw [rs i]; exact g
  ·intro g
   refine ⟨?_, fun j hj => ?_⟩
   ·have := g 0 (by simp)
    rw [r0, if_pos rfl] at this
    exact this
   ·have := g (j + 1) (by simpa using hj)
    rw [rs, if_neg (by omega), show ((j + 1 : Nat) : Int) - 1 = (j : Int) by omega] at this
    cases j with
    | zero => rw [if_pos rfl]; rw [r0] at this; exact this
    | succ i =>
     rw [rs i] at this
     rw [if_neg (by omega), show ((i + 1 : Nat) : Int) - 1 = (i : Int) by omega]
     exact this
theorem lab_up (l : List Int) {i j : Nat} (hij : i < j) (hj : j < (lab l).length) : lexP l (rd (lab l) (i : Int)) (rd (lab l) (j : Int)) := by
 have h := List.pairwise_iff_getElem.1 (zq107 l l.length 0) i j (by show i < (lab l).length; omega) hj hij
 rw [rd_nat, rd_nat, List.getD_eq_getElem?_getD, List.getD_eq_getElem?_getD, List.getElem?_eq_getElem (by omega), List.getElem?_eq_getElem hj]
 exact h
theorem zq115 {q : Int → Bool} : ∀ (l : List Int) (i : Nat), (∀ j : Nat, i ≤ j → j < l.length → q (rd l (j : Int)) = false) → cnt q l ≤ i
 | [], i, _ => by simp [cnt]
 | x :: t, i, h => by
  rw [cnt]
  cases i with
  | zero =>
   have h0 := h 0 (by omega) (by simp)
   have r0 : rd (x :: t) ((0 : Nat) : Int) = x := rfl
   rw [r0] at h0
   have ih := zq115 t 0 fun j _ hj => by
    have := h (j + 1) (by omega) (by simpa using hj)
    rwa [rd_nat, List.getD_cons_succ, ← rd_nat] at this
   rw [h0, if_neg (by simp)]
   omega
  | succ i =>
   have ih := zq115 t i fun j hi hj => by
    have := h (j + 1) (by omega) (by simpa using hj)
    rwa [rd_nat, List.getD_cons_succ, ← rd_nat] at this
   split <;> omega
theorem zq116 {q : Int → Bool} : ∀ (l : List Int) (i : Nat), i ≤ l.length → (∀ j : Nat, j < i → q (rd l (j : Int)) = true) → (i : Int) ≤ cnt q l
 | l, 0, _, _ => (zq24 q l).1
 | [], i + 1, hi, _ => by simp at hi
 | x :: t, i + 1, hi, h => by
  have h0 := h 0 (by omega)
  have r0 : rd (x :: t) ((0 : Nat) : Int) = x := rfl
  rw [r0] at h0
  have ih := zq116 t i (by simpa using hi) fun j hj => by
   have := h (j + 1) (by omega)
   rwa [rd_nat, List.getD_cons_succ, ← rd_nat] at this
  rw [cnt, if_pos h0]
  omega
theorem rd_labF (l : List Int) (j : Nat) (hj : j < (lab l).length) : rd ((lab l).map fun c => rd l c) (j : Int) = rd l (rd (lab l) (j : Int)) := rd_map _ _ j hj
theorem lab_le (l : List Int) (hpf : pf l = true) (j : Nat) (hj : j < l.length) : rd l (rd (lab l) (j : Int)) ≤ j := by
 obtain ⟨h8, h2, _⟩ := (pf_iff l).1 hpf
 have hl := zq114 l h2
 refine Classical.byContradiction fun hc => ?_
 have hr := h2 _ (rd_mem l (rd (lab l) (j : Int)) (by have := (lab_mem l h2 _).1 (rd_mem (lab l) j (by omega) (by omega)); omega) (by have := (lab_mem l h2 _).1 (rd_mem (lab l) j (by omega) (by omega)); omega))
 generalize hf : rd l (rd (lab l) (j : Int)) = f at *
 have h1 := zq62 l hpf f.toNat (by omega)
 rw [show ((f.toNat : Nat) : Int) = f by omega, ← zq100 _ (zq113 l h2)] at h1
 have h3 := zq115 (q := fun x => decide (x < f)) ((lab l).map fun c => rd l c) j fun i hi hi2 => by
  rw [List.length_map] at hi2
  rw [rd_labF l i hi2]
  refine decide_eq_false fun hlt => ?_
  rcases Nat.eq_or_lt_of_le hi with e | e
  ·subst e; omega
  ·rcases lab_up l e hi2 with g | g <;> omega
 omega
theorem zq117 (l : List Int) (hpf : pf l = true) : goodW (hF l 0 (lab l)) (lab l) = true := by
 obtain ⟨h8, h2, _⟩ := (pf_iff l).1 hpf
 have hl := zq114 l h2
 have hh := zq102 l (lab l) 0
 refine (zq57 _ _).2 ⟨⟨by omega, (hts_at _ _).2 fun j hj => ?_⟩, by omega, fun x hx => by have := (lab_mem l h2 x).1 hx; omega, zq110 l, (zq53 _ _ _ _).2 fun j h0 h1 h3 => ?_⟩
 ·have hj' : j < (lab l).length := by omega
  have hle := lab_le l hpf j (by omega)
  have hr0 := (lab_mem l h2 _).1 (rd_mem (lab l) j (by omega) (by omega))
  have hr := h2 _ (rd_mem l _ hr0.1 hr0.2)
  rw [hF_rd l (lab l) 0 j hj', Int.zero_add]
  refine ⟨by omega, ?_⟩
  by_cases c : j = 0
  ·rw [if_pos c]; omega
  ·rw [if_neg c, show (j : Int) - 1 = ((j - 1 : Nat) : Int) by omega, hF_rd l (lab l) 0 (j - 1) (by omega)]
   rcases lab_up l (show j - 1 < j by omega) hj' with g | g <;> omega
 ·have hj' : j < (lab l).length := by omega
  rw [show (j : Int) - 1 = ((j - 1 : Nat) : Int) by omega] at h3 ⊢
  rw [hF_rd l (lab l) 0 j hj', hF_rd l (lab l) 0 (j - 1) (by omega)] at h3
  rcases lab_up l (show j - 1 < j by omega) hj' with g | g <;> omega
theorem zq118 (H L : List Int) (x : Int) : ∀ (d i : Nat) (out : List Int), i + d = L.length → (∀ j : Nat, i ≤ j → j < L.length → rd L (j : Int) ≠ x ∧ 0 ≤ rd L (j : Int) ∧ rd L (j : Int) < out.length) → 0 ≤ x → rd (backW H L d i out) x = rd out x
 | 0, i, out, _, _, _ => rfl
 | d + 1, i, out, hd, h, h0 => by
  have hi := h i (Nat.le_refl _) (by omega)
  rw [backW, zq118 H L x d (i + 1) _ (by omega) (fun j h1 h2 => by rw [List.length_set]; exact h j (by omega) h2) h0]
  have := rd_set out (rd L (i : Int)).toNat x.toNat ((i : Int) - rd H (i : Int)) (by omega)
  rw [show ((x.toNat : Nat) : Int) = x by omega] at this
  rw [this, if_neg (by omega)]
theorem zq119 (H L : List Int) (hn : L.Nodup) (m : Nat) : ∀ (d i : Nat) (out : List Int), i + d = L.length → (∀ j : Nat, j < L.length → 0 ≤ rd L (j : Int) ∧ rd L (j : Int) < out.length) → i ≤ m → m < L.length → rd (backW H L d i out) (rd L (m : Int)) = (m : Int) - rd H (m : Int)
 | 0, i, out, hd, _, h1, h2 => by omega
 | d + 1, i, out, hd, h, h1, h2 => by
  have hi := h i (by omega)
  have hm := h m h2
  rw [backW]
  by_cases e : i = m
  ·subst e
   rw [zq118 H L _ d (i + 1) _ (by omega) (fun j h3 h4 => by
    rw [List.length_set]
    exact ⟨fun e => by have := rd_inj hn (by omega) (by omega) (by omega) (by omega) e; omega, h j h4⟩) hm.1]
   have := rd_set out (rd L (i : Int)).toNat (rd L (i : Int)).toNat ((i : Int) - rd H (i : Int)) (by omega)
   rw [show (((rd L (i : Int)).toNat : Nat) : Int) = rd L (i : Int) by omega] at this
   rw [this, if_pos (by omega)]
  ·exact zq119 H L hn m d (i + 1) _ (by omega) (fun j h3 => by rw [List.length_set]; exact h j h3) (by omega) h2
def favW (H L : List Int) : List Int := backW H L L.length 0 (List.replicate L.length 0)
theorem zq120 (H L : List Int) : (favW H L).length = L.length := by rw [favW, zq84, List.length_replicate]
theorem favW_at {H L : List Int} (hg : goodW H L = true) (m : Nat) (hm : m < L.length) : rd (favW H L) (rd L (m : Int)) = (m : Int) - rd H (m : Int) := by
 obtain ⟨_, h2, h3, h4, _⟩ := (zq57 H L).1 hg
 exact zq119 H L h4 m L.length 0 _ (by omega) (fun j hj => by
  have := h3 _ (rd_mem L (j : Int) (by omega) (by omega))
  rw [List.length_replicate]; omega) (by omega) hm
theorem zq121 {H L : List Int} (hg : goodW H L = true) (c : Int) : c ∈ L ↔ 0 ≤ c ∧ c < (L.length : Int) := by
 obtain ⟨_, h2, h3, h4, _⟩ := (zq57 H L).1 hg
 constructor
 ·intro h; have := h3 c h; omega
 ·intro h
  refine Classical.byContradiction fun hn => ?_
  have := zq41 (L.length - 1) (c :: L) (List.nodup_cons.2 ⟨hn, h4⟩) fun v hv => by
   rcases List.mem_cons.1 hv with e | e
   ·omega
   ·have := h3 v e; omega
  rw [List.length_cons] at this
  omega
theorem zq122 (l : List Int) (hpf : pf l = true) : favW (hF l 0 (lab l)) (lab l) = l := by
 obtain ⟨h8, h2, _⟩ := (pf_iff l).1 hpf
 have hl := zq114 l h2
 have hg := zq117 l hpf
 refine ext_rd _ _ (by rw [zq120, hl]) fun j hj => ?_
 rw [zq120] at hj
 obtain ⟨m, hm, e⟩ := List.mem_iff_getElem.1 ((lab_mem l h2 (j : Int)).2 ⟨by omega, by omega⟩)
 have e' : rd (lab l) (m : Int) = (j : Int) := by
  rw [rd_nat, List.getD_eq_getElem?_getD, List.getElem?_eq_getElem hm]
  exact e
 have h := favW_at hg m hm
 rw [hF_rd l (lab l) 0 m hm, e'] at h
 rw [h]
 omega
theorem zq123 {H L : List Int} (hg : goodW H L = true) (i : Nat) (hi : i + 1 < L.length) : lexP (favW H L) (rd L (i : Int)) (rd L ((i + 1 : Nat) : Int)) := by
 obtain ⟨⟨h8, hh⟩, h2, h3, h4, h5⟩ := (zq57 H L).1 hg
 have g := (hts_at _ _).1 hh (i + 1) (by omega)
 rw [if_neg (by omega), show ((i + 1 : Nat) : Int) - 1 = (i : Int) by omega] at g
 rw [lexP, favW_at hg i (by omega), favW_at hg (i + 1) hi]
 by_cases e : rd H ((i + 1 : Nat) : Int) = rd H (i : Int) + 1
 ·right
  refine ⟨by omega, ?_⟩
  have h6 := (zq53 _ _ _ _).1 h5 (i + 1) (by omega) (by omega)
  rw [show ((i + 1 : Nat) : Int) - 1 = (i : Int) by omega] at h6
  have h7 := h6 e
  rcases Int.lt_or_eq_of_le h7 with h | h
  ·exact h
  ·have := rd_inj h4 (by omega) (by omega) (by omega) (by omega) h
   omega
 ·left; omega
theorem zq124 {l : List Int} {a b c : Int} (h1 : lexP l a b) (h2 : lexP l b c) : lexP l a c := by
 unfold lexP at *
 omega
theorem zq125 {H L : List Int} (hg : goodW H L = true) : L.Pairwise (lexP (favW H L)) := by
 refine List.pairwise_iff_getElem.2 fun i j hi hj hij => ?_
 have : ∀ (d : Nat), i + d + 1 < L.length → lexP (favW H L) (rd L (i : Int)) (rd L ((i + d + 1 : Nat) : Int)) := fun d => by
  induction d with
  | zero => exact fun h => zq123 hg i h
  | succ d ih => exact fun h => zq124 (ih (by omega)) (zq123 hg (i + d + 1) h)
 have h := this (j - i - 1) (by omega)
 rw [show i + (j - i - 1) + 1 = j by omega, rd_nat, rd_nat, List.getD_eq_getElem?_getD, List.getD_eq_getElem?_getD, List.getElem?_eq_getElem hi, List.getElem?_eq_getElem hj] at h
 exact h
theorem zq126 {H L : List Int} (hg : goodW H L = true) : (L.map fun c => rd (favW H L) c).Perm (favW H L) := by
 obtain ⟨_, h2, h3, h4, _⟩ := (zq57 H L).1 hg
 have h := (zq111 L.length h4 (zq121 hg)).map fun c => rd (favW H L) c
 have e := zq112 (favW H L)
 rw [zq120] at e
 rwa [e] at h
theorem zq127 {H L : List Int} (hg : goodW H L = true) : ∀ x ∈ favW H L, 0 ≤ x ∧ x ≤ ((favW H L).length : Int) - 1 := by
 obtain ⟨⟨h8, hh⟩, h2, h3, h4, h5⟩ := (zq57 H L).1 hg
 intro x hx
 rw [zq120]
 obtain ⟨c, hc, rfl⟩ := List.mem_map.1 ((zq126 hg).mem_iff.2 hx)
 obtain ⟨m, hm, rfl⟩ := List.mem_iff_getElem.1 hc
 have h := favW_at hg m hm
 rw [rd_nat L, List.getD_eq_getElem?_getD, List.getElem?_eq_getElem hm] at h
 have g := (hts_at _ _).1 hh m (by omega)
 have hb : rd H (m : Int) ≤ m := by
  have : ∀ m : Nat, m < H.length → rd H (m : Int) ≤ m := fun m => by
   induction m with
   | zero => intro h; have := (hts_at _ _).1 hh 0 h; rw [if_pos rfl] at this; omega
   | succ m ih => intro h; have := (hts_at _ _).1 hh (m + 1) h; rw [if_neg (by omega), show ((m + 1 : Nat) : Int) - 1 = (m : Int) by omega] at this; have := ih (by omega); omega
  exact this m (by omega)
 show 0 ≤ rd (favW H L) L[m] ∧ rd (favW H L) L[m] ≤ _
 have h' : rd (favW H L) L[m] = (m : Int) - rd H (m : Int) := h
 omega
theorem pf_favW {H L : List Int} (hg : goodW H L = true) : pf (favW H L) = true := by
 obtain ⟨⟨h8, hh⟩, h2, h3, h4, h5⟩ := (zq57 H L).1 hg
 refine pf_conv _ (by rw [zq120]; omega) (zq127 hg) fun s h0 h1 => ?_
 rw [zq120] at h1 ⊢
 have hf : ∀ l : List Int, cnt (fun x => decide (s ≤ x)) l + cnt (fun x => decide (x < s)) l = l.length := fun l => by
  rw [cnt_len]
  have := zq61 s l
  omega
 have h6 := hf (favW H L)
 rw [zq120] at h6
 rw [← zq100 (fun x => decide (x < s)) (zq126 hg)] at h6
 have h7 := zq116 (q := fun x => decide (x < s)) (L.map fun c => rd (favW H L) c) s.toNat (by rw [List.length_map]; omega) fun j hj => by
  rw [rd_map _ L j (by omega), favW_at hg j (by omega)]
  have := (hts_at _ _).1 hh j (by omega)
  exact decide_eq_true (by omega)
 omega
theorem zq128 {H L : List Int} (hg : goodW H L = true) : lab (favW H L) = L :=
 zq108 (favW H L) _ _ (zq107 _ _ 0) (zq125 hg) fun x => by
  rw [lab_mem _ (zq127 hg), zq120, zq121 hg]
theorem zq129 {H L : List Int} (hg : goodW H L = true) : hF (favW H L) 0 (lab (favW H L)) = H := by
 obtain ⟨_, h2, _⟩ := (zq57 H L).1 hg
 rw [zq128 hg]
 refine ext_rd _ _ (by rw [zq102]; omega) fun j hj => ?_
 rw [zq102] at hj
 rw [hF_rd _ L 0 j hj, favW_at hg j hj]
 omega
theorem hF_sum (l : List Int) : ∀ (t : List Int) (i : Int), (hF l i t).sum = (iota t.length i).sum - (t.map fun c => rd l c).sum
 | [], i => rfl
 | c :: t, i => by
  rw [hF, List.sum_cons, hF_sum l t, List.length_cons, iota, List.sum_cons, List.map_cons, List.sum_cons]
  omega
theorem area_is (l : List Int) (hpf : pf l = true) : (hF l 0 (lab l)).sum = (iota l.length 0).sum - l.sum := by
 obtain ⟨h8, h2, _⟩ := (pf_iff l).1 hpf
 rw [hF_sum, zq114 l h2, zq99 (zq113 l h2)]
def cutS (l : List Int) : Nat → Nat → List Int
 | 0, _ => []
 | d + 1, j => if cnt (fun x => decide (x < (j : Int))) l = j then (j : Int) :: cutS l d (j + 1) else cutS l d (j + 1)
theorem cut_at (l : List Int) (hpf : pf l = true) (j : Nat) (hj : j < l.length) : cnt (fun x => decide (x < (j : Int))) l = j ↔ rd (hF l 0 (lab l)) (j : Int) = 0 := by
 obtain ⟨h8, h2, _⟩ := (pf_iff l).1 hpf
 have hl := zq114 l h2
 have h1 := zq62 l hpf j (by omega)
 have hle := lab_le l hpf j hj
 rw [hF_rd l (lab l) 0 j (by omega), Int.zero_add]
 rw [← zq100 _ (zq113 l h2)] at h1 ⊢
 constructor
 ·intro e
  refine Classical.byContradiction fun hc => ?_
  have := zq116 (q := fun x => decide (x < (j : Int))) ((lab l).map fun c => rd l c) (j + 1) (by rw [List.length_map]; omega) fun i hi => by
   rw [rd_labF l i (by omega)]
   refine decide_eq_true ?_
   rcases Nat.eq_or_lt_of_le (Nat.le_of_lt_succ hi) with e | e
   ·subst e; omega
   ·rcases lab_up l e (show j < (lab l).length by omega) with g | g <;> omega
  omega
 ·intro e
  have := zq115 (q := fun x => decide (x < (j : Int))) ((lab l).map fun c => rd l c) j fun i hi hi2 => by
   rw [List.length_map] at hi2
   rw [rd_labF l i hi2]
   refine decide_eq_false fun hlt => ?_
   rcases Nat.eq_or_lt_of_le hi with e2 | e2
   ·subst e2; omega
   ·rcases lab_up l e2 hi2 with g | g <;> omega
  omega
theorem zq130 (l : List Int) (H : List Int) (hc : ∀ j : Nat, j < H.length → (cnt (fun x => decide (x < (j : Int))) l = j ↔ rd H (j : Int) = 0)) : ∀ (t p : List Int), p ++ t = H → places (fun n => decide (n = 0)) t (p.length : Int) = cutS l t.length p.length
 | [], p, _ => rfl
 | x :: t, p, hp => by
  have ih := zq130 l H hc t (p ++ [x]) (by rw [← hp]; simp)
  have h := hc p.length (by rw [← hp]; simp)
  rw [← hp, rd_mid] at h
  rw [zq0] at ih
  rw [places, List.length_cons, cutS, ih, show (p ++ [x]).length = p.length + 1 by simp]
  by_cases e : x = 0
  ·rw [if_pos (by simpa using e), if_pos (h.2 e)]
  ·rw [if_neg (by simpa using e), if_neg (fun g => e (h.1 g))]
theorem zq131 (l : List Int) (hpf : pf l = true) : touchS (hF l 0 (lab l)) = cutS l (l.length - 1) 1 := by
 obtain ⟨h8, h2, _⟩ := (pf_iff l).1 hpf
 have hl := zq114 l h2
 have hh := zq102 l (lab l) 0
 have h := zq130 l (hF l 0 (lab l)) (fun j hj => cut_at l hpf j (by omega)) (hF l 0 (lab l)) [] rfl
 rw [touchS]
 have h' : places (fun n => decide (n = 0)) (hF l 0 (lab l)) 0 = cutS l (hF l 0 (lab l)).length 0 := h
 rw [h', hh, hl]
 rcases Nat.eq_zero_or_pos l.length with e | e
 ·rw [e]; rfl
 ·obtain ⟨n, hn⟩ : ∃ n, l.length = n + 1 := ⟨l.length - 1, by omega⟩
  have h0 := (cut_at l hpf 0 e).2 (by
   have g := (hts_at _ _).1 ((zq57 _ _).1 (zq117 l hpf)).1.2 0 (by omega)
   rw [if_pos rfl] at g
   omega)
  rw [hn, cutS, if_pos h0, List.drop_one, List.tail_cons, show n + 1 - 1 = n by omega]
theorem zq132 (l : List Int) (hpf : pf l = true) : (driveS l.length [] l).Perm (iota l.length 0) := by
 obtain ⟨h8, h2, h3⟩ := (pf_iff l).1 hpf
 have hnd := zq58 (l.length : Int) l [] (by simp) h3
 have hlen : (driveS (l.length : Int) [] l).length = l.length := by rw [zq11]; simp
 have hr : ∀ v ∈ driveS (l.length : Int) [] l, 0 ≤ v ∧ v < l.length := fun v hv => by
  rcases zq98 l.length l [] (fun x hx => (h2 x hx).1) (by simp) v hv with h4 | h4
  ·exact absurd (h4 ▸ hv) h3
  ·exact h4
 refine zq111 l.length hnd fun c => ⟨hr c, fun h => Classical.byContradiction fun hn => ?_⟩
 have := zq41 (l.length - 1) (c :: driveS (l.length : Int) [] l) (List.nodup_cons.2 ⟨hn, hnd⟩) fun v hv => by
  rcases List.mem_cons.1 hv with e | e
  ·omega
  ·have := hr v e; omega
 rw [List.length_cons] at this
 omega
theorem zq133 (P : Int) : ∀ (t out : List Int), (-1 : Int) ∉ driveS P out t → ∀ j : Nat, j < t.length → rd t (j : Int) ≤ rd (driveS P out t) ((out.length + j : Nat) : Int)
 | [], out, _, j, h => by simp at h
 | c :: t, out, hn, j, hj => by
  rw [driveS] at hn ⊢
  obtain ⟨s, _, hs⟩ := zq10 P t (out ++ [seek out (P - c).toNat c])
  have hm : seek out (P - c).toNat c ∈ driveS P (out ++ [seek out (P - c).toNat c]) t := by rw [hs]; simp
  have hge : c ≤ seek out (P - c).toNat c := by
   rcases zq9 out (P - c).toNat c with h5 | ⟨h5, _, _⟩
   ·exact absurd (by rw [← h5]; exact hm) hn
   ·exact h5
  cases j with
  | zero =>
   have e : rd (driveS P (out ++ [seek out (P - c).toNat c]) t) ((out.length + 0 : Nat) : Int) = seek out (P - c).toNat c := by
    rw [hs, List.append_assoc]
    exact rd_mid out _ _
   rw [e]
   exact hge
  | succ j =>
   have ih := zq133 P t _ hn j (by simpa using hj)
   rw [List.length_append, List.length_singleton, show out.length + 1 + j = out.length + (j + 1) by omega] at ih
   rw [rd_nat (c :: t), List.getD_cons_succ, ← rd_nat]
   exact ih
def disS (out l : List Int) : List Int := List.zipWith (fun a b => a - b) out l
theorem zq134 : ∀ (a b : List Int), a.length = b.length → (disS a b).sum = a.sum - b.sum
 | [], [], _ => rfl
 | [], _ :: _, h => by simp at h
 | _ :: _, [], h => by simp at h
 | x :: a, y :: b, h => by
  have ih := zq134 a b (by simpa using h)
  unfold disS at ih ⊢
  rw [List.zipWith_cons_cons, List.sum_cons, List.sum_cons, List.sum_cons, ih]
  omega
theorem dis_sum (l : List Int) (hpf : pf l = true) : (disS (driveS l.length [] l) l).sum = (iota l.length 0).sum - l.sum := by
 rw [zq134 _ _ (by rw [zq11]; simp), zq99 (zq132 l hpf)]

theorem zq135 (l : List Int) (f : Nat) (hf : f ≤ 1000) (r : List Int × List Int) : ∀ (t p H L : List Int), p.length + t.length ≤ 100 → H.length ≤ 1000 + p.length → H.length = L.length →
  Ev (fun k => impl_walkOf.l0 k l (l.length : Int) ((f : Int) + 1) (wadd f t H L).1 (wadd f t H L).2) r →
  Ev (fun k => impl_walkOf.l1 k l (l.length : Int) (f : Int) (p ++ t) ((p ++ t).length : Int) (p.length : Int) H L (f : Int)) r
 | [], p, H, L, hn, h1, h2, h => by
  refine Ev.step (fun k => ?_) h
  show impl_walkOf.l1 (k + 1) l (l.length : Int) (f : Int) (p ++ []) ((p ++ []).length : Int) (p.length : Int) H L (f : Int) = _
  rw [impl_walkOf.l1, if_neg (by simp), w64 (by omega) (by omega)]
  rfl
 | x :: t, p, H, L, hn, h1, h2, h => by
  have hn' : p.length + t.length + 1 ≤ 100 := by simpa [Nat.add_assoc] using hn
  have hm := len_mid p x t
  rw [wadd] at h
  have ih := zq135 l f hf r t (p ++ [x]) (H ++ [(L.length : Int) - f]) (L ++ [x]) (by simp; omega) (by simp; omega) (by simp; omega)
  rw [zq1 p x t, zq0 p x] at ih
  refine Ev.step (fun k => ?_) (ih h)
  show impl_walkOf.l1 (k + 1) l (l.length : Int) (f : Int) (p ++ x :: t) ((p ++ x :: t).length : Int) (p.length : Int) H L (f : Int) = _
  rw [impl_walkOf.l1, if_pos (by omega), if_pos (by omega), if_pos (by omega), rd_mid, if_pos (by omega), if_pos (by omega), w64 (by omega) (by omega), w64 (by omega) (by omega), h2]
theorem zq136 (l : List Int) (hl : l.length ≤ 8) : ∀ (d k : Nat) (H L : List Int), k + d = l.length → H.length ≤ 10 * k → H.length = L.length →
  Ev (fun kk => impl_walkOf.l0 kk l (l.length : Int) (k : Int) H L) (walkS l d k H L)
 | 0, k, H, L, hk, h1, h2 => by
  refine Ev.ret fun kk => ?_
  rw [impl_walkOf.l0, if_neg (by omega)]
  rfl
 | d + 1, k, H, L, hk, h1, h2 => by
  have h3 := zq31 k (cars l k) H L
  have h4 := zq32 l k
  have ih := zq136 l hl d (k + 1) (wadd k (cars l k) H L).1 (wadd k (cars l k) H L).2 (by omega) (by omega) (by omega)
  rw [show ((k + 1 : Nat) : Int) = (k : Int) + 1 by omega] at ih
  have hidx : Ev (fun kk => impl_walkOf_1.f kk l (k : Int)) (cars l k) := zq30 (impl_walkOf_1.p (k : Int)) l (by omega)
  refine Ev.step (f := fun kk => (impl_walkOf_1.f kk l (k : Int)).bind fun t => impl_walkOf.l1 kk l (l.length : Int) (k : Int) t (t.length : Int) 0 H L (k : Int)) (fun kk => ?_) (Ev.bind hidx ?_)
  ·rw [impl_walkOf.l0, if_pos (by omega)]
  ·exact zq135 l k (by omega) _ (cars l k) [] H L (by simp; omega) (by simp; omega) h2 ih
theorem zq137 (l : List Int) (hl : l.length ≤ 8) : Ev (fun k => impl_walkOf.f k l) (walkS l l.length 0 [] []) :=
 zq136 l hl l.length 0 [] [] (by omega) (by simp) rfl

theorem zq138 : ∀ (t p : List Int) (a : Int), p.length + t.length ≤ 35184372088832 → 0 ≤ a → (∀ x ∈ t, 0 ≤ x ∧ x ≤ 1000) → a + 1000 * (t.length : Int) ≤ 9223372036854775807 →
  Ev (fun k => impl_total.l0 k a (p ++ t) ((p ++ t).length : Int) (p.length : Int)) (a + t.sum)
 | [], p, a, _, _, _, _ => by
  refine Ev.ret fun k => ?_
  rw [impl_total.l0, if_neg (by simp)]
  simp
 | h :: t, p, a, hn, ha, hb, hs => by
  have hn' : p.length + t.length + 1 ≤ 35184372088832 := by simpa [Nat.add_assoc] using hn
  have hm := len_mid p h t
  have hh := hb h (by simp)
  have hs' : a + 1000 * ((t.length : Int) + 1) ≤ 9223372036854775807 := by simpa using hs
  have ih := zq138 t (p ++ [h]) (a + h) (by simp; omega) (by omega) (fun x hx => hb x (by simp [hx])) (by omega)
  rw [zq1, zq0] at ih
  rw [List.sum_cons, ← Int.add_assoc]
  refine Ev.step (fun k => ?_) ih
  show impl_total.l0 (k + 1) a (p ++ h :: t) ((p ++ h :: t).length : Int) (p.length : Int) = _
  rw [impl_total.l0, if_pos (by omega), if_pos (by omega), if_pos (by omega), rd_mid, w64 (by omega) (by omega), w64 (by omega) (by omega)]
theorem zq139 (l : List Int) (hl : l.length ≤ 35184372088832) (hb : ∀ x ∈ l, 0 ≤ x ∧ x ≤ 1000) : Ev (fun k => impl_total.f k l) l.sum := by
 have h := zq138 l [] 0 (by simpa using hl) (by omega) hb (by omega)
 rw [Int.zero_add] at h
 exact h

theorem zq140 (q : Int → Bool) : ∀ (t p : List Int) (acc : Int), 0 ≤ acc → acc ≤ p.length → p.length + t.length ≤ 35184372088832 →
  Ev (fun k => impl_countIf.l0 q k acc (p ++ t) ((p ++ t).length : Int) (p.length : Int)) (acc + cnt q t)
 | [], p, acc, _, _, _ => by
  refine Ev.ret fun k => ?_
  rw [impl_countIf.l0, if_neg (by simp)]
  simp [cnt]
 | h :: t, p, acc, h0, h1, hn => by
  have hn' : p.length + t.length + 1 ≤ 35184372088832 := by simpa [Nat.add_assoc] using hn
  have hm := len_mid p h t
  cases c : q h with
  | true =>
   have ih := zq140 q t (p ++ [h]) (acc + 1) (by omega) (by rw [zq0]; omega) (by simp; omega)
   rw [zq1, zq0] at ih
   have e : acc + cnt q (h :: t) = acc + 1 + cnt q t := by simp only [cnt, c, if_true]; omega
   rw [e]
   refine Ev.step (fun k => ?_) ih
   show impl_countIf.l0 q (k + 1) acc (p ++ h :: t) ((p ++ h :: t).length : Int) (p.length : Int) = _
   rw [impl_countIf.l0, if_pos (by omega), if_pos (by omega), if_pos (by omega), rd_mid, c, Option.bind_some, if_pos rfl, w64 (by omega) (by omega), w64 (by omega) (by omega)]
  | false =>
   have ih := zq140 q t (p ++ [h]) acc h0 (by rw [zq0]; omega) (by simp; omega)
   rw [zq1, zq0] at ih
   have e : acc + cnt q (h :: t) = acc + cnt q t := by simp only [cnt, c]; simp
   rw [e]
   refine Ev.step (fun k => ?_) ih
   show impl_countIf.l0 q (k + 1) acc (p ++ h :: t) ((p ++ h :: t).length : Int) (p.length : Int) = _
   rw [impl_countIf.l0, if_pos (by omega), if_pos (by omega), if_pos (by omega), rd_mid, c, Option.bind_some, if_neg (by simp), w64 (by omega) (by omega)]
theorem zq141 (q : Int → Bool) (l : List Int) (hl : l.length ≤ 35184372088832) : Ev (fun k => impl_countIf.f q k l) (cnt q l) := by
 have := zq140 q l [] 0 (by omega) (by simp) (by simpa using hl)
 rwa [Int.zero_add] at this

def fav (l : List Int) (places : Int) : Bool := (decide (1 ≤ places) && decide (places ≤ 12)) && (decide (l.length ≤ 8) && inAll 0 (places - 1) l)
theorem fav_iff (l : List Int) (places : Int) : fav l places = true ↔ (1 ≤ places ∧ places ≤ 12) ∧ l.length ≤ 8 ∧ ∀ x ∈ l, 0 ≤ x ∧ x ≤ places - 1 := by
 simp only [fav, Bool.and_eq_true, decide_eq_true_eq, zq12]

theorem zq142 (l : List Int) (places : Int) : Ev (fun k => impl_AreFavourites.f k l places) (fav l places) := by
 cases c : decide (1 ≤ places) && decide (places ≤ 12) with
 | false =>
  refine Ev.congr (fun k => ?_) (Ev.now _)
  show impl_AreFavourites.f k l places = _
  rw [impl_AreFavourites.f, zq72, c]
  simp [fav, c]
 | true =>
  have cc : 1 ≤ places ∧ places ≤ 12 := by simpa using c
  by_cases d : l.length ≤ 8
  ·have e : fav l places = inAll 0 (places - 1) l := by simp [fav, d, cc]
   rw [e]
   refine Ev.congr (fun k => by rw [impl_AreFavourites.f, zq72, c, Option.bind_some, if_pos rfl, if_pos (by omega), w64 (by omega) (by omega)]) ?_
   exact Ev.bind (zq95 l _ _ (by omega)) (Ev.now _)
  ·refine Ev.congr (fun k => ?_) (Ev.now _)
   show impl_AreFavourites.f k l places = _
   rw [impl_AreFavourites.f, zq72, c, Option.bind_some, if_pos rfl, if_neg (by omega)]
   simp [fav, d]

theorem zq143 : ∀ (t p : List Int) (a : Int), p.length + t.length ≤ 35184372088832 → 0 ≤ a → (∀ x ∈ t, 0 ≤ x ∧ x ≤ 1000) → a + 1000 * (t.length : Int) ≤ 9223372036854775807 →
  Ev (fun k => laws_wSum.l0 k a (p ++ t) ((p ++ t).length : Int) (p.length : Int)) (a + t.sum)
 | [], p, a, _, _, _, _ => by
  refine Ev.ret fun k => ?_
  rw [laws_wSum.l0, if_neg (by simp)]
  simp
 | h :: t, p, a, hn, ha, hb, hs => by
  have hn' : p.length + t.length + 1 ≤ 35184372088832 := by simpa [Nat.add_assoc] using hn
  have hm := len_mid p h t
  have hh := hb h (by simp)
  have hs' : a + 1000 * ((t.length : Int) + 1) ≤ 9223372036854775807 := by simpa using hs
  have ih := zq143 t (p ++ [h]) (a + h) (by simp; omega) (by omega) (fun x hx => hb x (by simp [hx])) (by omega)
  rw [zq1, zq0] at ih
  rw [List.sum_cons, ← Int.add_assoc]
  refine Ev.step (fun k => ?_) ih
  show laws_wSum.l0 (k + 1) a (p ++ h :: t) ((p ++ h :: t).length : Int) (p.length : Int) = _
  rw [laws_wSum.l0, if_pos (by omega), if_pos (by omega), if_pos (by omega), rd_mid, w64 (by omega) (by omega), w64 (by omega) (by omega)]
theorem zq144 (l : List Int) (hl : l.length ≤ 35184372088832) (hb : ∀ x ∈ l, 0 ≤ x ∧ x ≤ 1000) : Ev (fun k => laws_wSum.f k l) l.sum := by
 have h := zq143 l [] 0 (by simpa using hl) (by omega) hb (by omega)
 rw [Int.zero_add] at h
 exact h

theorem zq145 (L : List Int) (hl : L.length ≤ 1000000) : ∀ (d i : Nat), i + d = L.length → Ev (fun k => laws_wSame.l0 k L L (L.length : Int) (i : Int)) true
 | 0, i, hd => Ev.ret fun k => by rw [laws_wSame.l0, if_neg (by omega)]
 | d + 1, i, hd => by
  have ih := zq145 L hl d (i + 1) (by omega)
  rw [show ((i + 1 : Nat) : Int) = (i : Int) + 1 by omega] at ih
  refine Ev.step (fun k => ?_) ih
  show laws_wSame.l0 (k + 1) L L (L.length : Int) (i : Int) = _
  rw [laws_wSame.l0, if_pos (by omega), if_pos (by omega), if_pos (by omega), if_pos (by omega), if_pos rfl, w64 (by omega) (by omega)]
theorem zq146 (L : List Int) (hl : L.length ≤ 1000000) : Ev (fun k => laws_wSame.f k L L) true :=
 Ev.congr (fun k => by rw [laws_wSame.f, if_pos rfl]; rfl) (zq145 L hl L.length 0 (by omega))

theorem zq147 (l m : List Int) (hl : l.length ≤ 1000000) (hm : m.length ≤ 1000000) : Ev (fun k => laws_wSameWalk.f k l m l m) true :=
 Ev.bind (zq146 l hl) (Ev.congr (fun k => by rw [if_pos rfl]) (Ev.bind (zq146 m hm) (Ev.now _)))
theorem zq148 (l : List Int) (hl : l.length ≤ 35184372088832) : Ev (fun k => laws_wParking.f k l) (pf l) := by
 have hi : Ev (fun k => impl_IsParking.f k l) (if (decide (l.length ≤ 8) && inAll 0 99 l) = true then (pf l, true) else (false, false)) := by
  refine Ev.congr (fun k => rfl) (Ev.bind (zq96 l hl) ?_)
  cases c : decide (l.length ≤ 8) && inAll 0 99 l with
  | false => exact Ev.now _
  | true => exact Ev.congr (fun k => by rw [if_pos rfl]) (Ev.bind (zq97 l hl) (Ev.now _))
 refine Ev.bind hi ?_
 cases c : decide (l.length ≤ 8) && inAll 0 99 l with
 | true => exact Ev.now _
 | false =>
  have hf : pf l = false := by
   refine Bool.eq_false_iff.2 fun h => ?_
   obtain ⟨h8, h2, _⟩ := (pf_iff l).1 h
   rw [decide_eq_true h8, Bool.true_and, (zq12 0 99 l).2 fun x hx => by have := h2 x hx; omega] at c
   cases c
  rw [hf]
  exact Ev.now _
def wop (l : List Int) : List Int × List Int × Bool := if pf l = true then (hF l 0 (lab l), lab l, true) else ([], [], false)
theorem zq149 (l : List Int) (hl : l.length ≤ 1000000) : Ev (fun k => spec_WalkOfParking.f k l) (wop l) ∧ Ev (fun k => impl_WalkOfParking.f k l) (wop l) := by
 unfold wop
 cases c : pf l with
 | false =>
  rw [if_neg (by simp)]
  refine ⟨?_, ?_⟩
  ·refine Ev.congr (fun k => rfl) (Ev.bind (zq23 l (by omega)) ?_)
   rw [c]; exact Ev.now _
  ·refine Ev.congr (fun k => rfl) (Ev.bind (zq97 l (by omega)) ?_)
   rw [c]; exact Ev.now _
 | true =>
  obtain ⟨h8, h2, _⟩ := (pf_iff l).1 c
  rw [if_pos rfl]
  have hs := zq36 l h8
  have hi := zq137 l h8
  rw [zq109] at hs hi
  refine ⟨?_, ?_⟩
  ·refine Ev.congr (fun k => rfl) (Ev.bind (zq23 l (by omega)) ?_)
   rw [c]
   exact Ev.congr (fun k => by rw [if_pos rfl]) (Ev.bind hs (Ev.now _))
  ·refine Ev.congr (fun k => rfl) (Ev.bind (zq97 l (by omega)) ?_)
   rw [c]
   exact Ev.congr (fun k => by rw [if_pos rfl]) (Ev.bind hi (Ev.now _))
def pow_ (H L : List Int) : List Int × Bool := if goodW H L = true then (favW H L, true) else ([], false)
theorem zq150 (H L : List Int) (hl : H.length ≤ 1000000) (hm : L.length ≤ 1000000) : Ev (fun k => spec_ParkingOfWalk.f k H L) (pow_ H L) ∧ Ev (fun k => impl_ParkingOfWalk.f k H L) (pow_ H L) := by
 unfold pow_
 cases c : goodW H L with
 | false =>
  rw [if_neg (by simp)]
  refine ⟨?_, ?_⟩
  ·refine Ev.bind (zq71 H L (by omega)) ?_
   rw [c]; exact Ev.now _
  ·refine Ev.bind (zq83 H L (by omega)) ?_
   rw [c]; exact Ev.now _
 | true =>
  rw [if_pos rfl]
  refine ⟨?_, ?_⟩
  ·refine Ev.bind (zq71 H L (by omega)) ?_
   rw [c]
   refine Ev.congr (fun k => by rw [if_pos rfl, if_pos (by omega), if_pos (by simp; omega)]) ?_
   exact zq85 H L c L.length 0 _ (by omega) (by simp)
  ·refine Ev.bind (zq83 H L (by omega)) ?_
   rw [c]
   refine Ev.congr (fun k => by rw [if_pos rfl, if_pos (by omega), if_pos (by simp; omega)]) ?_
   exact zq86 H L c L.length 0 _ (by omega) (by simp)
theorem zq151 : ∀ (t tl p q : List Int), p.length = q.length → t.length = tl.length → p.length + t.length ≤ 1000 → (∀ x ∈ t, -1000 ≤ x ∧ x ≤ 1000) → (∀ x ∈ tl, -1000 ≤ x ∧ x ≤ 1000) →
  Ev (fun k => impl_DistancesOf.l0 k (q ++ tl) (p ++ t) true ((p ++ t).length : Int) (p.length : Int)) (p ++ disS t tl, true)
 | [], [], p, q, _, _, _, _, _ => by
  refine Ev.ret fun k => ?_
  rw [impl_DistancesOf.l0, if_neg (by simp)]
  simp [disS]
 | [], _ :: _, p, q, _, h, _, _, _ => by simp at h
 | _ :: _, [], p, q, _, h, _, _, _ => by simp at h
 | x :: t, y :: tl, p, q, hpq, h, hn, hx, hy => by
  have hn' : p.length + t.length + 1 ≤ 1000 := by simpa [Nat.add_assoc] using hn
  have hm := len_mid p x t
  have hm2 := len_mid q y tl
  have hxx := hx x (by simp)
  have hyy := hy y (by simp)
  have hr : rd (q ++ y :: tl) (p.length : Int) = y := by rw [hpq]; exact rd_mid q y tl
  have hset : (p ++ x :: t).set ((p.length : Int)).toNat (x - y) = p ++ (x - y) :: t := by
   rw [Int.toNat_natCast, List.set_append_right _ _ (Nat.le_refl _), Nat.sub_self, List.set_cons_zero]
  have ih := zq151 t tl (p ++ [x - y]) (q ++ [y]) (by simp [hpq]) (by simpa using h) (by simp; omega) (fun z hz => hx z (by simp [hz])) (fun z hz => hy z (by simp [hz]))
  rw [zq1, zq1, zq0] at ih
  have e : p ++ disS (x :: t) (y :: tl) = p ++ [x - y] ++ disS t tl := by simp [disS]
  have hl : ((p ++ (x - y) :: t).length : Int) = ((p ++ x :: t).length : Int) := by simp
  rw [hl] at ih
  rw [e]
  refine Ev.step (fun k => ?_) ih
  show impl_DistancesOf.l0 (k + 1) (q ++ y :: tl) (p ++ x :: t) true ((p ++ x :: t).length : Int) (p.length : Int) = _
  rw [impl_DistancesOf.l0, if_pos (by omega), if_pos (by omega), if_pos (by omega), if_pos (by omega), rd_mid, hr, w64 (x := x - y) (by omega) (by omega), hset, w64 (by omega) (by omega)]
theorem zq152 (l : List Int) (hpf : pf l = true) (h1 : 1 ≤ l.length) : Ev (fun k => impl_TotalDistance.f k l (l.length : Int)) ((iota l.length 0).sum - l.sum, true) := by
 obtain ⟨h8, h2, h3⟩ := (pf_iff l).1 hpf
 have hf : fav l (l.length : Int) = true := (fav_iff _ _).2 ⟨by omega, h8, h2⟩
 have hdl : (driveS l.length [] l).length = l.length := by rw [zq11]; simp
 have hdr : ∀ v ∈ driveS (l.length : Int) [] l, 0 ≤ v ∧ v < l.length := fun v hv => by
  have := ((zq132 l hpf).mem_iff (a := v)).1 hv
  rw [zq47] at this
  omega
 have hd : Ev (fun k => impl_DriveCars.f k l (l.length : Int)) (driveS l.length [] l, true) := by
  refine Ev.congr (fun k => rfl) (Ev.bind (zq142 l l.length) ?_)
  rw [hf]
  refine Ev.congr (fun k => by rw [if_pos rfl]) (Ev.bind (zq92 l l.length (by omega) (by omega) (by omega) (fun x hx => (h2 x hx).1)) ?_)
  rw [orNone, if_neg h3]
  exact Ev.now _
 have hds : Ev (fun k => impl_DistancesOf.f k l (l.length : Int)) (disS (driveS l.length [] l) l, true) := by
  have h := zq151 (driveS l.length [] l) l [] [] rfl hdl (by simp; omega) (fun x hx => by have := hdr x hx; omega) (fun x hx => by have := h2 x hx; omega)
  exact Ev.bind hd h
 have hb : ∀ x ∈ disS (driveS l.length [] l) l, 0 ≤ x ∧ x ≤ 1000 := fun x hx => by
  obtain ⟨j, hj, e⟩ := List.mem_iff_getElem.1 hx
  have hj' : j < l.length := by simp only [disS, List.length_zipWith] at hj; omega
  have hjd : j < (driveS (l.length : Int) [] l).length := by omega
  have e2 : x = (driveS (l.length : Int) [] l)[j] - l[j] := by rw [← e]; simp [disS]
  have g := zq133 (l.length : Int) l [] h3 j hj'
  rw [List.length_nil, Nat.zero_add, rd_nat, rd_nat, List.getD_eq_getElem?_getD, List.getD_eq_getElem?_getD, List.getElem?_eq_getElem hj', List.getElem?_eq_getElem hjd] at g
  have g : l[j] ≤ (driveS (l.length : Int) [] l)[j] := g
  have g2 := hdr _ (List.getElem_mem hjd)
  have g3 := h2 _ (List.getElem_mem hj')
  omega
 have hl : (disS (driveS (l.length : Int) [] l) l).length ≤ 1000 := by simp only [disS, List.length_zipWith]; omega
 refine Ev.bind hds (Ev.bind (zq139 (disS (driveS (l.length : Int) [] l) l) (by omega) hb) ?_)
 rw [dis_sum l hpf]
 exact Ev.now _
theorem zq153 (l : List Int) (h8 : l.length ≤ 8) : ∀ (d j : Nat) (out : List Int), (d = l.length - j) → out.length ≤ j → 1 ≤ j → j ≤ 100 → Ev (fun k => impl_cuts.l0 k l out (j : Int)) (out ++ cutS l d j)
 | 0, j, out, hd, ho, h1, hj => by
  refine Ev.ret fun k => ?_
  rw [impl_cuts.l0, if_neg (by omega), cutS, List.append_nil]
 | d + 1, j, out, hd, ho, h1, hj => by
  have hq : Ev (fun k => impl_cuts_1.f k l (j : Int)) (cnt (fun x => decide (x < (j : Int))) l) := zq141 (fun x => decide (x < (j : Int))) l (by omega)
  refine Ev.step (fun k => by rw [impl_cuts.l0, if_pos (by omega)]) (Ev.bind hq ?_)
  rw [cutS]
  by_cases c : cnt (fun x => decide (x < (j : Int))) l = j
  ·have ih := zq153 l h8 d (j + 1) (out ++ [(j : Int)]) (by omega) (by simp; omega) (by omega) (by omega)
   rw [show ((j + 1 : Nat) : Int) = (j : Int) + 1 by omega] at ih
   rw [if_pos c]
   have e : out ++ (j : Int) :: cutS l d (j + 1) = out ++ [(j : Int)] ++ cutS l d (j + 1) := by simp
   rw [e]
   exact Ev.congr (fun k => by rw [if_pos c, if_pos (by omega), w64 (by omega) (by omega)]) ih
  ·have ih := zq153 l h8 d (j + 1) out (by omega) (by omega) (by omega) (by omega)
   rw [show ((j + 1 : Nat) : Int) = (j : Int) + 1 by omega] at ih
   rw [if_neg c]
   exact Ev.congr (fun k => by rw [if_neg c, w64 (by omega) (by omega)]) ih
theorem zq154 (l : List Int) (hpf : pf l = true) : Ev (fun k => impl_CutsOf.f k l) (cutS l (l.length - 1) 1, true) := by
 obtain ⟨h8, h2, h3⟩ := (pf_iff l).1 hpf
 refine Ev.congr (fun k => rfl) (Ev.bind (zq97 l (by omega)) ?_)
 rw [hpf]
 have h := zq153 l h8 (l.length - 1) 1 [] rfl (by simp) (by omega) (by omega)
 exact Ev.congr (fun k => by rw [if_pos rfl]) (Ev.bind (show Ev (fun k => impl_cuts.f k l) (cutS l (l.length - 1) 1) from h) (Ev.now _))
theorem zq155 : (List.range 9).all (fun n => decide (wrap64 (Int.tdiv (wrap64 ((n : Int) * (wrap64 ((n : Int) - 1)))) 2) = (iota n 0).sum) && decide (0 ≤ (iota n 0).sum) && decide ((iota n 0).sum ≤ 28)) = true := by decide +kernel
theorem sum_bnd : ∀ l : List Int, (∀ x ∈ l, 0 ≤ x ∧ x ≤ 1000) → 0 ≤ l.sum ∧ l.sum ≤ 1000 * (l.length : Int)
 | [], _ => by simp
 | h :: t, hh => by
  have ih := sum_bnd t fun x hx => hh x (by simp [hx])
  have h0 := hh h (by simp)
  rw [List.sum_cons, List.length_cons]
  omega
theorem pw_j3 (l : List Int) (hpf : pf l = true) : Ev (fun k => laws_FnParkingIsWalks.j3 k l (hF l 0 (lab l)).sum false) true := by
 obtain ⟨h8, h2, h3⟩ := (pf_iff l).1 hpf
 rw [area_is l hpf]
 have hi := List.all_eq_true.1 zq155 l.length (List.mem_range.2 (by omega))
 simp only [Bool.and_eq_true, decide_eq_true_eq] at hi
 obtain ⟨⟨i1, i2⟩, i3⟩ := hi
 have hb : ∀ x ∈ l, 0 ≤ x ∧ x ≤ 1000 := fun x hx => by have := h2 x hx; omega
 have hs := sum_bnd l hb
 by_cases c : (l.length : Int) = 0
 ·have e : l = [] := List.length_eq_zero_iff.1 (by omega)
  subst e
  exact Ev.ret fun k => by rw [laws_FnParkingIsWalks.j3, if_neg (by simp), if_pos c]; rfl
 ·refine Ev.step (fun k => by rw [laws_FnParkingIsWalks.j3, if_neg (by simp), if_neg c]) (Ev.bind (zq152 l hpf (by omega)) ?_)
  refine Ev.congr (fun k => by rw [if_pos rfl, if_pos rfl]) (Ev.bind (zq144 l (by omega) hb) ?_)
  rw [i1, w64 (x := (iota l.length 0).sum - l.sum) (by omega) (by omega), beq_self_eq_true]
  exact Ev.now _
theorem pw_j2 (l H L : List Int) (b : Bool) (hl : l.length ≤ 1000) (h : wop l = (H, L, b)) : Ev (fun k => laws_FnParkingIsWalks.j2 k l b H L) true := by
 unfold wop at h
 cases c : pf l with
 | false =>
  rw [c, if_neg (by simp)] at h
  obtain ⟨rfl, rfl, rfl⟩ : [] = H ∧ [] = L ∧ false = b := by simpa using h
  exact Ev.ret fun k => by rw [laws_FnParkingIsWalks.j2, if_neg (by simp)]
 | true =>
  rw [c, if_pos rfl] at h
  obtain ⟨rfl, rfl, rfl⟩ : hF l 0 (lab l) = H ∧ lab l = L ∧ true = b := by simpa using h
  obtain ⟨h8, h2, h3⟩ := (pf_iff l).1 c
  have hg := zq117 l c
  have hll := zq114 l h2
  have hhl := zq102 l (lab l) 0
  have e1 := (zq150 (hF l 0 (lab l)) (lab l) (by omega) (by omega)).2
  rw [pow_, if_pos hg, zq122 l c] at e1
  obtain ⟨⟨g8, hh⟩, _⟩ := (zq57 _ _).1 hg
  have hb : ∀ x ∈ hF l 0 (lab l), 0 ≤ x ∧ x ≤ 1000 := fun x hx => by have := hts_mem _ (-1) hh x hx; omega
  have e2 : Ev (fun k => impl_AreaOf.f k (hF l 0 (lab l)) (lab l)) ((hF l 0 (lab l)).sum, true) := by
   refine Ev.bind (zq83 _ _ (by omega)) ?_
   rw [hg]
   exact Ev.congr (fun k => by rw [if_pos rfl]) (Ev.bind (zq139 _ (by omega) hb) (Ev.now _))
  have e3 := zq87 (hF l 0 (lab l)) (lab l) (by omega)
  rw [if_pos hg, zq131 l c] at e3
  have e4 := zq154 l c
  have e5 : Ev (fun k => impl_AreHeights.f k (hF l 0 (lab l))) true := by
   refine Ev.bind (zq75 _ (by omega)) ?_
   rw [decide_eq_true g8, hh]
   exact Ev.now _
  have hcl : ∀ (d j : Nat), (cutS l d j).length ≤ d := fun d => by
   induction d with
   | zero => intro j; simp [cutS]
   | succ d ih => intro j; have := ih (j + 1); rw [cutS]; split <;> simp <;> omega
  have hcl := hcl (l.length - 1) 1
  refine Ev.step (fun k => by rw [laws_FnParkingIsWalks.j2, if_pos rfl]) (Ev.bind e1 (Ev.bind e2 (Ev.bind e3 (Ev.bind e4 ?_))))
  refine Ev.congr (fun k => by rw [if_pos rfl, if_pos rfl, if_pos rfl, if_pos rfl]) (Ev.bind (zq146 l (by omega)) ?_)
  refine Ev.congr (fun k => by rw [if_pos rfl]) (Ev.bind (zq146 (cutS l (l.length - 1) 1) (by omega)) ?_)
  exact Ev.congr (fun k => by rw [if_pos rfl]) (Ev.bind e5 (pw_j3 l c))
theorem pw_j0 (l1 : List Int) (hc1 : ∀ x ∈ l1, 0 ≤ x ∧ x ≤ 255) (l H L : List Int) (b : Bool) (hl : l.length ≤ 1000) (h : wop l = (H, L, b)) : Ev (fun k => laws_FnParkingIsWalks.j0 k l1 l b false H L) true := by
 obtain ⟨Hv, Lv, a, s, hH, hL, eD⟩ := zq38 l1 hc1
 have hD : Ev (fun k => spec_DrawParkingOfWalk.f k l1) (Hv, Lv) := Ev.bind eD (Ev.now _)
 obtain ⟨ps, pi⟩ := zq150 Hv Lv (by omega) (by omega)
 have eI : Ev (fun k => impl_IsWalk.f k Hv Lv) (goodW Hv Lv) := Ev.bind (zq83 Hv Lv (by omega)) (Ev.now _)
 have ej := pw_j2 l H L b hl h
 refine Ev.step (fun k => by rw [laws_FnParkingIsWalks.j0, if_neg (by simp)]) (Ev.bind hD (Ev.bind pi (Ev.bind ps ?_)))
 cases c : goodW Hv Lv with
 | false =>
  rw [show pow_ Hv Lv = ([], false) by rw [pow_, c]; rfl]
  rw [c] at eI
  refine Ev.congr (fun k => by rw [bne_self_eq_false, if_neg (by simp)]) (Ev.bind (zq146 [] (by simp)) ?_)
  refine Ev.congr (fun k => by rw [if_pos rfl]) (Ev.bind eI ?_)
  exact Ev.step (fun k => by rw [laws_FnParkingIsWalks.j1, if_neg (by simp), if_neg (by simp)]) ej
 | true =>
  rw [show pow_ Hv Lv = (favW Hv Lv, true) by rw [pow_, c]; rfl]
  rw [c] at eI
  have hfl := zq120 Hv Lv
  refine Ev.congr (fun k => by rw [bne_self_eq_false, if_neg (by simp)]) (Ev.bind (zq146 (favW Hv Lv) (by omega)) ?_)
  refine Ev.congr (fun k => by rw [if_pos rfl]) (Ev.bind eI ?_)
  have ew := (zq149 (favW Hv Lv) (by omega)).2
  rw [wop, if_pos (pf_favW c), zq129 c, zq128 c] at ew
  refine Ev.step (fun k => by rw [laws_FnParkingIsWalks.j1, if_neg (by simp), if_pos rfl]) (Ev.bind ew ?_)
  refine Ev.congr (fun k => by rw [if_pos rfl]) (Ev.bind (zq147 Hv Lv (by omega) (by omega)) ?_)
  exact Ev.congr (fun k => by rw [if_pos rfl]) ej
theorem FnParkingIsWalks : laws_FnParkingIsWalks.Pure := by
 intro l0 l1 hm0 _ hw0 hm1 _ hw1
 have hbig : ∃ b, laws_big.f l0 l1 = some b := by
  unfold laws_big.f
  by_cases c : (l0.length : Int) > 1048576
  ·rw [if_pos c]; exact ⟨true, rfl⟩
  ·rw [if_neg c]; exact ⟨_, rfl⟩
 obtain ⟨b, hb⟩ := hbig
 cases b with
 | true => exact ⟨0, by rw [laws_FnParkingIsWalks.f, hb]; rfl⟩
 | false =>
  have hc0 : ∀ x ∈ l0, 0 ≤ x ∧ x ≤ 255 := fun x hx => by
   have := hw0 x hx
   simpa [Lit.wf, IntKind.min, IntKind.max, IntKind.signed, IntKind.bits] using this
  have hc1 : ∀ x ∈ l1, 0 ≤ x ∧ x ≤ 255 := fun x hx => by
   have := hw1 x hx
   simpa [Lit.wf, IntKind.min, IntKind.max, IntKind.signed, IntKind.bits] using this
  obtain ⟨l, a_, s_, hpl, _, hT⟩ := zq6 l0 hc0 0 0 8 (by omega) 0 ⟨by omega, by omega⟩ (by omega)
  have hD : Ev (fun k => spec_DrawWalkOfParking.f k l0) l := Ev.bind hT (Ev.now _)
  obtain ⟨e2, e1⟩ := zq149 l (by omega)
  have ep := zq148 l (by omega)
  refine Ev.rounds ?_
  refine Ev.congr (fun k => by rw [laws_FnParkingIsWalks.f, hb, Option.bind_some, if_neg (by simp)]) (Ev.bind hD (Ev.bind e1 (Ev.bind e2 ?_)))
  have hw : (wop l).1.length ≤ 1000 ∧ (wop l).2.1.length ≤ 1000 ∧ (wop l).2.2 = pf l := by
   unfold wop
   cases c : pf l with
   | false => simp
   | true =>
    obtain ⟨h8, h2, _⟩ := (pf_iff l).1 c
    have hll := zq114 l h2
    have hhl := zq102 l (lab l) 0
    rw [if_pos rfl]
    exact ⟨by show (hF l 0 (lab l)).length ≤ _; omega, by show (lab l).length ≤ _; omega, rfl⟩
  obtain ⟨w1, w2, w3⟩ := hw
  have ej := pw_j0 l1 hc1 l (wop l).1 (wop l).2.1 (wop l).2.2 (by omega) rfl
  generalize wop l = v at *
  refine Ev.congr (fun k => by rw [bne_self_eq_false, if_neg (by simp)]) (Ev.bind (zq147 v.1 v.2.1 (by omega) (by omega)) ?_)
  refine Ev.congr (fun k => by rw [if_pos rfl]) (Ev.bind ep ?_)
  rw [← w3, bne_self_eq_false]
  exact ej

end Go.Proofs.Ytkbdjbmalpkkfaa.Pure
