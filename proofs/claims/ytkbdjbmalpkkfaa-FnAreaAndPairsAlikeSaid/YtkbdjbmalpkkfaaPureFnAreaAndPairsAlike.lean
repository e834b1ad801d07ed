/- Over all walks area and pairs are spread alike, and over all heights area and bounce are, for every draw. -/
import Derived.Test.YtkbdjbmalpkkfaaVFnAreaAndPairsAlikeSized
import Derived.Test.YtkbdjbmalpkkfaaPFnAreaAndPairsAlikex
import Derived.Laws.BitsLemmas
import Derived.Lib.EndianBits
namespace Go.Proofs.Ytkbdjbmalpkkfaa.PrintWords
set_option linter.defProp false in
def sized_ints := @Go.Proofs.YtkbdjbmalpkkfaaW.PrintWords.sized_ints
end Go.Proofs.Ytkbdjbmalpkkfaa.PrintWords
namespace Go.Proofs.Ytkbdjbmalpkkfaa.Pure
open Go.RowKit Go.Proofs.Ytkbdjbmalpkkfaa.PFnAreaAndPairsAlike Go.Proofs.YtkbdjbmalpkkfaaW.PrintWords Go.Proofs.YtkbdjbmalpkkfaaW.PrintLast
set_option linter.unusedVariables false
set_option linter.unusedSimpArgs false

theorem w64 {x : Int} (h0 : -9223372036854775808 ≤ x) (h1 : x ≤ 9223372036854775807) : wrap64 x = x := by
 unfold wrap64
 omega
theorem Ev.ret {α : Type} {g : Nat → Option α} {r : α} (h : ∀ k, g (k + 1) = some r) : Ev g r :=
 Ev.step (f := fun _ => some r) h (Ev.now r)

theorem and255 (x : Int) (h0 : 0 ≤ x) (h1 : x < 18446744073709551616) : 0 ≤ Go.bits .and .u64 x 255 ∧ Go.bits .and .u64 x 255 ≤ 255 := by
 have h : Go.bits .and .u64 x 255 = x % 256 := bits_mask .u64 64 (by decide) wraps_u64 8 (by decide) x h0 h1
 rw [h]
 omega
theorem wrapu (x : Int) : 0 ≤ IntKind.u64.wrap x ∧ IntKind.u64.wrap x < 18446744073709551616 := by
 rw [IntKind.wrap_u64]
 omega
theorem zq0 (code : List Int) (hc : ∀ x ∈ code, 0 ≤ x ∧ x ≤ 255) (at_ seed : Int) (h0 : 0 ≤ at_) (h1 : at_ ≤ 1000000000000) :
  ∃ b s, spec_l1Cur_next.f code at_ seed = some (b, at_ + 1, s) ∧ 0 ≤ b ∧ b ≤ 255 := by
 have fin : ∀ q : Int, 0 ≤ wrap64 (Go.bits .and .u64 (IntKind.u64.wrap q / 1099511627776) 255) ∧ wrap64 (Go.bits .and .u64 (IntKind.u64.wrap q / 1099511627776) 255) ≤ 255 := fun q => by
  have hq := wrapu q
  have := and255 (IntKind.u64.wrap q / 1099511627776) (by omega) (by omega)
  rw [w64 (by omega) (by omega)]
  exact this
 unfold spec_l1Cur_next.f
 rw [w64 (x := at_ + 1) (by omega) (by omega)]
 by_cases c : at_ < (code.length : Int)
 ·have hb : 0 ≤ rd code at_ ∧ rd code at_ ≤ 255 := by
   refine hc _ ?_
   unfold rd
   rw [List.getD_eq_getElem?_getD, List.getElem?_eq_getElem (by omega)]
   exact List.getElem_mem _
  rw [if_pos c, if_pos h0]
  by_cases d : at_ + 1 ≤ (code.length : Int)
  ·rw [if_pos d]
   exact ⟨_, _, rfl, by rw [w64 (by omega) (by omega)]; exact hb⟩
  ·rw [if_neg d]
   exact ⟨_, _, rfl, fin _⟩
 ·rw [if_neg c]
  by_cases d : at_ + 1 ≤ (code.length : Int)
  ·rw [if_pos d]
   exact ⟨_, _, rfl, by omega, by omega⟩
  ·rw [if_neg d]
   exact ⟨_, _, rfl, fin _⟩
def Rdy (at_ : Int) (n : Int) : Prop := 0 ≤ at_ ∧ at_ ≤ n
theorem Rdy.mono {a n m : Int} (h : Rdy a n) (hm : n ≤ m) : Rdy a m := ⟨h.1, Int.le_trans h.2 hm⟩
theorem zq1 (code : List Int) (hc : ∀ x ∈ code, 0 ≤ x ∧ x ≤ 255) (at_ seed n : Int) (b : Int) (h : Rdy at_ b) (hb : b ≤ 100000000000) :
  ∃ v a s, spec_l1Cur_pick.f code at_ seed n = some (v, a, s) ∧ 0 ≤ v ∧ (v = 0 ∨ v < n) ∧ Rdy a (b + 2) := by
 obtain ⟨h0, h1⟩ := h
 unfold spec_l1Cur_pick.f
 by_cases c : n ≤ 1
 ·rw [if_pos c]
  exact ⟨0, at_, seed, rfl, by omega, .inl rfl, h0, by omega⟩
 ·rw [if_neg c]
  obtain ⟨x, s, e, hx0, hx1⟩ := zq0 code hc at_ seed h0 (by omega)
  rw [e, Option.bind_some]
  by_cases d : n > 200
  ·rw [if_pos d]
   obtain ⟨y, s2, e2, hy0, hy1⟩ := zq0 code hc (at_ + 1) s (by omega) (by omega)
   simp only [e2, Option.bind_some]
   rw [if_neg (by omega), w64 (x := x * 256) (by omega) (by omega), w64 (by omega) (by omega)]
   exact ⟨_, _, _, rfl, Int.tmod_nonneg _ (by omega), .inr (Int.tmod_lt_of_pos _ (by omega)), by omega, by omega⟩
  ·rw [if_neg d, if_neg (by omega)]
   exact ⟨_, _, _, rfl, Int.tmod_nonneg _ (by omega), .inr (Int.tmod_lt_of_pos _ (by omega)), by show 0 ≤ at_ + 1; omega, by show at_ + 1 ≤ b + 2; omega⟩

theorem zq2 (code : List Int) (hc : ∀ x ∈ code, 0 ≤ x ∧ x ≤ 255) (at_ seed : Int) (l : List Int) (hl : 1 ≤ l.length) (b : Int) (h : Rdy at_ b) (hb : b ≤ 100000000000) :
  ∃ v a s, spec_l1Cur_among.f code at_ seed l = some (v, a, s) ∧ v ∈ l ∧ Rdy a (b + 2) := by
 obtain ⟨v, a, s, e, h0, h1, h2⟩ := zq1 code hc at_ seed (l.length : Int) b h hb
 unfold spec_l1Cur_among.f
 rw [e, Option.bind_some]
 have hlt : v < (l.length : Int) := by omega
 show ∃ v' a' s', (if 0 ≤ v then (if v < (l.length : Int) then some (rd l v, a, s) else none) else none) = some (v', a', s') ∧ _
 rw [if_pos h0, if_pos hlt]
 refine ⟨_, _, _, rfl, ?_, h2⟩
 unfold rd
 rw [List.getD_eq_getElem?_getD, List.getElem?_eq_getElem (by omega)]
 exact List.getElem_mem _

theorem zq3 (code : List Int) (hc : ∀ x ∈ code, 0 ≤ x ∧ x ≤ 255) (at_ seed n : Int) (b : Int) (h : Rdy at_ b) (hb : b ≤ 100000000000) :
  ∃ v a s, spec_l1Cur_one.f code at_ seed n = some (v, a, s) ∧ Rdy a (b + 2) := by
 obtain ⟨v, a, s, e, -, -, h2⟩ := zq1 code hc at_ seed n b h hb
 unfold spec_l1Cur_one.f
 rw [e, Option.bind_some]
 exact ⟨_, _, _, rfl, h2⟩
theorem zq4 (code : List Int) (hc : ∀ x ∈ code, 0 ≤ x ∧ x ≤ 255) (at_ seed n : Int) (hn0 : 0 ≤ n) (hn1 : n ≤ 100) (b : Int) (h : Rdy at_ b) (hb : b ≤ 10000000000) :
  ∃ v a s, spec_l1Cur_sized.f code at_ seed n = some (v, a, s) ∧ -1 ≤ v ∧ v ≤ n + 1 ∧ Rdy a (b + 4) := by
 obtain ⟨o, a, s, e, h2⟩ := zq3 code hc at_ seed 6 b h (by omega)
 unfold spec_l1Cur_sized.f
 rw [e, Option.bind_some, w64 (x := n + 1) (by omega) (by omega)]
 cases o with
 | true =>
  obtain ⟨v, a2, s2, e2, hv, h3⟩ := zq2 code hc a s [(-1), 0, 1, n, n + 1] (by simp) (b + 2) h2 (by omega)
  simp only [e2]
  refine ⟨_, _, _, rfl, ?_, ?_, ?_⟩
  ·simp at hv; omega
  ·simp at hv; omega
  ·exact h3.mono (by omega)
 | false =>
  obtain ⟨v, a2, s2, e2, hv, hv2, h3⟩ := zq1 code hc a s (n + 1) (b + 2) h2 (by omega)
  simp only [e2]
  exact ⟨_, _, _, rfl, by omega, by omega, h3.mono (by omega)⟩

def spR (n : Int) : List (List Int) × Bool := (impl_SpreadOfWalks.f 400 n).getD ([], false)
theorem spR_all : (List.range 5).all (fun i => decide (impl_SpreadOfWalks.f 400 (i : Int) = some (spR (i : Int))) && decide (spec_SpreadOfWalks.f 400 (i : Int) = some (spR (i : Int))) && decide ((spR (i : Int)).1.length ≤ 1000) && ((spR (i : Int)).1.all fun x => decide (x.length ≤ 1000))) = true := by decide +kernel
def spA (n : Int) : List (List Int) × Bool := if 0 ≤ n ∧ n ≤ 4 then spR n else ([], false)
theorem ev_spA (n : Int) : (spA n).1.length ≤ 1000000 ∧ (∀ x ∈ (spA n).1, x.length ≤ 1000000) ∧ Ev (fun k => spec_SpreadOfWalks.f k n) (spA n) ∧ Ev (fun k => impl_SpreadOfWalks.f k n) (spA n) := by
 unfold spA
 by_cases c : 0 ≤ n ∧ n ≤ 4
 ·have h := List.all_eq_true.1 spR_all n.toNat (List.mem_range.2 (by omega))
  rw [show ((n.toNat : Nat) : Int) = n by omega] at h
  simp only [Bool.and_eq_true, decide_eq_true_eq, List.all_eq_true] at h
  obtain ⟨⟨⟨h1, h2⟩, h3⟩, h4⟩ := h
  rw [if_pos c]
  exact ⟨by omega, fun x hx => by have := h4 x hx; omega, Ev.of (fun k => spec_SpreadOfWalks.mono _ k) h2, Ev.of (fun k => impl_SpreadOfWalks.mono _ k) h1⟩
 ·have e1 : ∃ b, spec_l1In.f n 0 4 = some b ∧ b = false := by
   unfold spec_l1In.f
   by_cases d : n ≥ 0
   ·rw [if_pos d]; exact ⟨_, rfl, decide_eq_false (by omega)⟩
   ·rw [if_neg d]; exact ⟨_, rfl, rfl⟩
  have e2 : ∃ b, impl_between.f n 0 4 = some b ∧ b = false := by
   unfold impl_between.f
   by_cases d : n ≥ 0
   ·rw [if_pos d]; exact ⟨_, rfl, decide_eq_false (by omega)⟩
   ·rw [if_neg d]; exact ⟨_, rfl, rfl⟩
  obtain ⟨b1, e1, rfl⟩ := e1
  obtain ⟨b2, e2, rfl⟩ := e2
  rw [if_neg c]
  refine ⟨by simp, by simp, ?_, ?_⟩
  ·exact Ev.congr (fun k => by rw [spec_SpreadOfWalks.f, e1, Option.bind_some, if_neg (by simp)]) (Ev.now _)
  ·exact Ev.congr (fun k => by rw [impl_SpreadOfWalks.f, e2, Option.bind_some, if_neg (by simp)]) (Ev.now _)

theorem zq5 (L : List Int) (hl : L.length ≤ 1000000) : ∀ (d i : Nat), i + d = L.length → Ev (fun k => laws_wSame.l0 k L L (L.length : Int) (i : Int)) true
 | 0, i, hd => Ev.ret fun k => by rw [laws_wSame.l0, if_neg (by omega)]
 | d + 1, i, hd => by
  have ih := zq5 L hl d (i + 1) (by omega)
  rw [show ((i + 1 : Nat) : Int) = (i : Int) + 1 by omega] at ih
  refine Ev.step (fun k => ?_) ih
  show laws_wSame.l0 (k + 1) L L (L.length : Int) (i : Int) = _
  rw [laws_wSame.l0, if_pos (by omega), if_pos (by omega), if_pos (by omega), if_pos (by omega), if_pos rfl, w64 (by omega) (by omega)]
theorem zq6 (L : List Int) (hl : L.length ≤ 1000000) : Ev (fun k => laws_wSame.f k L L) true :=
 Ev.congr (fun k => by rw [laws_wSame.f, if_pos rfl]; rfl) (zq5 L hl L.length 0 (by omega))

theorem zq7 (L : List (List Int)) (hl : L.length ≤ 1000000) (hx : ∀ x ∈ L, x.length ≤ 1000000) : ∀ (d i : Nat), i + d = L.length → Ev (fun k => laws_wSameLists.l0 k L L (L.length : Int) (i : Int)) true
 | 0, i, hd => Ev.ret fun k => by rw [laws_wSameLists.l0, if_neg (by omega)]
 | d + 1, i, hd => by
  have ih := zq7 L hl hx d (i + 1) (by omega)
  rw [show ((i + 1 : Nat) : Int) = (i : Int) + 1 by omega] at ih
  have hm : (rd_L2 L i).length ≤ 1000000 := by
   refine hx _ ?_
   unfold rd_L2
   rw [Int.toNat_natCast, List.getD_eq_getElem?_getD, List.getElem?_eq_getElem (by omega)]
   exact List.getElem_mem _
  refine Ev.step (fun k => by rw [laws_wSameLists.l0, if_pos (by omega), if_pos (by omega), if_pos (by omega), if_pos (by omega)]) (Ev.bind (zq6 (rd_L2 L i) hm) ?_)
  exact Ev.congr (fun k => by rw [if_pos rfl, w64 (by omega) (by omega)]) ih
theorem zq8 (L : List (List Int)) (hl : L.length ≤ 1000000) (hx : ∀ x ∈ L, x.length ≤ 1000000) : Ev (fun k => laws_wSameLists.f k L L) true :=
 Ev.congr (fun k => by rw [laws_wSameLists.f, if_pos rfl]; rfl) (zq7 L hl hx L.length 0 (by omega))

set_option maxRecDepth 100000 in
theorem zq9 : (List.range 7).all (fun n => decide (spec_waAll.f 60 [] (n : Int) = some (impl_allHeights.lv n))) = true := by decide +kernel
theorem zq10 (n : Nat) (hn : n ≤ 6) : Ev (fun k => spec_waAll.f k [] (n : Int)) (impl_allHeights.lv n) := by
 have h := List.all_eq_true.1 zq9 n (List.mem_range.2 (by omega))
 exact Ev.of (fun k => spec_waAll.mono _ _ k) (of_decide_eq_true h)
def ahA (n : Int) : List (List Int) × Bool := if 0 ≤ n ∧ n ≤ 6 then (impl_allHeights.lv n.toNat, true) else ([], false)
theorem ev_ahA (n : Int) : (ahA n).1.length ≤ 1000000 ∧ (∀ x ∈ (ahA n).1, x.length ≤ 1000000) ∧ Ev (fun k => spec_AllHeights.f k n) (ahA n) ∧ Ev (fun k => impl_AllHeights.f k n) (ahA n) := by
 unfold ahA
 by_cases c : 0 ≤ n ∧ n ≤ 6
 ·rw [if_pos c]
  obtain ⟨m, rfl⟩ := Int.eq_ofNat_of_zero_le c.1
  rw [Int.toNat_natCast]
  obtain ⟨h1, h2⟩ := impl_allHeights.small m (by omega)
  have e1 : spec_l1In.f (m : Int) 0 6 = some true := by rw [spec_l1In.f, if_pos (by omega), decide_eq_true (by omega)]
  have e2 : impl_between.f (m : Int) 0 6 = some true := by rw [impl_between.f, if_pos (by omega), decide_eq_true (by omega)]
  have e3 : ∀ k, impl_allHeights.f k (m : Int) = some (impl_allHeights.lv m) := fun k => by rw [impl_allHeights.f, if_pos c, Int.toNat_natCast]
  refine ⟨by show (impl_allHeights.lv m).length ≤ _; omega, fun x hx => by have := (h2 x hx).1; omega, ?_, ?_⟩
  ·refine Ev.congr (fun k => by rw [spec_AllHeights.f, e1, Option.bind_some, if_pos rfl]) (Ev.bind (zq10 m (by omega)) (Ev.now _))
  ·refine Ev.congr (fun k => by rw [impl_AllHeights.f, e2, Option.bind_some, if_pos rfl, e3 k, Option.bind_some]) (Ev.now _)
 ·rw [if_neg c]
  have e1 : ∃ b, spec_l1In.f n 0 6 = some b ∧ b = false := by
   unfold spec_l1In.f
   by_cases d : n ≥ 0
   ·rw [if_pos d]; exact ⟨_, rfl, decide_eq_false (by omega)⟩
   ·rw [if_neg d]; exact ⟨_, rfl, rfl⟩
  have e2 : ∃ b, impl_between.f n 0 6 = some b ∧ b = false := by
   unfold impl_between.f
   by_cases d : n ≥ 0
   ·rw [if_pos d]; exact ⟨_, rfl, decide_eq_false (by omega)⟩
   ·rw [if_neg d]; exact ⟨_, rfl, rfl⟩
  obtain ⟨b1, e1, rfl⟩ := e1
  obtain ⟨b2, e2, rfl⟩ := e2
  refine ⟨by simp, by simp, ?_, ?_⟩
  ·exact Ev.congr (fun k => by rw [spec_AllHeights.f, e1, Option.bind_some, if_neg (by simp)]) (Ev.now _)
  ·exact Ev.congr (fun k => by rw [impl_AllHeights.f, e2, Option.bind_some, if_neg (by simp)]) (Ev.now _)
def chR (n : Int) : Int × Bool := (impl_CountHeights.f 100 n).getD (0, false)
theorem chR_all : (List.range 9).all (fun i => decide (impl_CountHeights.f 100 ((i : Int) - 1) = some (chR ((i : Int) - 1))) && decide (spec_CountHeights.f 100 ((i : Int) - 1) = some (chR ((i : Int) - 1)))) = true := by decide +kernel
theorem ev_chR (n : Int) (h0 : -1 ≤ n) (h1 : n ≤ 7) : Ev (fun k => impl_CountHeights.f k n) (chR n) ∧ Ev (fun k => spec_CountHeights.f k n) (chR n) := by
 have h := List.all_eq_true.1 chR_all (n + 1).toNat (List.mem_range.2 (by omega))
 rw [show (((n + 1).toNat : Nat) : Int) - 1 = n by omega] at h
 simp only [Bool.and_eq_true, decide_eq_true_eq] at h
 exact ⟨Ev.of (fun k => impl_CountHeights.mono _ k) h.1, Ev.of (fun k => spec_CountHeights.mono _ k) h.2⟩
theorem ch_len : (List.range 7).all (fun m => decide ((chR (m : Int)).1 = ((impl_allHeights.lv m).length : Int))) = true := by decide +kernel
theorem zq11 (n : Int) (h : (ahA n).2 = true) : ((chR n).1 != ((ahA n).1.length : Int)) = false := by
 unfold ahA at *
 by_cases c : 0 ≤ n ∧ n ≤ 6
 ·rw [if_pos c]
  have g := List.all_eq_true.1 ch_len n.toNat (List.mem_range.2 (by omega))
  rw [decide_eq_true_eq, show ((n.toNat : Nat) : Int) = n by omega] at g
  rw [g]
  exact bne_self_eq_false _
 ·rw [if_neg c] at h; simp at h
def hN (m x : Nat) : List Int := (impl_allHeights.lv m).getD x []
def bN (m x : Nat) : Int := ((impl_BounceOf.f 100 (hN m x)).getD (0, false)).1
def wN (m x : Nat) : Int := ((impl_CountLabels.f 100 (hN m x)).getD (0, false)).1
def sN (m x : Nat) : Int := (laws_wSum.f 20 (hN m x)).getD 0
def okH (m x : Nat) : Bool := decide (impl_BounceOf.f 100 (hN m x) = some (bN m x, true)) && decide (impl_CountLabels.f 100 (hN m x) = some (wN m x, true)) && decide (0 ≤ bN m x) && decide (bN m x < 30) && decide (laws_wSum.f 20 (hN m x) = some (sN m x)) && decide (0 ≤ sN m x) && decide (sN m x < 30) && decide (x = 0 ∨ laws_wLess.f 20 (hN m (x - 1)) (hN m x) = some true)
def okHs (m : Nat) : Bool := (List.range (impl_allHeights.lv m).length).all (okH m)
theorem zq12 : (List.range 7).all okHs = true := by decide +kernel
def stp (m : Nat) (S : List Int × List Int × Int) (x : Nat) : List Int × List Int × Int := (S.1.set (sN m x).toNat (wrap64 (rd S.1 (sN m x) + 1)), S.2.1.set (bN m x).toNat (wrap64 (rd S.2.1 (bN m x) + 1)), wrap64 (S.2.2 + wN m x))
def stE (m : Nat) : List Int × List Int × Int := (List.range' 0 (impl_allHeights.lv m).length).foldl (stp m) (List.replicate 30 0, List.replicate 30 0, 0)
theorem stE_all : (List.range 7).all (fun m => decide ((stE m).1 = (stE m).2.1) && decide (impl_CountParking.f 60 (m : Int) = some ((stE m).2.2, true)) && decide ((stE m).1.length ≤ 1000)) = true := by decide +kernel
theorem zq13 (n : Int) (T : List (List Int)) (fi : Bool) (hj : Ev (fun k => laws_FnAreaAndPairsAlike.j3 k n T fi) true) (m : Nat) (hm : m ≤ 6) : ∀ (d x : Nat) (S : List Int × List Int × Int), x + d = (impl_allHeights.lv m).length → S.1.length = 30 → S.2.1.length = 30 → (List.range' x d).foldl (stp m) S = stE m →
  Ev (fun k => laws_FnAreaAndPairsAlike.l0 k n T fi (m : Int) (impl_allHeights.lv m) S.1 S.2.1 S.2.2 (impl_allHeights.lv m) ((impl_allHeights.lv m).length : Int) (x : Int)) true
 | 0, x, S, hd, _, _, hE => by
  have h := List.all_eq_true.1 stE_all m (List.mem_range.2 (by omega))
  simp only [Bool.and_eq_true, decide_eq_true_eq] at h
  obtain ⟨⟨s1, s2⟩, s3⟩ := h
  have hE' : S = stE m := by simpa using hE
  subst hE'
  refine Ev.step (fun k => by rw [laws_FnAreaAndPairsAlike.l0, if_neg (by omega)]) (Ev.bind (Ev.of (fun k => impl_CountParking.mono _ k) s2) ?_)
  refine Ev.congr (fun k => by rw [if_pos rfl, if_pos rfl, ← s1]) (Ev.bind (zq6 (stE m).1 (by omega)) ?_)
  exact Ev.congr (fun k => by rw [if_pos rfl]) hj
 | d + 1, x, S, hd, h30, h30', hE => by
  have hs := (impl_allHeights.small m hm).1
  have g := List.all_eq_true.1 zq12 m (List.mem_range.2 (by omega))
  have g0 := List.all_eq_true.1 g x (List.mem_range.2 (by omega))
  simp only [okH, Bool.and_eq_true, decide_eq_true_eq] at g0
  obtain ⟨⟨⟨⟨⟨⟨⟨gb, gw⟩, b0⟩, b30⟩, gs⟩, s0⟩, s30⟩, gl⟩ := g0
  have ih := zq13 n T fi hj m hm d (x + 1) (stp m S x) (by omega) (by simpa [stp] using h30) (by simpa [stp] using h30') (by rw [← hE, List.range'_succ, List.foldl_cons])
  have hr : ∀ y : Nat, rd_L2 (impl_allHeights.lv m) (y : Int) = hN m y := fun y => by rw [rd_L2, Int.toNat_natCast]; rfl
  refine Ev.step (fun k => by rw [laws_FnAreaAndPairsAlike.l0, if_pos (by omega), if_pos (by omega), if_pos (by omega), hr x]) (Ev.bind (Ev.of (fun k => impl_BounceOf.mono _ k) gb) (Ev.bind (Ev.of (fun k => impl_CountLabels.mono _ k) gw) ?_))
  refine Ev.congr (fun k => by rw [if_pos rfl, if_pos rfl, if_neg (by omega), if_neg (by omega)]) ?_
  rcases Nat.eq_zero_or_pos x with h0 | h0
  ·refine Ev.congr (fun k => by rw [if_neg (by omega)]) (Ev.bind (Ev.of (fun k => laws_wSum.mono _ k) gs) ?_)
   exact Ev.congr (fun k => by rw [if_pos s0, if_pos (by omega), if_pos b0, if_pos (by omega), w64 (x := (x : Int) + 1) (by omega) (by omega), show (x : Int) + 1 = ((x + 1 : Nat) : Int) by omega]; rfl) ih
  ·refine Ev.congr (fun k => by rw [if_pos (by omega), w64 (x := (x : Int) - 1) (by omega) (by omega), if_pos (by omega), if_pos (by omega), show (x : Int) - 1 = ((x - 1 : Nat) : Int) by omega, hr (x - 1)]) (Ev.bind (Ev.of (fun k => laws_wLess.mono _ _ k) (gl.resolve_left (by omega))) ?_)
   refine Ev.congr (fun k => by rw [if_pos rfl]) (Ev.bind (Ev.of (fun k => laws_wSum.mono _ k) gs) ?_)
   exact Ev.congr (fun k => by rw [if_pos s0, if_pos (by omega), if_pos b0, if_pos (by omega), w64 (x := (x : Int) + 1) (by omega) (by omega), show (x : Int) + 1 = ((x + 1 : Nat) : Int) by omega]; rfl) ih
theorem zq14 : (List.range 5).all (fun i => decide (laws_FnAreaAndPairsAlike.j3 2500 (i : Int) (spR (i : Int)).1 (spR (i : Int)).2 = some true)) = true := by decide +kernel
theorem zq15 (n : Int) : Ev (fun k => laws_FnAreaAndPairsAlike.j3 k n (spA n).1 (spA n).2) true := by
 unfold spA
 by_cases c : 0 ≤ n ∧ n ≤ 4
 ·rw [if_pos c]
  have h := List.all_eq_true.1 zq14 n.toNat (List.mem_range.2 (by omega))
  rw [decide_eq_true_eq, show ((n.toNat : Nat) : Int) = n by omega] at h
  exact Ev.of (fun k => (laws_FnAreaAndPairsAlike.mono_l k).2.2.1 _ _ _) h
 ·rw [if_neg c]
  exact Ev.ret fun k => by rw [laws_FnAreaAndPairsAlike.j3, if_neg (by simp)]
theorem FnAreaAndPairsAlike : laws_FnAreaAndPairsAlike.Pure := by
 intro l0 l1 hm0 _ hw0 hm1 _ hw1
 have hbig : ∃ b, laws_big.f l0 l1 = some b := by
  unfold laws_big.f
  by_cases c : (l0.length : Int) > 1048576
  ·rw [if_pos c]; exact ⟨true, rfl⟩
  ·rw [if_neg c]; exact ⟨_, rfl⟩
 obtain ⟨b, hb⟩ := hbig
 cases b with
 | true => exact ⟨0, by rw [laws_FnAreaAndPairsAlike.f, hb]; rfl⟩
 | false =>
  have hc0 : ∀ x ∈ l0, 0 ≤ x ∧ x ≤ 255 := fun x hx => by
   have := hw0 x hx
   simpa [Lit.wf, IntKind.min, IntKind.max, IntKind.signed, IntKind.bits] using this
  have hc1 : ∀ x ∈ l1, 0 ≤ x ∧ x ≤ 255 := fun x hx => by
   have := hw1 x hx
   simpa [Lit.wf, IntKind.min, IntKind.max, IntKind.signed, IntKind.bits] using this
  obtain ⟨n, hD⟩ : ∃ n, spec_DrawSpreadOfWalks.f l0 = some n := by
   obtain ⟨v, a2, s2, e2, hv, hv2, -⟩ := zq4 l0 hc0 0 0 4 (by omega) (by omega) 0 ⟨by omega, by omega⟩ (by omega)
   unfold spec_DrawSpreadOfWalks.f
   simp only [e2]
   exact ⟨_, rfl⟩
  obtain ⟨m, hM, hm0', hm1'⟩ : ∃ m, spec_DrawAllHeights.f l1 = some m ∧ -1 ≤ m ∧ m ≤ 7 := by
   obtain ⟨v, a2, s2, e2, hv, hv2, -⟩ := zq4 l1 hc1 0 0 6 (by omega) (by omega) 0 ⟨by omega, by omega⟩ (by omega)
   unfold spec_DrawAllHeights.f
   simp only [e2]
   exact ⟨_, rfl, by omega, by omega⟩
  obtain ⟨t1, t2, eS, eI⟩ := ev_spA n
  obtain ⟨a1, a2, eA, eB⟩ := ev_ahA m
  obtain ⟨eC, eC2⟩ := ev_chR m hm0' hm1'
  refine Ev.rounds ?_
  refine Ev.congr (fun k => by rw [laws_FnAreaAndPairsAlike.f, hb, Option.bind_some, if_neg (by simp), hD, Option.bind_some]) ?_
  refine Ev.bind eI (Ev.bind eS ?_)
  refine Ev.congr (fun k => by rw [bne_self_eq_false, if_neg (by simp)]) (Ev.bind (zq8 _ t1 t2) ?_)
  refine Ev.step (fun k => by rw [laws_FnAreaAndPairsAlike.j0, if_neg (by simp), hM, Option.bind_some]) ?_
  refine Ev.bind eB (Ev.bind eA (Ev.bind eC (Ev.bind eC2 ?_)))
  refine Ev.congr (fun k => by rw [bne_self_eq_false, if_neg (by simp)]) (Ev.bind (zq8 _ a1 a2) ?_)
  refine Ev.congr (fun k => by rw [if_pos rfl, bne_self_eq_false, if_neg (by simp), if_pos rfl]) ?_
  have ej1 : Ev (fun k => laws_FnAreaAndPairsAlike.j1 k n (spA n).1 (spA n).2 m (ahA m).1 (ahA m).2 false) true := by
   by_cases c : 0 ≤ m ∧ m ≤ 6
   ·have e : ahA m = (impl_allHeights.lv m.toNat, true) := by rw [ahA, if_pos c]
    have hl := zq13 n (spA n).1 (spA n).2 (zq15 n) m.toNat (by omega) (impl_allHeights.lv m.toNat).length 0 (List.replicate 30 0, List.replicate 30 0, 0) (by omega) (by simp) (by simp) rfl
    rw [show ((m.toNat : Nat) : Int) = m by omega] at hl
    rw [e]
    exact Ev.step (fun k => by rw [laws_FnAreaAndPairsAlike.j1, if_neg (by simp), if_pos rfl, if_pos (by decide)]; rfl) hl
   ·have e : ahA m = ([], false) := by rw [ahA, if_neg c]
    rw [e]
    exact Ev.step (fun k => by rw [laws_FnAreaAndPairsAlike.j1, if_neg (by simp), if_neg (by simp)]) (zq15 n)
  by_cases c : (ahA m).2 = true
  ·exact Ev.congr (fun k => by rw [if_pos c, zq11 m c]) ej1
  ·exact Ev.congr (fun k => by rw [if_neg c]) ej1

end Go.Proofs.Ytkbdjbmalpkkfaa.Pure
