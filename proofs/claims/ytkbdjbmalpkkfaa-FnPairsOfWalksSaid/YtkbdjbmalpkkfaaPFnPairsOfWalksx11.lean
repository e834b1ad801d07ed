-- Written by a program of this session for this claim (its own turn of the print).
import Derived.Test.YtkbdjbmalpkkfaaPFnPairsOfWalksx0
import Derived.Test.YtkbdjbmalpkkfaaPFnPairsOfWalksx1
import Derived.Test.YtkbdjbmalpkkfaaPFnPairsOfWalksx3
import Derived.Test.YtkbdjbmalpkkfaaPFnPairsOfWalksx6
import Derived.Test.YtkbdjbmalpkkfaaPFnPairsOfWalksx8
import Derived.Test.YtkbdjbmalpkkfaaPFnPairsOfWalksx9
import Derived.Test.YtkbdjbmalpkkfaaPFnPairsOfWalksx10
namespace Go.Proofs.Ytkbdjbmalpkkfaa.PFnPairsOfWalks
open Go.RowKit Go.Proofs.YtkbdjbmalpkkfaaW.PrintWords Go.Proofs.YtkbdjbmalpkkfaaW.PrintLast Go.Proofs.YtkbdjbmalpkkfaaW.PrintMore
attribute [local go_sem] max2_int min2_int max_two min_two max_three min_three max_four min_four   -- for this text's walks alone
set_option linter.unusedVariables false
set_option linter.unusedSimpArgs false

/-! ### laws_FnPairsOfWalks: function 3 -/
mutual
def laws_FnPairsOfWalks.j0 : Nat → List (List Int) → Bool → Int → List Int → Bool → List Int → List Int → Option (Bool)
 | 0, _, _, _, _, _, _, _ => none
 | k + 1, x6, x9, x10, x12, x83, x413000, x413001 => if x83 = true then (some false) else (if x9 = true then (if x10 = (x6.length : Int) then (laws_FnPairsOfWalks.j1 k x6 x12 ((x12.length : Int) != (x413001.length : Int)) x413000 x413001) else (laws_FnPairsOfWalks.j1 k x6 x12 true x413000 x413001)) else (some true))
def laws_FnPairsOfWalks.j1 : Nat → List (List Int) → List Int → Bool → List Int → List Int → Option (Bool)
 | 0, _, _, _, _, _ => none
 | k + 1, x6, x12, x97, x413000, x413001 => if x97 = true then (some false) else (laws_FnPairsOfWalks.l0 k x12 x6 (x6.length : Int) 0 x413000 x413001)
def laws_FnPairsOfWalks.l0 : Nat → List Int → List (List Int) → Int → Int → List Int → List Int → Option (Bool)
 | 0, _, _, _, _, _, _ => none
 | k + 1, x12, x98, x99, x100, x413000, x413001 => if x100 < x99 then (if 0 ≤ x100 then (if x100 < (x98.length : Int) then (if 0 < ((rd_L2 x98 x100).length : Int) then (if 1 < ((rd_L2 x98 x100).length : Int) then (if 0 ≤ (rd (rd_L2 x98 x100) 0) then (if (rd (rd_L2 x98 x100) 0) < (x413000.length : Int) then (if 0 ≤ (rd (rd_L2 x98 x100) 1) then (if (rd (rd_L2 x98 x100) 1) < (x413000.length : Int) then (if (rd x413000 (rd (rd_L2 x98 x100) 0)) = (rd x413000 (rd (rd_L2 x98 x100) 1)) then (if (rd (rd_L2 x98 x100) 0) < (x413001.length : Int) then (if (rd (rd_L2 x98 x100) 1) < (x413001.length : Int) then (laws_FnPairsOfWalks.j3 k x12 (rd (rd_L2 x98 x100) 0) (rd (rd_L2 x98 x100) 1) (decide ((rd x413001 (rd (rd_L2 x98 x100) 0)) < (rd x413001 (rd (rd_L2 x98 x100) 1)))) x98 x99 x100 x413000 x413001) else (none)) else (none)) else (laws_FnPairsOfWalks.j3 k x12 (rd (rd_L2 x98 x100) 0) (rd (rd_L2 x98 x100) 1) false x98 x99 x100 x413000 x413001)) else (none)) else (none)) else (none)) else (none)) else (none)) else (none)) else (none)) else (none)) else (some true)
def laws_FnPairsOfWalks.j3 : Nat → List Int → Int → Int → Bool → List (List Int) → Int → Int → List Int → List Int → Option (Bool)
 | 0, _, _, _, _, _, _, _, _, _ => none
 | k + 1, x12, x18, x19, x20, x98, x99, x100, x413000, x413001 => if 0 ≤ x18 then (if x18 < (x413000.length : Int) then (if 0 ≤ x19 then (if x19 < (x413000.length : Int) then (if (rd x413000 x18) = (wrap64 ((rd x413000 x19) + 1)) then (if x18 < (x413001.length : Int) then (if x19 < (x413001.length : Int) then (laws_FnPairsOfWalks.j4 k x12 x18 x19 x20 (decide ((rd x413001 x18) > (rd x413001 x19))) x98 x99 x100 x413000 x413001) else (none)) else (none)) else (laws_FnPairsOfWalks.j4 k x12 x18 x19 x20 false x98 x99 x100 x413000 x413001)) else (none)) else (none)) else (none)) else (none)
def laws_FnPairsOfWalks.j4 : Nat → List Int → Int → Int → Bool → Bool → List (List Int) → Int → Int → List Int → List Int → Option (Bool)
 | 0, _, _, _, _, _, _, _, _, _, _ => none
 | k + 1, x12, x18, x19, x20, x21, x98, x99, x100, x413000, x413001 => if x21 = true then (laws_FnPairsOfWalks.j5 k x12 x18 x19 x20 x21 x19 x18 x98 x99 x100 x413000 x413001) else (laws_FnPairsOfWalks.j5 k x12 x18 x19 x20 x21 x18 x19 x98 x99 x100 x413000 x413001)
def laws_FnPairsOfWalks.j5 : Nat → List Int → Int → Int → Bool → Bool → Int → Int → List (List Int) → Int → Int → List Int → List Int → Option (Bool)
 | 0, _, _, _, _, _, _, _, _, _, _, _, _ => none
 | k + 1, x12, x18, x19, x20, x21, x22, x23, x98, x99, x100, x413000, x413001 => if x18 ≥ x19 then (some false) else (if x20 = true then (if 0 ≤ x22 then (if x22 < (x413001.length : Int) then ((laws_wPlace.f k x12 (rd x413001 x22)).bind fun t445 => (if 0 ≤ x23 then (if x23 < (x413001.length : Int) then ((laws_wPlace.f k x12 (rd x413001 x23)).bind fun t447 => (if t445 < t447 then (some false) else (laws_FnPairsOfWalks.l0 k x12 x98 x99 (wrap64 (x100 + 1)) x413000 x413001))) else (none)) else (none))) else (none)) else (none)) else (if x21 = true then (if 0 ≤ x22 then (if x22 < (x413001.length : Int) then ((laws_wPlace.f k x12 (rd x413001 x22)).bind fun t449 => (if 0 ≤ x23 then (if x23 < (x413001.length : Int) then ((laws_wPlace.f k x12 (rd x413001 x23)).bind fun t451 => (if t449 < t451 then (some false) else (laws_FnPairsOfWalks.l0 k x12 x98 x99 (wrap64 (x100 + 1)) x413000 x413001))) else (none)) else (none))) else (none)) else (none)) else (some false)))
end
def laws_FnPairsOfWalks.f (k : Nat) (l0 : List Int) (l1 : List Int) : Option (Bool) := (laws_big.f l0 l1).bind fun t405 => (if t405 = true then (some true) else ((spec_DrawPairsOf.f k l0).bind fun bt406 => ((impl_PairsOf.f k bt406.1 bt406.2).bind fun bt413 => ((spec_PairsOf.f k bt406.1 bt406.2).bind fun bt417 => ((impl_PairCount.f k bt406.1 bt406.2).bind fun bt421 => ((impl_ReadingOf.f k bt406.1 bt406.2).bind fun bt423 => ((spec_ReadingOf.f k bt406.1 bt406.2).bind fun bt427 => (if (bt413.2 != bt417.2) = true then (laws_FnPairsOfWalks.j0 k bt413.1 bt417.2 bt421.1 bt423.1 true bt406.1 bt406.2) else ((laws_wSameLists.f k bt413.1 bt417.1).bind fun t431 => (if t431 = true then (if (bt421.2 != bt413.2) = true then (laws_FnPairsOfWalks.j0 k bt413.1 bt417.2 bt421.1 bt423.1 true bt406.1 bt406.2) else (if (bt423.2 != bt427.2) = true then (laws_FnPairsOfWalks.j0 k bt413.1 bt417.2 bt421.1 bt423.1 true bt406.1 bt406.2) else ((laws_wSame.f k bt423.1 bt427.1).bind fun t432 => (if t432 = true then (laws_FnPairsOfWalks.j0 k bt413.1 bt417.2 bt421.1 bt423.1 (bt423.2 != bt413.2) bt406.1 bt406.2) else (laws_FnPairsOfWalks.j0 k bt413.1 bt417.2 bt421.1 bt423.1 true bt406.1 bt406.2))))) else (laws_FnPairsOfWalks.j0 k bt413.1 bt417.2 bt421.1 bt423.1 true bt406.1 bt406.2)))))))))))
theorem laws_FnPairsOfWalks.mono_l : ∀ k, (∀ y0 y1 y2 y3 y4 y5 y6, LeO (laws_FnPairsOfWalks.j0 k y0 y1 y2 y3 y4 y5 y6) (laws_FnPairsOfWalks.j0 (k + 1) y0 y1 y2 y3 y4 y5 y6)) ∧ (∀ y0 y1 y2 y3 y4, LeO (laws_FnPairsOfWalks.j1 k y0 y1 y2 y3 y4) (laws_FnPairsOfWalks.j1 (k + 1) y0 y1 y2 y3 y4)) ∧ (∀ y0 y1 y2 y3 y4 y5, LeO (laws_FnPairsOfWalks.l0 k y0 y1 y2 y3 y4 y5) (laws_FnPairsOfWalks.l0 (k + 1) y0 y1 y2 y3 y4 y5)) ∧ (∀ y0 y1 y2 y3 y4 y5 y6 y7 y8, LeO (laws_FnPairsOfWalks.j3 k y0 y1 y2 y3 y4 y5 y6 y7 y8) (laws_FnPairsOfWalks.j3 (k + 1) y0 y1 y2 y3 y4 y5 y6 y7 y8)) ∧ (∀ y0 y1 y2 y3 y4 y5 y6 y7 y8 y9, LeO (laws_FnPairsOfWalks.j4 k y0 y1 y2 y3 y4 y5 y6 y7 y8 y9) (laws_FnPairsOfWalks.j4 (k + 1) y0 y1 y2 y3 y4 y5 y6 y7 y8 y9)) ∧ (∀ y0 y1 y2 y3 y4 y5 y6 y7 y8 y9 y10 y11, LeO (laws_FnPairsOfWalks.j5 k y0 y1 y2 y3 y4 y5 y6 y7 y8 y9 y10 y11) (laws_FnPairsOfWalks.j5 (k + 1) y0 y1 y2 y3 y4 y5 y6 y7 y8 y9 y10 y11))
 | 0 => ⟨fun _ _ _ _ _ _ _ r h => by simp [laws_FnPairsOfWalks.j0] at h, fun _ _ _ _ _ r h => by simp [laws_FnPairsOfWalks.j1] at h, fun _ _ _ _ _ _ r h => by simp [laws_FnPairsOfWalks.l0] at h, fun _ _ _ _ _ _ _ _ _ r h => by simp [laws_FnPairsOfWalks.j3] at h, fun _ _ _ _ _ _ _ _ _ _ r h => by simp [laws_FnPairsOfWalks.j4] at h, fun _ _ _ _ _ _ _ _ _ _ _ _ r h => by simp [laws_FnPairsOfWalks.j5] at h⟩
 | k + 1 => by
  obtain ⟨ih0, ih1, ih2, ih3, ih4, ih5⟩ := laws_FnPairsOfWalks.mono_l k
  refine ⟨?_, ?_, ?_, ?_, ?_, ?_⟩
  ·intro y0 y1 y2 y3 y4 y5 y6
   unfold laws_FnPairsOfWalks.j0
   repeat' first
   | (with_reducible exact ih0 _ _ _ _ _ _ _)
   | (with_reducible exact ih1 _ _ _ _ _)
   | (with_reducible exact ih2 _ _ _ _ _ _)
   | (with_reducible exact ih3 _ _ _ _ _ _ _ _ _)
   | (with_reducible exact ih4 _ _ _ _ _ _ _ _ _ _)
   | (with_reducible exact ih5 _ _ _ _ _ _ _ _ _ _ _ _)
   | (with_reducible exact impl_PairCount.mono _ _ _)
   | (with_reducible exact impl_PairsOf.mono _ _ _)
   | (with_reducible exact impl_ReadingOf.mono _ _ _)
   | (with_reducible exact laws_wPlace.mono _ _ _)
   | (with_reducible exact laws_wSame.mono _ _ _)
   | (with_reducible exact laws_wSameLists.mono _ _ _)
   | (with_reducible exact spec_DrawPairsOf.mono _ _)
   | (with_reducible exact spec_PairsOf.mono _ _ _)
   | (with_reducible exact spec_ReadingOf.mono _ _ _)
   | (with_reducible exact LeO.refl _)
   | (with_reducible exact LeO.none _)
   | (with_reducible refine LeO.ite ?_ ?_)
   | (with_reducible refine LeO.bind ?_ (fun _ => ?_))
   | exact LeO.none _
   | refine LeO.ite ?_ ?_
   | refine LeO.bind ?_ (fun _ => ?_)
  ·intro y0 y1 y2 y3 y4
   unfold laws_FnPairsOfWalks.j1
   repeat' first
   | (with_reducible exact ih0 _ _ _ _ _ _ _)
   | (with_reducible exact ih1 _ _ _ _ _)
   | (with_reducible exact ih2 _ _ _ _ _ _)
   | (with_reducible exact ih3 _ _ _ _ _ _ _ _ _)
   | (with_reducible exact ih4 _ _ _ _ _ _ _ _ _ _)
   | (with_reducible exact ih5 _ _ _ _ _ _ _ _ _ _ _ _)
   | (with_reducible exact impl_PairCount.mono _ _ _)
   | (with_reducible exact impl_PairsOf.mono _ _ _)
   | (with_reducible exact impl_ReadingOf.mono _ _ _)
   | (with_reducible exact laws_wPlace.mono _ _ _)
   | (with_reducible exact laws_wSame.mono _ _ _)
   | (with_reducible exact laws_wSameLists.mono _ _ _)
   | (with_reducible exact spec_DrawPairsOf.mono _ _)
   | (with_reducible exact spec_PairsOf.mono _ _ _)
   | (with_reducible exact spec_ReadingOf.mono _ _ _)
   | (with_reducible exact LeO.refl _)
   | (with_reducible exact LeO.none _)
   | (with_reducible refine LeO.ite ?_ ?_)
   | (with_reducible refine LeO.bind ?_ (fun _ => ?_))
   | exact LeO.none _
   | refine LeO.ite ?_ ?_
   | refine LeO.bind ?_ (fun _ => ?_)
  ·intro y0 y1 y2 y3 y4 y5
   unfold laws_FnPairsOfWalks.l0
   repeat' first
   | (with_reducible exact ih0 _ _ _ _ _ _ _)
   | (with_reducible exact ih1 _ _ _ _ _)
   | (with_reducible exact ih2 _ _ _ _ _ _)
   | (with_reducible exact ih3 _ _ _ _ _ _ _ _ _)
   | (with_reducible exact ih4 _ _ _ _ _ _ _ _ _ _)
   | (with_reducible exact ih5 _ _ _ _ _ _ _ _ _ _ _ _)
   | (with_reducible exact impl_PairCount.mono _ _ _)
   | (with_reducible exact impl_PairsOf.mono _ _ _)
   | (with_reducible exact impl_ReadingOf.mono _ _ _)
   | (with_reducible exact laws_wPlace.mono _ _ _)
   | (with_reducible exact laws_wSame.mono _ _ _)
   | (with_reducible exact laws_wSameLists.mono _ _ _)
   | (with_reducible exact spec_DrawPairsOf.mono _ _)
   | (with_reducible exact spec_PairsOf.mono _ _ _)
   | (with_reducible exact spec_ReadingOf.mono _ _ _)
   | (with_reducible exact LeO.refl _)
   | (with_reducible exact LeO.none _)
   | (with_reducible refine LeO.ite ?_ ?_)
   | (with_reducible refine LeO.bind ?_ (fun _ => ?_))
   | exact LeO.none _
   | refine LeO.ite ?_ ?_
   | refine LeO.bind ?_ (fun _ => ?_)
  ·intro y0 y1 y2 y3 y4 y5 y6 y7 y8
   unfold laws_FnPairsOfWalks.j3
   repeat' first
   | (with_reducible exact ih0 _ _ _ _ _ _ _)
   | (with_reducible exact ih1 _ _ _ _ _)
   | (with_reducible exact ih2 _ _ _ _ _ _)
   | (with_reducible exact ih3 _ _ _ _ _ _ _ _ _)
   | (with_reducible exact ih4 _ _ _ _ _ _ _ _ _ _)
   | (with_reducible exact ih5 _ _ _ _ _ _ _ _ _ _ _ _)
   | (with_reducible exact impl_PairCount.mono _ _ _)
   | (with_reducible exact impl_PairsOf.mono _ _ _)
   | (with_reducible exact impl_ReadingOf.mono _ _ _)
   | (with_reducible exact laws_wPlace.mono _ _ _)
   | (with_reducible exact laws_wSame.mono _ _ _)
   | (with_reducible exact laws_wSameLists.mono _ _ _)
   | (with_reducible exact spec_DrawPairsOf.mono _ _)
   | (with_reducible exact spec_PairsOf.mono _ _ _)
   | (with_reducible exact spec_ReadingOf.mono _ _ _)
   | (with_reducible exact LeO.refl _)
   | (with_reducible exact LeO.none _)
   | (with_reducible refine LeO.ite ?_ ?_)
   | (with_reducible refine LeO.bind ?_ (fun _ => ?_))
   | exact LeO.none _
   | refine LeO.ite ?_ ?_
   | refine LeO.bind ?_ (fun _ => ?_)
  ·intro y0 y1 y2 y3 y4 y5 y6 y7 y8 y9
   unfold laws_FnPairsOfWalks.j4
   repeat' first
   | (with_reducible exact ih0 _ _ _ _ _ _ _)
   | (with_reducible exact ih1 _ _ _ _ _)
   | (with_reducible exact ih2 _ _ _ _ _ _)
   | (with_reducible exact ih3 _ _ _ _ _ _ _ _ _)
   | (with_reducible exact ih4 _ _ _ _ _ _ _ _ _ _)
   | (with_reducible exact ih5 _ _ _ _ _ _ _ _ _ _ _ _)
   | (with_reducible exact impl_PairCount.mono _ _ _)
   | (with_reducible exact impl_PairsOf.mono _ _ _)
   | (with_reducible exact impl_ReadingOf.mono _ _ _)
   | (with_reducible exact laws_wPlace.mono _ _ _)
   | (with_reducible exact laws_wSame.mono _ _ _)
   | (with_reducible exact laws_wSameLists.mono _ _ _)
   | (with_reducible exact spec_DrawPairsOf.mono _ _)
   | (with_reducible exact spec_PairsOf.mono _ _ _)
   | (with_reducible exact spec_ReadingOf.mono _ _ _)
   | (with_reducible exact LeO.refl _)
   | (with_reducible exact LeO.none _)
   | (with_reducible refine LeO.ite ?_ ?_)
   | (with_reducible refine LeO.bind ?_ (fun _ => ?_))
   | exact LeO.none _
   | refine LeO.ite ?_ ?_
   | refine LeO.bind ?_ (fun _ => ?_)
  ·intro y0 y1 y2 y3 y4 y5 y6 y7 y8 y9 y10 y11
   unfold laws_FnPairsOfWalks.j5
   repeat' first
   | (with_reducible exact ih0 _ _ _ _ _ _ _)
   | (with_reducible exact ih1 _ _ _ _ _)
   | (with_reducible exact ih2 _ _ _ _ _ _)
   | (with_reducible exact ih3 _ _ _ _ _ _ _ _ _)
   | (with_reducible exact ih4 _ _ _ _ _ _ _ _ _ _)
   | (with_reducible exact ih5 _ _ _ _ _ _ _ _ _ _ _ _)
   | (with_reducible exact impl_PairCount.mono _ _ _)
   | (with_reducible exact impl_PairsOf.mono _ _ _)
   | (with_reducible exact impl_ReadingOf.mono _ _ _)
   | (with_reducible exact laws_wPlace.mono _ _ _)
   | (with_reducible exact laws_wSame.mono _ _ _)
   | (with_reducible exact laws_wSameLists.mono _ _ _)
   | (with_reducible exact spec_DrawPairsOf.mono _ _)
   | (with_reducible exact spec_PairsOf.mono _ _ _)
   | (with_reducible exact spec_ReadingOf.mono _ _ _)
   | (with_reducible exact LeO.refl _)
   | (with_reducible exact LeO.none _)
   | (with_reducible refine LeO.ite ?_ ?_)
   | (with_reducible refine LeO.bind ?_ (fun _ => ?_))
   | exact LeO.none _
   | refine LeO.ite ?_ ?_
   | refine LeO.bind ?_ (fun _ => ?_)
theorem laws_FnPairsOfWalks.mono : ∀ a0 a1 k, LeO (laws_FnPairsOfWalks.f k a0 a1) (laws_FnPairsOfWalks.f (k + 1) a0 a1) := by
 intro a0 a1 k
 obtain ⟨ih0, ih1, ih2, ih3, ih4, ih5⟩ := laws_FnPairsOfWalks.mono_l k
 unfold laws_FnPairsOfWalks.f
 repeat' first
   | (with_reducible exact ih0 _ _ _ _ _ _ _)
   | (with_reducible exact ih1 _ _ _ _ _)
   | (with_reducible exact ih2 _ _ _ _ _ _)
   | (with_reducible exact ih3 _ _ _ _ _ _ _ _ _)
   | (with_reducible exact ih4 _ _ _ _ _ _ _ _ _ _)
   | (with_reducible exact ih5 _ _ _ _ _ _ _ _ _ _ _ _)
   | (with_reducible exact impl_PairCount.mono _ _ _)
   | (with_reducible exact impl_PairsOf.mono _ _ _)
   | (with_reducible exact impl_ReadingOf.mono _ _ _)
   | (with_reducible exact laws_wPlace.mono _ _ _)
   | (with_reducible exact laws_wSame.mono _ _ _)
   | (with_reducible exact laws_wSameLists.mono _ _ _)
   | (with_reducible exact spec_DrawPairsOf.mono _ _)
   | (with_reducible exact spec_PairsOf.mono _ _ _)
   | (with_reducible exact spec_ReadingOf.mono _ _ _)
   | (with_reducible exact LeO.refl _)
   | (with_reducible exact LeO.none _)
   | (with_reducible refine LeO.ite ?_ ?_)
   | (with_reducible refine LeO.bind ?_ (fun _ => ?_))
   | exact LeO.none _
   | refine LeO.ite ?_ ?_
   | refine LeO.bind ?_ (fun _ => ?_)
set_option maxHeartbeats 8000000 in
set_option maxRecDepth 100000 in
theorem laws_FnPairsOfWalks.calls (k : Nat) (A0 : Option Addr) (c0 : Nat) (l0 : List Int) (A1 : Option Addr) (c1 : Nat) (l1 : List Int) (r : Bool) (w : World) (hr0 : Kd.C (Kd.int .u8) w A0 l0.length l0) (hc0 : l0.length ≤ c0) (hr1 : Kd.C (Kd.int .u8) w A1 l1.length l1) (hc1 : l1.length ≤ c1) (h : laws_FnPairsOfWalks.f k l0 l1 = some r) :
  Calls Try.prog 3 #[.slice A0 l0.length c0, .slice A1 l1.length c1] w fun e w' => e = .returned (.bool r) ∧ Below w.heap.size w w' := by
 have hu26 := Try.underlying26
 have HR0 := Aside0.mk hr0
 have HC0 := Aside0.mk hc0
 clear hr0 hc0
 have HR1 := Aside0.mk hr1
 have HC1 := Aside0.mk hc1
 clear hr1 hc1
 have HB := Aside0.mk (Below.refl w.heap.size w)
 have H : ((laws_big.f l0 l1).bind fun t405 => (if t405 = true then (some true) else ((spec_DrawPairsOf.f k l0).bind fun bt406 => ((impl_PairsOf.f k bt406.1 bt406.2).bind fun bt413 => ((spec_PairsOf.f k bt406.1 bt406.2).bind fun bt417 => ((impl_PairCount.f k bt406.1 bt406.2).bind fun bt421 => ((impl_ReadingOf.f k bt406.1 bt406.2).bind fun bt423 => ((spec_ReadingOf.f k bt406.1 bt406.2).bind fun bt427 => (if (bt413.2 != bt417.2) = true then (laws_FnPairsOfWalks.j0 k bt413.1 bt417.2 bt421.1 bt423.1 true bt406.1 bt406.2) else ((laws_wSameLists.f k bt413.1 bt417.1).bind fun t431 => (if t431 = true then (if (bt421.2 != bt413.2) = true then (laws_FnPairsOfWalks.j0 k bt413.1 bt417.2 bt421.1 bt423.1 true bt406.1 bt406.2) else (if (bt423.2 != bt427.2) = true then (laws_FnPairsOfWalks.j0 k bt413.1 bt417.2 bt421.1 bt423.1 true bt406.1 bt406.2) else ((laws_wSame.f k bt423.1 bt427.1).bind fun t432 => (if t432 = true then (laws_FnPairsOfWalks.j0 k bt413.1 bt417.2 bt421.1 bt423.1 (bt423.2 != bt413.2) bt406.1 bt406.2) else (laws_FnPairsOfWalks.j0 k bt413.1 bt417.2 bt421.1 bt423.1 true bt406.1 bt406.2))))) else (laws_FnPairsOfWalks.j0 k bt413.1 bt417.2 bt421.1 bt423.1 true bt406.1 bt406.2)))))))))))) = some r := h
 clear h
 replace H := Option.bind_eq_some_iff.mp H
 obtain ⟨t405, A30, H⟩ := H
 replace H : (if t405 = true then (some true) else ((spec_DrawPairsOf.f k l0).bind fun bt406 => ((impl_PairsOf.f k bt406.1 bt406.2).bind fun bt413 => ((spec_PairsOf.f k bt406.1 bt406.2).bind fun bt417 => ((impl_PairCount.f k bt406.1 bt406.2).bind fun bt421 => ((impl_ReadingOf.f k bt406.1 bt406.2).bind fun bt423 => ((spec_ReadingOf.f k bt406.1 bt406.2).bind fun bt427 => (if (bt413.2 != bt417.2) = true then (laws_FnPairsOfWalks.j0 k bt413.1 bt417.2 bt421.1 bt423.1 true bt406.1 bt406.2) else ((laws_wSameLists.f k bt413.1 bt417.1).bind fun t431 => (if t431 = true then (if (bt421.2 != bt413.2) = true then (laws_FnPairsOfWalks.j0 k bt413.1 bt417.2 bt421.1 bt423.1 true bt406.1 bt406.2) else (if (bt423.2 != bt427.2) = true then (laws_FnPairsOfWalks.j0 k bt413.1 bt417.2 bt421.1 bt423.1 true bt406.1 bt406.2) else ((laws_wSame.f k bt423.1 bt427.1).bind fun t432 => (if t432 = true then (laws_FnPairsOfWalks.j0 k bt413.1 bt417.2 bt421.1 bt423.1 (bt423.2 != bt413.2) bt406.1 bt406.2) else (laws_FnPairsOfWalks.j0 k bt413.1 bt417.2 bt421.1 bt423.1 true bt406.1 bt406.2))))) else (laws_FnPairsOfWalks.j0 k bt413.1 bt417.2 bt421.1 bt423.1 true bt406.1 bt406.2))))))))))) = some r := H
 have A3 := Aside0.mk A30
 clear A30
 by_cases c4 : t405 = true
 ·subst c4
  have H1 : (some true) = some r := by rw [if_pos rfl] at H; exact H
  clear H
  have H := H1
  clear H1
  obtain rfl := Option.some.inj H
  go_enter Try.func3, Try.ntmps3
  go_wp2_with (first | (go_at_call 7; (with_reducible refine (laws_big.calls _ _ l0 _ _ l1 true _ ?side1 ?side2 ?side3 ?side4 A3.out).mono ?_); (case side1 => repeat (first | exact HR0.out | (with_reducible refine Kd.C_alloc ?_ _) | (with_reducible refine Kd.C_drewN ?_ _) | (with_reducible refine Kd.C_drew ?_))); (case side2 => exact HC0.out); (case side3 => repeat (first | exact HR1.out | (with_reducible refine Kd.C_alloc ?_ _) | (with_reducible refine Kd.C_drewN ?_ _) | (with_reducible refine Kd.C_drew ?_))); (case side4 => exact HC1.out); rintro e w' ⟨rfl, ⟨nd, rfl⟩⟩; (try first | exact ⟨rfl, _, World.drewN_drewN _ _ _⟩ | exact ⟨rfl, _, Eq.trans (World.drewN_drewN _ _ _) (congrArg (World.drewN _) (Nat.add_assoc _ _ _))⟩)))
  repeat (go_quiet (first | fail); try go_wp2_with (first | fail))
  go_ret
  exact ⟨by first | rfl | (simp [errW_none, errW_some] <;> rfl) | (simp [*, errW_none, errW_some] <;> rfl), by repeat (first | (with_reducible first | exact HB.out | apply below_alloc | apply pw_below_drewN | apply below_drew1) | exact HB.out)⟩
 ·as_aux_lemma =>
   replace c4 := Bool.eq_false_iff.mpr c4
   subst c4
   have H1 : ((spec_DrawPairsOf.f k l0).bind fun bt406 => ((impl_PairsOf.f k bt406.1 bt406.2).bind fun bt413 => ((spec_PairsOf.f k bt406.1 bt406.2).bind fun bt417 => ((impl_PairCount.f k bt406.1 bt406.2).bind fun bt421 => ((impl_ReadingOf.f k bt406.1 bt406.2).bind fun bt423 => ((spec_ReadingOf.f k bt406.1 bt406.2).bind fun bt427 => (if (bt413.2 != bt417.2) = true then (laws_FnPairsOfWalks.j0 k bt413.1 bt417.2 bt421.1 bt423.1 true bt406.1 bt406.2) else ((laws_wSameLists.f k bt413.1 bt417.1).bind fun t431 => (if t431 = true then (if (bt421.2 != bt413.2) = true then (laws_FnPairsOfWalks.j0 k bt413.1 bt417.2 bt421.1 bt423.1 true bt406.1 bt406.2) else (if (bt423.2 != bt427.2) = true then (laws_FnPairsOfWalks.j0 k bt413.1 bt417.2 bt421.1 bt423.1 true bt406.1 bt406.2) else ((laws_wSame.f k bt423.1 bt427.1).bind fun t432 => (if t432 = true then (laws_FnPairsOfWalks.j0 k bt413.1 bt417.2 bt421.1 bt423.1 (bt423.2 != bt413.2) bt406.1 bt406.2) else (laws_FnPairsOfWalks.j0 k bt413.1 bt417.2 bt421.1 bt423.1 true bt406.1 bt406.2))))) else (laws_FnPairsOfWalks.j0 k bt413.1 bt417.2 bt421.1 bt423.1 true bt406.1 bt406.2)))))))))) = some r := by rw [if_neg (show ¬ (false = true) by decide)] at H; exact H
   clear H
   have H := H1
   clear H1
   replace H := Option.bind_eq_some_iff.mp H
   obtain ⟨⟨t406, t409⟩, A50, H⟩ := H
   replace H : ((impl_PairsOf.f k t406 t409).bind fun bt413 => ((spec_PairsOf.f k t406 t409).bind fun bt417 => ((impl_PairCount.f k t406 t409).bind fun bt421 => ((impl_ReadingOf.f k t406 t409).bind fun bt423 => ((spec_ReadingOf.f k t406 t409).bind fun bt427 => (if (bt413.2 != bt417.2) = true then (laws_FnPairsOfWalks.j0 k bt413.1 bt417.2 bt421.1 bt423.1 true t406 t409) else ((laws_wSameLists.f k bt413.1 bt417.1).bind fun t431 => (if t431 = true then (if (bt421.2 != bt413.2) = true then (laws_FnPairsOfWalks.j0 k bt413.1 bt417.2 bt421.1 bt423.1 true t406 t409) else (if (bt423.2 != bt427.2) = true then (laws_FnPairsOfWalks.j0 k bt413.1 bt417.2 bt421.1 bt423.1 true t406 t409) else ((laws_wSame.f k bt423.1 bt427.1).bind fun t432 => (if t432 = true then (laws_FnPairsOfWalks.j0 k bt413.1 bt417.2 bt421.1 bt423.1 (bt423.2 != bt413.2) t406 t409) else (laws_FnPairsOfWalks.j0 k bt413.1 bt417.2 bt421.1 bt423.1 true t406 t409))))) else (laws_FnPairsOfWalks.j0 k bt413.1 bt417.2 bt421.1 bt423.1 true t406 t409))))))))) = some r := H
   have A5 := Aside0.mk A50
   clear A50
   replace H := Option.bind_eq_some_iff.mp H
   obtain ⟨⟨t413, t416⟩, A60, H⟩ := H
   replace H : ((spec_PairsOf.f k t406 t409).bind fun bt417 => ((impl_PairCount.f k t406 t409).bind fun bt421 => ((impl_ReadingOf.f k t406 t409).bind fun bt423 => ((spec_ReadingOf.f k t406 t409).bind fun bt427 => (if (t416 != bt417.2) = true then (laws_FnPairsOfWalks.j0 k t413 bt417.2 bt421.1 bt423.1 true t406 t409) else ((laws_wSameLists.f k t413 bt417.1).bind fun t431 => (if t431 = true then (if (bt421.2 != t416) = true then (laws_FnPairsOfWalks.j0 k t413 bt417.2 bt421.1 bt423.1 true t406 t409) else (if (bt423.2 != bt427.2) = true then (laws_FnPairsOfWalks.j0 k t413 bt417.2 bt421.1 bt423.1 true t406 t409) else ((laws_wSame.f k bt423.1 bt427.1).bind fun t432 => (if t432 = true then (laws_FnPairsOfWalks.j0 k t413 bt417.2 bt421.1 bt423.1 (bt423.2 != t416) t406 t409) else (laws_FnPairsOfWalks.j0 k t413 bt417.2 bt421.1 bt423.1 true t406 t409))))) else (laws_FnPairsOfWalks.j0 k t413 bt417.2 bt421.1 bt423.1 true t406 t409)))))))) = some r := H
   have A6 := Aside0.mk A60
   clear A60
   replace H := Option.bind_eq_some_iff.mp H
   obtain ⟨⟨t417, t420⟩, A70, H⟩ := H
   replace H : ((impl_PairCount.f k t406 t409).bind fun bt421 => ((impl_ReadingOf.f k t406 t409).bind fun bt423 => ((spec_ReadingOf.f k t406 t409).bind fun bt427 => (if (t416 != t420) = true then (laws_FnPairsOfWalks.j0 k t413 t420 bt421.1 bt423.1 true t406 t409) else ((laws_wSameLists.f k t413 t417).bind fun t431 => (if t431 = true then (if (bt421.2 != t416) = true then (laws_FnPairsOfWalks.j0 k t413 t420 bt421.1 bt423.1 true t406 t409) else (if (bt423.2 != bt427.2) = true then (laws_FnPairsOfWalks.j0 k t413 t420 bt421.1 bt423.1 true t406 t409) else ((laws_wSame.f k bt423.1 bt427.1).bind fun t432 => (if t432 = true then (laws_FnPairsOfWalks.j0 k t413 t420 bt421.1 bt423.1 (bt423.2 != t416) t406 t409) else (laws_FnPairsOfWalks.j0 k t413 t420 bt421.1 bt423.1 true t406 t409))))) else (laws_FnPairsOfWalks.j0 k t413 t420 bt421.1 bt423.1 true t406 t409))))))) = some r := H
   have A7 := Aside0.mk A70
   clear A70
   replace H := Option.bind_eq_some_iff.mp H
   obtain ⟨⟨t421, t422⟩, A80, H⟩ := H
   replace H : ((impl_ReadingOf.f k t406 t409).bind fun bt423 => ((spec_ReadingOf.f k t406 t409).bind fun bt427 => (if (t416 != t420) = true then (laws_FnPairsOfWalks.j0 k t413 t420 t421 bt423.1 true t406 t409) else ((laws_wSameLists.f k t413 t417).bind fun t431 => (if t431 = true then (if (t422 != t416) = true then (laws_FnPairsOfWalks.j0 k t413 t420 t421 bt423.1 true t406 t409) else (if (bt423.2 != bt427.2) = true then (laws_FnPairsOfWalks.j0 k t413 t420 t421 bt423.1 true t406 t409) else ((laws_wSame.f k bt423.1 bt427.1).bind fun t432 => (if t432 = true then (laws_FnPairsOfWalks.j0 k t413 t420 t421 bt423.1 (bt423.2 != t416) t406 t409) else (laws_FnPairsOfWalks.j0 k t413 t420 t421 bt423.1 true t406 t409))))) else (laws_FnPairsOfWalks.j0 k t413 t420 t421 bt423.1 true t406 t409)))))) = some r := H
   have A8 := Aside0.mk A80
   clear A80
   replace H := Option.bind_eq_some_iff.mp H
   obtain ⟨⟨t423, t426⟩, A90, H⟩ := H
   replace H : ((spec_ReadingOf.f k t406 t409).bind fun bt427 => (if (t416 != t420) = true then (laws_FnPairsOfWalks.j0 k t413 t420 t421 t423 true t406 t409) else ((laws_wSameLists.f k t413 t417).bind fun t431 => (if t431 = true then (if (t422 != t416) = true then (laws_FnPairsOfWalks.j0 k t413 t420 t421 t423 true t406 t409) else (if (t426 != bt427.2) = true then (laws_FnPairsOfWalks.j0 k t413 t420 t421 t423 true t406 t409) else ((laws_wSame.f k t423 bt427.1).bind fun t432 => (if t432 = true then (laws_FnPairsOfWalks.j0 k t413 t420 t421 t423 (t426 != t416) t406 t409) else (laws_FnPairsOfWalks.j0 k t413 t420 t421 t423 true t406 t409))))) else (laws_FnPairsOfWalks.j0 k t413 t420 t421 t423 true t406 t409))))) = some r := H
   have A9 := Aside0.mk A90
   clear A90
   replace H := Option.bind_eq_some_iff.mp H
   obtain ⟨⟨t427, t430⟩, A100, H⟩ := H
   replace H : (if (t416 != t420) = true then (laws_FnPairsOfWalks.j0 k t413 t420 t421 t423 true t406 t409) else ((laws_wSameLists.f k t413 t417).bind fun t431 => (if t431 = true then (if (t422 != t416) = true then (laws_FnPairsOfWalks.j0 k t413 t420 t421 t423 true t406 t409) else (if (t426 != t430) = true then (laws_FnPairsOfWalks.j0 k t413 t420 t421 t423 true t406 t409) else ((laws_wSame.f k t423 t427).bind fun t432 => (if t432 = true then (laws_FnPairsOfWalks.j0 k t413 t420 t421 t423 (t426 != t416) t406 t409) else (laws_FnPairsOfWalks.j0 k t413 t420 t421 t423 true t406 t409))))) else (laws_FnPairsOfWalks.j0 k t413 t420 t421 t423 true t406 t409)))) = some r := H
   have A10 := Aside0.mk A100
   clear A100
   have HC11 := Aside0.mk H
   clear H
   go_enter Try.func3, Try.ntmps3
   go_upto_region 9 with (first | (go_at_call 7; (with_reducible refine (laws_big.calls _ _ l0 _ _ l1 false _ ?side1 ?side2 ?side3 ?side4 A3.out).mono ?_); (case side1 => repeat (first | exact HR0.out | (with_reducible refine Kd.C_alloc ?_ _) | (with_reducible refine Kd.C_drewN ?_ _) | (with_reducible refine Kd.C_drew ?_))); (case side2 => exact HC0.out); (case side3 => repeat (first | exact HR1.out | (with_reducible refine Kd.C_alloc ?_ _) | (with_reducible refine Kd.C_drewN ?_ _) | (with_reducible refine Kd.C_drew ?_))); (case side4 => exact HC1.out); rintro e w' ⟨rfl, ⟨nd, rfl⟩⟩; (try first | exact ⟨rfl, _, World.drewN_drewN _ _ _⟩ | exact ⟨rfl, _, Eq.trans (World.drewN_drewN _ _ _) (congrArg (World.drewN _) (Nat.add_assoc _ _ _))⟩)) | (go_at_call 8; (with_reducible refine (spec_DrawPairsOf.calls k _ _ l0 t406 t409 _ ?side1 ?side2 A5.out).mono ?_); (case side1 => repeat (first | exact HR0.out | (with_reducible refine Kd.C_alloc ?_ _) | (with_reducible refine Kd.C_drewN ?_ _) | (with_reducible refine Kd.C_drew ?_))); (case side2 => exact HC0.out); rintro e w12 ⟨v407, v410, rfl, ho0, ho1, hb⟩; have n0_ := Aside0.mk (Kd.R_lower ho0 (below_size (by repeat (first | (with_reducible first | exact HB.out | apply below_alloc | apply pw_below_drewN | apply below_drew1) | exact HB.out)))); have n1_ := Aside0.mk (Kd.R_lower ho1 (below_size (by repeat (first | (with_reducible first | exact HB.out | apply below_alloc | apply pw_below_drewN | apply below_drew1) | exact HB.out)))); have n2_ := Aside0.mk (below_step (by repeat (first | (with_reducible first | exact HB.out | apply below_alloc | apply pw_below_drewN | apply below_drew1) | exact HB.out)) hb); clear HB; have HO408 := n0_; have HO411 := n1_; have HB := n2_; clear n0_ n1_ n2_; (try clear hb); (try clear hb2); (try clear hk); (try clear hi); (try clear ho0); (try clear ho1)) | ((with_reducible refine gate_dst (N := 5) rfl ?_); (try (refine gate_guard (by rfl) ?_; dsimp only)); refine box_event ?hg (N := 5) ?hd (cs := #[.slice none 0 0, .slice none 0 0]) (t := 26) ?hr ?_; (case hd => rfl); (case hg => rfl); (case hr => first | (go_simp; done) | (go_simp; rfl)); intro gb412 hg w13 hbox hb; have n0_ := Aside0.mk (Kd.R_below (by (with_reducible repeat (first | apply Kd.R_alloc | apply Kd.R_drewN | apply Kd.R_drew)); exact HO408.out) hb); have n1_ := Aside0.mk (Kd.R_below (by (with_reducible repeat (first | apply Kd.R_alloc | apply Kd.R_drewN | apply Kd.R_drew)); exact HO411.out) hb); have n2_ := Aside0.mk (below_step (by repeat (first | (with_reducible first | exact HB.out | apply below_alloc | apply pw_below_drewN | apply below_drew1) | exact HB.out)) hb); have n3_ := Aside0.mk (hbox); have n4_ := Aside0.mk ((by rw [hg]; exact (below_size (by repeat (first | (with_reducible first | exact HB.out | apply below_alloc | apply pw_below_drewN | apply below_drew1) | exact HB.out))) : w.heap.size ≤ gb412)); have n5_ := Aside0.mk ((by rw [hg]; exact (below_size (by repeat (first | (with_reducible first | exact HB.out | apply below_alloc | apply pw_below_drewN | apply below_drew1) | exact HB.out))) : w.heap.size ≤ gb412)); clear HO408; clear HO411; clear HB; have HO408 := n0_; have HO411 := n1_; have HB := n2_; have BK412 := n3_; have GW412 := n4_; have GE412 := n5_; clear n0_ n1_ n2_ n3_ n4_ n5_; clear hb hbox hg; obtain ⟨Ao14, co14, eo14⟩ := Kd.R_slice HO408.out; subst eo14; have hcz15_0 : w13.cell? ⟨gb412, 0, none⟩ = some (.slice none 0 0) := (blk_cell BK412.out 0).trans rfl; have hcz15_1 : w13.cell? ⟨gb412, 1, none⟩ = some (.slice none 0 0) := (blk_cell BK412.out 1).trans rfl; have hfz15_0 := blk_frozen BK412.out 0; have hfz15_1 := blk_frozen BK412.out 1; obtain ⟨Ao16, co16, eo16⟩ := Kd.R_slice HO411.out; subst eo16) | (go_at_call 9; (with_reducible refine (impl_PairsOf.calls k _ _ t406 _ _ t409 t413 t416 _ ?side1 ?side2 ?side3 ?side4 A6.out).mono ?_); (case side1 => refine (Kd.R_reads' (e := 3) (base := w.heap.size) (ok := fun k_ => some k_ ≠ (.slice Ao16 t409.length co16 : Value).ownBlock) (n := t406.length) (c := co14) ?_).2.2; exact (by (with_reducible repeat (first | apply Kd.R_alloc | apply Kd.R_drewN | apply Kd.R_drew)); exact (Kd.R_mono (Kd.R_far (p := ⟨gb412, 1, none⟩) (Kd.R_far (p := ⟨gb412, 0, none⟩) (Kd.R_types HO408.out BK412.out (by decide)) (fun _ hk => hk.2) (.slice Ao14 t406.length co14)) (fun _ hk => hk.2) (.slice Ao16 t409.length co16)) (fun _ h_ => h_.1)))); (case side2 => exact (Kd.R_reads' HO408.out).2.1); (case side3 => refine (Kd.R_reads' (e := 3) (base := w.heap.size) (ok := fun k_ => some k_ ≠ (.slice Ao14 t406.length co14 : Value).ownBlock) (n := t409.length) (c := co16) ?_).2.2; exact (by (with_reducible repeat (first | apply Kd.R_alloc | apply Kd.R_drewN | apply Kd.R_drew)); exact (Kd.R_mono (Kd.R_far (p := ⟨gb412, 1, none⟩) (Kd.R_far (p := ⟨gb412, 0, none⟩) (Kd.R_types HO411.out BK412.out (by decide)) (fun _ hk => hk.2) (.slice Ao14 t406.length co14)) (fun _ hk => hk.2) (.slice Ao16 t409.length co16)) (fun _ h_ => h_.1)))); (case side4 => exact (Kd.R_reads' HO411.out).2.1); rintro e w17 ⟨v414, rfl, ho0, hb⟩; have n0_ := Aside0.mk (Kd.R_below (by (with_reducible repeat (first | apply Kd.R_alloc | apply Kd.R_drewN | apply Kd.R_drew)); exact (Kd.R_mono (Kd.R_far (p := ⟨gb412, 1, none⟩) (Kd.R_far (p := ⟨gb412, 0, none⟩) (Kd.R_types HO408.out BK412.out (by decide)) (fun _ hk => hk.2) (.slice Ao14 t406.length co14)) (fun _ hk => hk.2) (.slice Ao16 t409.length co16)) (fun _ h_ => h_.1))) hb); have n1_ := Aside0.mk (Kd.R_below (by (with_reducible repeat (first | apply Kd.R_alloc | apply Kd.R_drewN | apply Kd.R_drew)); exact (Kd.R_mono (Kd.R_far (p := ⟨gb412, 1, none⟩) (Kd.R_far (p := ⟨gb412, 0, none⟩) (Kd.R_types HO411.out BK412.out (by decide)) (fun _ hk => hk.2) (.slice Ao14 t406.length co14)) (fun _ hk => hk.2) (.slice Ao16 t409.length co16)) (fun _ h_ => h_.1))) hb); have n2_ := Aside0.mk (Kd.S_lower (Kd.S_new' (Kd.S_new' ho0 (Kd.R_lt (by (with_reducible repeat (first | apply Kd.R_alloc | apply Kd.R_drewN | apply Kd.R_drew)); exact (Kd.R_mono (Kd.R_far (p := ⟨gb412, 1, none⟩) (Kd.R_far (p := ⟨gb412, 0, none⟩) (Kd.R_types HO408.out BK412.out (by decide)) (fun _ hk => hk.2) (.slice Ao14 t406.length co14)) (fun _ hk => hk.2) (.slice Ao16 t409.length co16)) (fun _ h_ => h_.1))))) (Kd.R_lt (by (with_reducible repeat (first | apply Kd.R_alloc | apply Kd.R_drewN | apply Kd.R_drew)); exact (Kd.R_mono (Kd.R_far (p := ⟨gb412, 1, none⟩) (Kd.R_far (p := ⟨gb412, 0, none⟩) (Kd.R_types HO411.out BK412.out (by decide)) (fun _ hk => hk.2) (.slice Ao14 t406.length co14)) (fun _ hk => hk.2) (.slice Ao16 t409.length co16)) (fun _ h_ => h_.1))))) (below_size (by repeat (first | (with_reducible first | exact HB.out | apply below_alloc | apply pw_below_drewN | apply below_drew1 | refine below_set ?_ GE412.out) | exact HB.out)))); have n3_ := Aside0.mk (blk_below (g := gb412) (o := .cells #[.slice Ao14 t406.length co14, .slice Ao16 t409.length co16] 26 (0, 0)) (by (with_reducible repeat (first | refine blk_drewN ?_ _ | refine blk_drew ?_ | refine blk_alloc ?_ _)); refine blk_put (cs := #[.slice Ao14 t406.length co14, .slice none 0 0]) ?_ 1 _ rfl; (with_reducible repeat (first | refine blk_drewN ?_ _ | refine blk_drew ?_ | refine blk_alloc ?_ _)); refine blk_put (cs := #[.slice none 0 0, .slice none 0 0]) ?_ 0 _ rfl; (with_reducible repeat (first | refine blk_drewN ?_ _ | refine blk_drew ?_ | refine blk_alloc ?_ _)); exact BK412.out) hb); have n4_ := Aside0.mk (below_step (by repeat (first | (with_reducible first | exact HB.out | apply below_alloc | apply pw_below_drewN | apply below_drew1 | refine below_set ?_ GE412.out) | exact HB.out)) hb); clear HO408; clear HO411; clear BK412; clear HB; have HO408 := n0_; have HO411 := n1_; have HO415 := n2_; have BK412 := n3_; have HB := n4_; clear n0_ n1_ n2_ n3_ n4_; (try clear hb); (try clear hb2); (try clear hk); (try clear hi); (try clear ho0); have hcz18_0 : w17.cell? ⟨gb412, 0, none⟩ = some (.slice Ao14 t406.length co14) := (blk_cell BK412.out 0).trans rfl; have hcz18_1 : w17.cell? ⟨gb412, 1, none⟩ = some (.slice Ao16 t409.length co16) := (blk_cell BK412.out 1).trans rfl; have hfz18_0 := blk_frozen BK412.out 0; have hfz18_1 := blk_frozen BK412.out 1) | (go_at_call 10; (with_reducible refine (spec_PairsOf.calls k _ _ t406 _ _ t409 t417 t420 _ ?side1 ?side2 ?side3 ?side4 A7.out).mono ?_); (case side1 => repeat (first | exact (Kd.R_reads' HO408.out).2.2 | (with_reducible refine Kd.C_alloc ?_ _) | (with_reducible refine Kd.C_drewN ?_ _) | (with_reducible refine Kd.C_drew ?_))); (case side2 => exact (Kd.R_reads' HO408.out).2.1); (case side3 => repeat (first | exact (Kd.R_reads' HO411.out).2.2 | (with_reducible refine Kd.C_alloc ?_ _) | (with_reducible refine Kd.C_drewN ?_ _) | (with_reducible refine Kd.C_drew ?_))); (case side4 => exact (Kd.R_reads' HO411.out).2.1); rintro e w19 ⟨v418, rfl, ho0, hb⟩; have n0_ := Aside0.mk (Kd.R_below (by (with_reducible repeat (first | apply Kd.R_alloc | apply Kd.R_drewN | apply Kd.R_drew)); exact HO408.out) hb); have n1_ := Aside0.mk (Kd.R_below (by (with_reducible repeat (first | apply Kd.R_alloc | apply Kd.R_drewN | apply Kd.R_drew)); exact HO411.out) hb); have n2_ := Aside0.mk (Kd.S_elder' (by (with_reducible repeat (first | apply Kd.S_alloc | apply Kd.S_drewN | apply Kd.S_drew)); exact HO415.out) (Kd.S_base ho0) hb); have n3_ := Aside0.mk (Kd.S_lower (Kd.S_new' (Kd.S_new' (Kd.S_new' ho0 (Kd.R_lt (by (with_reducible repeat (first | apply Kd.R_alloc | apply Kd.R_drewN | apply Kd.R_drew)); exact HO408.out))) (Kd.R_lt (by (with_reducible repeat (first | apply Kd.R_alloc | apply Kd.R_drewN | apply Kd.R_drew)); exact HO411.out))) (Kd.S_lt (by (with_reducible repeat (first | apply Kd.S_alloc | apply Kd.S_drewN | apply Kd.S_drew)); exact HO415.out))) (below_size (by repeat (first | (with_reducible first | exact HB.out | apply below_alloc | apply pw_below_drewN | apply below_drew1 | refine below_set ?_ GE412.out) | exact HB.out)))); have n4_ := Aside0.mk (blk_below (g := gb412) (o := .cells #[.slice Ao14 t406.length co14, .slice Ao16 t409.length co16] 26 (0, 0)) (by (with_reducible repeat (first | refine blk_drewN ?_ _ | refine blk_drew ?_ | refine blk_alloc ?_ _)); exact BK412.out) hb); have n5_ := Aside0.mk (below_step (by repeat (first | (with_reducible first | exact HB.out | apply below_alloc | apply pw_below_drewN | apply below_drew1 | refine below_set ?_ GE412.out) | exact HB.out)) hb); clear HO408; clear HO411; clear HO415; clear BK412; clear HB; have HO408 := n0_; have HO411 := n1_; have HO415 := n2_; have HO419 := n3_; have BK412 := n4_; have HB := n5_; clear n0_ n1_ n2_ n3_ n4_ n5_; (try clear hb); (try clear hb2); (try clear hk); (try clear hi); (try clear ho0); have hcz20_0 : w19.cell? ⟨gb412, 0, none⟩ = some (.slice Ao14 t406.length co14) := (blk_cell BK412.out 0).trans rfl; have hcz20_1 : w19.cell? ⟨gb412, 1, none⟩ = some (.slice Ao16 t409.length co16) := (blk_cell BK412.out 1).trans rfl; have hfz20_0 := blk_frozen BK412.out 0; have hfz20_1 := blk_frozen BK412.out 1) | (go_at_call 11; (with_reducible refine (impl_PairCount.calls k _ _ t406 _ _ t409 t421 t422 _ ?side1 ?side2 ?side3 ?side4 A8.out).mono ?_); (case side1 => repeat (first | exact (Kd.R_reads' HO408.out).2.2 | (with_reducible refine Kd.C_alloc ?_ _) | (with_reducible refine Kd.C_drewN ?_ _) | (with_reducible refine Kd.C_drew ?_))); (case side2 => exact (Kd.R_reads' HO408.out).2.1); (case side3 => repeat (first | exact (Kd.R_reads' HO411.out).2.2 | (with_reducible refine Kd.C_alloc ?_ _) | (with_reducible refine Kd.C_drewN ?_ _) | (with_reducible refine Kd.C_drew ?_))); (case side4 => exact (Kd.R_reads' HO411.out).2.1); rintro e w21 ⟨rfl, hb⟩; have n0_ := Aside0.mk (Kd.R_below (by (with_reducible repeat (first | apply Kd.R_alloc | apply Kd.R_drewN | apply Kd.R_drew)); exact HO408.out) hb); have n1_ := Aside0.mk (Kd.R_below (by (with_reducible repeat (first | apply Kd.R_alloc | apply Kd.R_drewN | apply Kd.R_drew)); exact HO411.out) hb); have n2_ := Aside0.mk (Kd.S_below (by (with_reducible repeat (first | apply Kd.S_alloc | apply Kd.S_drewN | apply Kd.S_drew)); exact HO415.out) hb); have n3_ := Aside0.mk (Kd.S_below (by (with_reducible repeat (first | apply Kd.S_alloc | apply Kd.S_drewN | apply Kd.S_drew)); exact HO419.out) hb); have n4_ := Aside0.mk (blk_below (g := gb412) (o := .cells #[.slice Ao14 t406.length co14, .slice Ao16 t409.length co16] 26 (0, 0)) (by (with_reducible repeat (first | refine blk_drewN ?_ _ | refine blk_drew ?_ | refine blk_alloc ?_ _)); exact BK412.out) hb); have n5_ := Aside0.mk (below_step (by repeat (first | (with_reducible first | exact HB.out | apply below_alloc | apply pw_below_drewN | apply below_drew1 | refine below_set ?_ GE412.out) | exact HB.out)) hb); clear HO408; clear HO411; clear HO415; clear HO419; clear BK412; clear HB; have HO408 := n0_; have HO411 := n1_; have HO415 := n2_; have HO419 := n3_; have BK412 := n4_; have HB := n5_; clear n0_ n1_ n2_ n3_ n4_ n5_; (try clear hb); (try clear hb2); (try clear hk); (try clear hi); have hcz22_0 : w21.cell? ⟨gb412, 0, none⟩ = some (.slice Ao14 t406.length co14) := (blk_cell BK412.out 0).trans rfl; have hcz22_1 : w21.cell? ⟨gb412, 1, none⟩ = some (.slice Ao16 t409.length co16) := (blk_cell BK412.out 1).trans rfl; have hfz22_0 := blk_frozen BK412.out 0; have hfz22_1 := blk_frozen BK412.out 1) | (go_at_call 12; (with_reducible refine (impl_ReadingOf.calls k _ _ t406 _ _ t409 t423 t426 _ ?side1 ?side2 ?side3 ?side4 A9.out).mono ?_); (case side1 => repeat (first | exact (Kd.R_reads' HO408.out).2.2 | (with_reducible refine Kd.C_alloc ?_ _) | (with_reducible refine Kd.C_drewN ?_ _) | (with_reducible refine Kd.C_drew ?_))); (case side2 => exact (Kd.R_reads' HO408.out).2.1); (case side3 => repeat (first | exact (Kd.R_reads' HO411.out).2.2 | (with_reducible refine Kd.C_alloc ?_ _) | (with_reducible refine Kd.C_drewN ?_ _) | (with_reducible refine Kd.C_drew ?_))); (case side4 => exact (Kd.R_reads' HO411.out).2.1); rintro e w23 ⟨v424, rfl, ho0, hb⟩; have n0_ := Aside0.mk (Kd.R_elder' (by (with_reducible repeat (first | apply Kd.R_alloc | apply Kd.R_drewN | apply Kd.R_drew)); exact HO408.out) (Kd.R_base ho0) hb); have n1_ := Aside0.mk (Kd.R_elder' (by (with_reducible repeat (first | apply Kd.R_alloc | apply Kd.R_drewN | apply Kd.R_drew)); exact HO411.out) (Kd.R_base ho0) hb); have n2_ := Aside0.mk (Kd.S_elder' (by (with_reducible repeat (first | apply Kd.S_alloc | apply Kd.S_drewN | apply Kd.S_drew)); exact HO415.out) (Kd.R_base ho0) hb); have n3_ := Aside0.mk (Kd.S_elder' (by (with_reducible repeat (first | apply Kd.S_alloc | apply Kd.S_drewN | apply Kd.S_drew)); exact HO419.out) (Kd.R_base ho0) hb); have n4_ := Aside0.mk (Kd.R_lower (Kd.R_new' (Kd.R_new' ho0 (Kd.R_lt (by (with_reducible repeat (first | apply Kd.R_alloc | apply Kd.R_drewN | apply Kd.R_drew)); exact HO408.out))) (Kd.R_lt (by (with_reducible repeat (first | apply Kd.R_alloc | apply Kd.R_drewN | apply Kd.R_drew)); exact HO411.out))) (below_size (by repeat (first | (with_reducible first | exact HB.out | apply below_alloc | apply pw_below_drewN | apply below_drew1 | refine below_set ?_ GE412.out) | exact HB.out)))); have n5_ := Aside0.mk (blk_below (g := gb412) (o := .cells #[.slice Ao14 t406.length co14, .slice Ao16 t409.length co16] 26 (0, 0)) (by (with_reducible repeat (first | refine blk_drewN ?_ _ | refine blk_drew ?_ | refine blk_alloc ?_ _)); exact BK412.out) hb); have n6_ := Aside0.mk (below_step (by repeat (first | (with_reducible first | exact HB.out | apply below_alloc | apply pw_below_drewN | apply below_drew1 | refine below_set ?_ GE412.out) | exact HB.out)) hb); clear HO408; clear HO411; clear HO415; clear HO419; clear BK412; clear HB; have HO408 := n0_; have HO411 := n1_; have HO415 := n2_; have HO419 := n3_; have HO425 := n4_; have BK412 := n5_; have HB := n6_; clear n0_ n1_ n2_ n3_ n4_ n5_ n6_; (try clear hb); (try clear hb2); (try clear hk); (try clear hi); (try clear ho0); have hcz24_0 : w23.cell? ⟨gb412, 0, none⟩ = some (.slice Ao14 t406.length co14) := (blk_cell BK412.out 0).trans rfl; have hcz24_1 : w23.cell? ⟨gb412, 1, none⟩ = some (.slice Ao16 t409.length co16) := (blk_cell BK412.out 1).trans rfl; have hfz24_0 := blk_frozen BK412.out 0; have hfz24_1 := blk_frozen BK412.out 1) | (go_at_call 13; (with_reducible refine (spec_ReadingOf.calls k _ _ t406 _ _ t409 t427 t430 _ ?side1 ?side2 ?side3 ?side4 A10.out).mono ?_); (case side1 => repeat (first | exact (Kd.R_reads' HO408.out).2.2 | (with_reducible refine Kd.C_alloc ?_ _) | (with_reducible refine Kd.C_drewN ?_ _) | (with_reducible refine Kd.C_drew ?_))); (case side2 => exact (Kd.R_reads' HO408.out).2.1); (case side3 => repeat (first | exact (Kd.R_reads' HO411.out).2.2 | (with_reducible refine Kd.C_alloc ?_ _) | (with_reducible refine Kd.C_drewN ?_ _) | (with_reducible refine Kd.C_drew ?_))); (case side4 => exact (Kd.R_reads' HO411.out).2.1); rintro e w25 ⟨v428, rfl, ho0, hb⟩; have n0_ := Aside0.mk (Kd.R_elder' (by (with_reducible repeat (first | apply Kd.R_alloc | apply Kd.R_drewN | apply Kd.R_drew)); exact HO408.out) (Kd.R_base ho0) hb); have n1_ := Aside0.mk (Kd.R_elder' (by (with_reducible repeat (first | apply Kd.R_alloc | apply Kd.R_drewN | apply Kd.R_drew)); exact HO411.out) (Kd.R_base ho0) hb); have n2_ := Aside0.mk (Kd.S_elder' (by (with_reducible repeat (first | apply Kd.S_alloc | apply Kd.S_drewN | apply Kd.S_drew)); exact HO415.out) (Kd.R_base ho0) hb); have n3_ := Aside0.mk (Kd.S_elder' (by (with_reducible repeat (first | apply Kd.S_alloc | apply Kd.S_drewN | apply Kd.S_drew)); exact HO419.out) (Kd.R_base ho0) hb); have n4_ := Aside0.mk (Kd.R_elder' (by (with_reducible repeat (first | apply Kd.R_alloc | apply Kd.R_drewN | apply Kd.R_drew)); exact HO425.out) (Kd.R_base ho0) hb); have n5_ := Aside0.mk (Kd.R_lower (Kd.R_new' (Kd.R_new' (Kd.R_new' ho0 (Kd.R_lt (by (with_reducible repeat (first | apply Kd.R_alloc | apply Kd.R_drewN | apply Kd.R_drew)); exact HO408.out))) (Kd.R_lt (by (with_reducible repeat (first | apply Kd.R_alloc | apply Kd.R_drewN | apply Kd.R_drew)); exact HO411.out))) (Kd.R_lt (by (with_reducible repeat (first | apply Kd.R_alloc | apply Kd.R_drewN | apply Kd.R_drew)); exact HO425.out))) (below_size (by repeat (first | (with_reducible first | exact HB.out | apply below_alloc | apply pw_below_drewN | apply below_drew1 | refine below_set ?_ GE412.out) | exact HB.out)))); have n6_ := Aside0.mk (blk_below (g := gb412) (o := .cells #[.slice Ao14 t406.length co14, .slice Ao16 t409.length co16] 26 (0, 0)) (by (with_reducible repeat (first | refine blk_drewN ?_ _ | refine blk_drew ?_ | refine blk_alloc ?_ _)); exact BK412.out) hb); have n7_ := Aside0.mk (below_step (by repeat (first | (with_reducible first | exact HB.out | apply below_alloc | apply pw_below_drewN | apply below_drew1 | refine below_set ?_ GE412.out) | exact HB.out)) hb); clear HO408; clear HO411; clear HO415; clear HO419; clear HO425; clear BK412; clear HB; have HO408 := n0_; have HO411 := n1_; have HO415 := n2_; have HO419 := n3_; have HO425 := n4_; have HO429 := n5_; have BK412 := n6_; have HB := n7_; clear n0_ n1_ n2_ n3_ n4_ n5_ n6_ n7_; (try clear hb); (try clear hb2); (try clear hk); (try clear hi); (try clear ho0)))
   repeat (go_quiet (first | fail); go_upto_region 9 with (first | (go_at_call 7; (with_reducible refine (laws_big.calls _ _ l0 _ _ l1 false _ ?side1 ?side2 ?side3 ?side4 A3.out).mono ?_); (case side1 => repeat (first | exact HR0.out | (with_reducible refine Kd.C_alloc ?_ _) | (with_reducible refine Kd.C_drewN ?_ _) | (with_reducible refine Kd.C_drew ?_))); (case side2 => exact HC0.out); (case side3 => repeat (first | exact HR1.out | (with_reducible refine Kd.C_alloc ?_ _) | (with_reducible refine Kd.C_drewN ?_ _) | (with_reducible refine Kd.C_drew ?_))); (case side4 => exact HC1.out); rintro e w' ⟨rfl, ⟨nd, rfl⟩⟩; (try first | exact ⟨rfl, _, World.drewN_drewN _ _ _⟩ | exact ⟨rfl, _, Eq.trans (World.drewN_drewN _ _ _) (congrArg (World.drewN _) (Nat.add_assoc _ _ _))⟩)) | (go_at_call 8; (with_reducible refine (spec_DrawPairsOf.calls k _ _ l0 t406 t409 _ ?side1 ?side2 A5.out).mono ?_); (case side1 => repeat (first | exact HR0.out | (with_reducible refine Kd.C_alloc ?_ _) | (with_reducible refine Kd.C_drewN ?_ _) | (with_reducible refine Kd.C_drew ?_))); (case side2 => exact HC0.out); rintro e w12 ⟨v407, v410, rfl, ho0, ho1, hb⟩; have n0_ := Aside0.mk (Kd.R_lower ho0 (below_size (by repeat (first | (with_reducible first | exact HB.out | apply below_alloc | apply pw_below_drewN | apply below_drew1) | exact HB.out)))); have n1_ := Aside0.mk (Kd.R_lower ho1 (below_size (by repeat (first | (with_reducible first | exact HB.out | apply below_alloc | apply pw_below_drewN | apply below_drew1) | exact HB.out)))); have n2_ := Aside0.mk (below_step (by repeat (first | (with_reducible first | exact HB.out | apply below_alloc | apply pw_below_drewN | apply below_drew1) | exact HB.out)) hb); clear HB; have HO408 := n0_; have HO411 := n1_; have HB := n2_; clear n0_ n1_ n2_; (try clear hb); (try clear hb2); (try clear hk); (try clear hi); (try clear ho0); (try clear ho1)) | ((with_reducible refine gate_dst (N := 5) rfl ?_); (try (refine gate_guard (by rfl) ?_; dsimp only)); refine box_event ?hg (N := 5) ?hd (cs := #[.slice none 0 0, .slice none 0 0]) (t := 26) ?hr ?_; (case hd => rfl); (case hg => rfl); (case hr => first | (go_simp; done) | (go_simp; rfl)); intro gb412 hg w13 hbox hb; have n0_ := Aside0.mk (Kd.R_below (by (with_reducible repeat (first | apply Kd.R_alloc | apply Kd.R_drewN | apply Kd.R_drew)); exact HO408.out) hb); have n1_ := Aside0.mk (Kd.R_below (by (with_reducible repeat (first | apply Kd.R_alloc | apply Kd.R_drewN | apply Kd.R_drew)); exact HO411.out) hb); have n2_ := Aside0.mk (below_step (by repeat (first | (with_reducible first | exact HB.out | apply below_alloc | apply pw_below_drewN | apply below_drew1) | exact HB.out)) hb); have n3_ := Aside0.mk (hbox); have n4_ := Aside0.mk ((by rw [hg]; exact (below_size (by repeat (first | (with_reducible first | exact HB.out | apply below_alloc | apply pw_below_drewN | apply below_drew1) | exact HB.out))) : w.heap.size ≤ gb412)); have n5_ := Aside0.mk ((by rw [hg]; exact (below_size (by repeat (first | (with_reducible first | exact HB.out | apply below_alloc | apply pw_below_drewN | apply below_drew1) | exact HB.out))) : w.heap.size ≤ gb412)); clear HO408; clear HO411; clear HB; have HO408 := n0_; have HO411 := n1_; have HB := n2_; have BK412 := n3_; have GW412 := n4_; have GE412 := n5_; clear n0_ n1_ n2_ n3_ n4_ n5_; clear hb hbox hg; obtain ⟨Ao14, co14, eo14⟩ := Kd.R_slice HO408.out; subst eo14; have hcz15_0 : w13.cell? ⟨gb412, 0, none⟩ = some (.slice none 0 0) := (blk_cell BK412.out 0).trans rfl; have hcz15_1 : w13.cell? ⟨gb412, 1, none⟩ = some (.slice none 0 0) := (blk_cell BK412.out 1).trans rfl; have hfz15_0 := blk_frozen BK412.out 0; have hfz15_1 := blk_frozen BK412.out 1; obtain ⟨Ao16, co16, eo16⟩ := Kd.R_slice HO411.out; subst eo16) | (go_at_call 9; (with_reducible refine (impl_PairsOf.calls k _ _ t406 _ _ t409 t413 t416 _ ?side1 ?side2 ?side3 ?side4 A6.out).mono ?_); (case side1 => refine (Kd.R_reads' (e := 3) (base := w.heap.size) (ok := fun k_ => some k_ ≠ (.slice Ao16 t409.length co16 : Value).ownBlock) (n := t406.length) (c := co14) ?_).2.2; exact (by (with_reducible repeat (first | apply Kd.R_alloc | apply Kd.R_drewN | apply Kd.R_drew)); exact (Kd.R_mono (Kd.R_far (p := ⟨gb412, 1, none⟩) (Kd.R_far (p := ⟨gb412, 0, none⟩) (Kd.R_types HO408.out BK412.out (by decide)) (fun _ hk => hk.2) (.slice Ao14 t406.length co14)) (fun _ hk => hk.2) (.slice Ao16 t409.length co16)) (fun _ h_ => h_.1)))); (case side2 => exact (Kd.R_reads' HO408.out).2.1); (case side3 => refine (Kd.R_reads' (e := 3) (base := w.heap.size) (ok := fun k_ => some k_ ≠ (.slice Ao14 t406.length co14 : Value).ownBlock) (n := t409.length) (c := co16) ?_).2.2; exact (by (with_reducible repeat (first | apply Kd.R_alloc | apply Kd.R_drewN | apply Kd.R_drew)); exact (Kd.R_mono (Kd.R_far (p := ⟨gb412, 1, none⟩) (Kd.R_far (p := ⟨gb412, 0, none⟩) (Kd.R_types HO411.out BK412.out (by decide)) (fun _ hk => hk.2) (.slice Ao14 t406.length co14)) (fun _ hk => hk.2) (.slice Ao16 t409.length co16)) (fun _ h_ => h_.1)))); (case side4 => exact (Kd.R_reads' HO411.out).2.1); rintro e w17 ⟨v414, rfl, ho0, hb⟩; have n0_ := Aside0.mk (Kd.R_below (by (with_reducible repeat (first | apply Kd.R_alloc | apply Kd.R_drewN | apply Kd.R_drew)); exact (Kd.R_mono (Kd.R_far (p := ⟨gb412, 1, none⟩) (Kd.R_far (p := ⟨gb412, 0, none⟩) (Kd.R_types HO408.out BK412.out (by decide)) (fun _ hk => hk.2) (.slice Ao14 t406.length co14)) (fun _ hk => hk.2) (.slice Ao16 t409.length co16)) (fun _ h_ => h_.1))) hb); have n1_ := Aside0.mk (Kd.R_below (by (with_reducible repeat (first | apply Kd.R_alloc | apply Kd.R_drewN | apply Kd.R_drew)); exact (Kd.R_mono (Kd.R_far (p := ⟨gb412, 1, none⟩) (Kd.R_far (p := ⟨gb412, 0, none⟩) (Kd.R_types HO411.out BK412.out (by decide)) (fun _ hk => hk.2) (.slice Ao14 t406.length co14)) (fun _ hk => hk.2) (.slice Ao16 t409.length co16)) (fun _ h_ => h_.1))) hb); have n2_ := Aside0.mk (Kd.S_lower (Kd.S_new' (Kd.S_new' ho0 (Kd.R_lt (by (with_reducible repeat (first | apply Kd.R_alloc | apply Kd.R_drewN | apply Kd.R_drew)); exact (Kd.R_mono (Kd.R_far (p := ⟨gb412, 1, none⟩) (Kd.R_far (p := ⟨gb412, 0, none⟩) (Kd.R_types HO408.out BK412.out (by decide)) (fun _ hk => hk.2) (.slice Ao14 t406.length co14)) (fun _ hk => hk.2) (.slice Ao16 t409.length co16)) (fun _ h_ => h_.1))))) (Kd.R_lt (by (with_reducible repeat (first | apply Kd.R_alloc | apply Kd.R_drewN | apply Kd.R_drew)); exact (Kd.R_mono (Kd.R_far (p := ⟨gb412, 1, none⟩) (Kd.R_far (p := ⟨gb412, 0, none⟩) (Kd.R_types HO411.out BK412.out (by decide)) (fun _ hk => hk.2) (.slice Ao14 t406.length co14)) (fun _ hk => hk.2) (.slice Ao16 t409.length co16)) (fun _ h_ => h_.1))))) (below_size (by repeat (first | (with_reducible first | exact HB.out | apply below_alloc | apply pw_below_drewN | apply below_drew1 | refine below_set ?_ GE412.out) | exact HB.out)))); have n3_ := Aside0.mk (blk_below (g := gb412) (o := .cells #[.slice Ao14 t406.length co14, .slice Ao16 t409.length co16] 26 (0, 0)) (by (with_reducible repeat (first | refine blk_drewN ?_ _ | refine blk_drew ?_ | refine blk_alloc ?_ _)); refine blk_put (cs := #[.slice Ao14 t406.length co14, .slice none 0 0]) ?_ 1 _ rfl; (with_reducible repeat (first | refine blk_drewN ?_ _ | refine blk_drew ?_ | refine blk_alloc ?_ _)); refine blk_put (cs := #[.slice none 0 0, .slice none 0 0]) ?_ 0 _ rfl; (with_reducible repeat (first | refine blk_drewN ?_ _ | refine blk_drew ?_ | refine blk_alloc ?_ _)); exact BK412.out) hb); have n4_ := Aside0.mk (below_step (by repeat (first | (with_reducible first | exact HB.out | apply below_alloc | apply pw_below_drewN | apply below_drew1 | refine below_set ?_ GE412.out) | exact HB.out)) hb); clear HO408; clear HO411; clear BK412; clear HB; have HO408 := n0_; have HO411 := n1_; have HO415 := n2_; have BK412 := n3_; have HB := n4_; clear n0_ n1_ n2_ n3_ n4_; (try clear hb); (try clear hb2); (try clear hk); (try clear hi); (try clear ho0); have hcz18_0 : w17.cell? ⟨gb412, 0, none⟩ = some (.slice Ao14 t406.length co14) := (blk_cell BK412.out 0).trans rfl; have hcz18_1 : w17.cell? ⟨gb412, 1, none⟩ = some (.slice Ao16 t409.length co16) := (blk_cell BK412.out 1).trans rfl; have hfz18_0 := blk_frozen BK412.out 0; have hfz18_1 := blk_frozen BK412.out 1) | (go_at_call 10; (with_reducible refine (spec_PairsOf.calls k _ _ t406 _ _ t409 t417 t420 _ ?side1 ?side2 ?side3 ?side4 A7.out).mono ?_); (case side1 => repeat (first | exact (Kd.R_reads' HO408.out).2.2 | (with_reducible refine Kd.C_alloc ?_ _) | (with_reducible refine Kd.C_drewN ?_ _) | (with_reducible refine Kd.C_drew ?_))); (case side2 => exact (Kd.R_reads' HO408.out).2.1); (case side3 => repeat (first | exact (Kd.R_reads' HO411.out).2.2 | (with_reducible refine Kd.C_alloc ?_ _) | (with_reducible refine Kd.C_drewN ?_ _) | (with_reducible refine Kd.C_drew ?_))); (case side4 => exact (Kd.R_reads' HO411.out).2.1); rintro e w19 ⟨v418, rfl, ho0, hb⟩; have n0_ := Aside0.mk (Kd.R_below (by (with_reducible repeat (first | apply Kd.R_alloc | apply Kd.R_drewN | apply Kd.R_drew)); exact HO408.out) hb); have n1_ := Aside0.mk (Kd.R_below (by (with_reducible repeat (first | apply Kd.R_alloc | apply Kd.R_drewN | apply Kd.R_drew)); exact HO411.out) hb); have n2_ := Aside0.mk (Kd.S_elder' (by (with_reducible repeat (first | apply Kd.S_alloc | apply Kd.S_drewN | apply Kd.S_drew)); exact HO415.out) (Kd.S_base ho0) hb); have n3_ := Aside0.mk (Kd.S_lower (Kd.S_new' (Kd.S_new' (Kd.S_new' ho0 (Kd.R_lt (by (with_reducible repeat (first | apply Kd.R_alloc | apply Kd.R_drewN | apply Kd.R_drew)); exact HO408.out))) (Kd.R_lt (by (with_reducible repeat (first | apply Kd.R_alloc | apply Kd.R_drewN | apply Kd.R_drew)); exact HO411.out))) (Kd.S_lt (by (with_reducible repeat (first | apply Kd.S_alloc | apply Kd.S_drewN | apply Kd.S_drew)); exact HO415.out))) (below_size (by repeat (first | (with_reducible first | exact HB.out | apply below_alloc | apply pw_below_drewN | apply below_drew1 | refine below_set ?_ GE412.out) | exact HB.out)))); have n4_ := Aside0.mk (blk_below (g := gb412) (o := .cells #[.slice Ao14 t406.length co14, .slice Ao16 t409.length co16] 26 (0, 0)) (by (with_reducible repeat (first | refine blk_drewN ?_ _ | refine blk_drew ?_ | refine blk_alloc ?_ _)); exact BK412.out) hb); have n5_ := Aside0.mk (below_step (by repeat (first | (with_reducible first | exact HB.out | apply below_alloc | apply pw_below_drewN | apply below_drew1 | refine below_set ?_ GE412.out) | exact HB.out)) hb); clear HO408; clear HO411; clear HO415; clear BK412; clear HB; have HO408 := n0_; have HO411 := n1_; have HO415 := n2_; have HO419 := n3_; have BK412 := n4_; have HB := n5_; clear n0_ n1_ n2_ n3_ n4_ n5_; (try clear hb); (try clear hb2); (try clear hk); (try clear hi); (try clear ho0); have hcz20_0 : w19.cell? ⟨gb412, 0, none⟩ = some (.slice Ao14 t406.length co14) := (blk_cell BK412.out 0).trans rfl; have hcz20_1 : w19.cell? ⟨gb412, 1, none⟩ = some (.slice Ao16 t409.length co16) := (blk_cell BK412.out 1).trans rfl; have hfz20_0 := blk_frozen BK412.out 0; have hfz20_1 := blk_frozen BK412.out 1) | (go_at_call 11; (with_reducible refine (impl_PairCount.calls k _ _ t406 _ _ t409 t421 t422 _ ?side1 ?side2 ?side3 ?side4 A8.out).mono ?_); (case side1 => repeat (first | exact (Kd.R_reads' HO408.out).2.2 | (with_reducible refine Kd.C_alloc ?_ _) | (with_reducible refine Kd.C_drewN ?_ _) | (with_reducible refine Kd.C_drew ?_))); (case side2 => exact (Kd.R_reads' HO408.out).2.1); (case side3 => repeat (first | exact (Kd.R_reads' HO411.out).2.2 | (with_reducible refine Kd.C_alloc ?_ _) | (with_reducible refine Kd.C_drewN ?_ _) | (with_reducible refine Kd.C_drew ?_))); (case side4 => exact (Kd.R_reads' HO411.out).2.1); rintro e w21 ⟨rfl, hb⟩; have n0_ := Aside0.mk (Kd.R_below (by (with_reducible repeat (first | apply Kd.R_alloc | apply Kd.R_drewN | apply Kd.R_drew)); exact HO408.out) hb); have n1_ := Aside0.mk (Kd.R_below (by (with_reducible repeat (first | apply Kd.R_alloc | apply Kd.R_drewN | apply Kd.R_drew)); exact HO411.out) hb); have n2_ := Aside0.mk (Kd.S_below (by (with_reducible repeat (first | apply Kd.S_alloc | apply Kd.S_drewN | apply Kd.S_drew)); exact HO415.out) hb); have n3_ := Aside0.mk (Kd.S_below (by (with_reducible repeat (first | apply Kd.S_alloc | apply Kd.S_drewN | apply Kd.S_drew)); exact HO419.out) hb); have n4_ := Aside0.mk (blk_below (g := gb412) (o := .cells #[.slice Ao14 t406.length co14, .slice Ao16 t409.length co16] 26 (0, 0)) (by (with_reducible repeat (first | refine blk_drewN ?_ _ | refine blk_drew ?_ | refine blk_alloc ?_ _)); exact BK412.out) hb); have n5_ := Aside0.mk (below_step (by repeat (first | (with_reducible first | exact HB.out | apply below_alloc | apply pw_below_drewN | apply below_drew1 | refine below_set ?_ GE412.out) | exact HB.out)) hb); clear HO408; clear HO411; clear HO415; clear HO419; clear BK412; clear HB; have HO408 := n0_; have HO411 := n1_; have HO415 := n2_; have HO419 := n3_; have BK412 := n4_; have HB := n5_; clear n0_ n1_ n2_ n3_ n4_ n5_; (try clear hb); (try clear hb2); (try clear hk); (try clear hi); have hcz22_0 : w21.cell? ⟨gb412, 0, none⟩ = some (.slice Ao14 t406.length co14) := (blk_cell BK412.out 0).trans rfl; have hcz22_1 : w21.cell? ⟨gb412, 1, none⟩ = some (.slice Ao16 t409.length co16) := (blk_cell BK412.out 1).trans rfl; have hfz22_0 := blk_frozen BK412.out 0; have hfz22_1 := blk_frozen BK412.out 1) | (go_at_call 12; (with_reducible refine (impl_ReadingOf.calls k _ _ t406 _ _ t409 t423 t426 _ ?side1 ?side2 ?side3 ?side4 A9.out).mono ?_); (case side1 => repeat (first | exact (Kd.R_reads' HO408.out).2.2 | (with_reducible refine Kd.C_alloc ?_ _) | (with_reducible refine Kd.C_drewN ?_ _) | (with_reducible refine Kd.C_drew ?_))); (case side2 => exact (Kd.R_reads' HO408.out).2.1); (case side3 => repeat (first | exact (Kd.R_reads' HO411.out).2.2 | (with_reducible refine Kd.C_alloc ?_ _) | (with_reducible refine Kd.C_drewN ?_ _) | (with_reducible refine Kd.C_drew ?_))); (case side4 => exact (Kd.R_reads' HO411.out).2.1); rintro e w23 ⟨v424, rfl, ho0, hb⟩; have n0_ := Aside0.mk (Kd.R_elder' (by (with_reducible repeat (first | apply Kd.R_alloc | apply Kd.R_drewN | apply Kd.R_drew)); exact HO408.out) (Kd.R_base ho0) hb); have n1_ := Aside0.mk (Kd.R_elder' (by (with_reducible repeat (first | apply Kd.R_alloc | apply Kd.R_drewN | apply Kd.R_drew)); exact HO411.out) (Kd.R_base ho0) hb); have n2_ := Aside0.mk (Kd.S_elder' (by (with_reducible repeat (first | apply Kd.S_alloc | apply Kd.S_drewN | apply Kd.S_drew)); exact HO415.out) (Kd.R_base ho0) hb); have n3_ := Aside0.mk (Kd.S_elder' (by (with_reducible repeat (first | apply Kd.S_alloc | apply Kd.S_drewN | apply Kd.S_drew)); exact HO419.out) (Kd.R_base ho0) hb); have n4_ := Aside0.mk (Kd.R_lower (Kd.R_new' (Kd.R_new' ho0 (Kd.R_lt (by (with_reducible repeat (first | apply Kd.R_alloc | apply Kd.R_drewN | apply Kd.R_drew)); exact HO408.out))) (Kd.R_lt (by (with_reducible repeat (first | apply Kd.R_alloc | apply Kd.R_drewN | apply Kd.R_drew)); exact HO411.out))) (below_size (by repeat (first | (with_reducible first | exact HB.out | apply below_alloc | apply pw_below_drewN | apply below_drew1 | refine below_set ?_ GE412.out) | exact HB.out)))); have n5_ := Aside0.mk (blk_below (g := gb412) (o := .cells #[.slice Ao14 t406.length co14, .slice Ao16 t409.length co16] 26 (0, 0)) (by (with_reducible repeat (first | refine blk_drewN ?_ _ | refine blk_drew ?_ | refine blk_alloc ?_ _)); exact BK412.out) hb); have n6_ := Aside0.mk (below_step (by repeat (first | (with_reducible first | exact HB.out | apply below_alloc | apply pw_below_drewN | apply below_drew1 | refine below_set ?_ GE412.out) | exact HB.out)) hb); clear HO408; clear HO411; clear HO415; clear HO419; clear BK412; clear HB; have HO408 := n0_; have HO411 := n1_; have HO415 := n2_; have HO419 := n3_; have HO425 := n4_; have BK412 := n5_; have HB := n6_; clear n0_ n1_ n2_ n3_ n4_ n5_ n6_; (try clear hb); (try clear hb2); (try clear hk); (try clear hi); (try clear ho0); have hcz24_0 : w23.cell? ⟨gb412, 0, none⟩ = some (.slice Ao14 t406.length co14) := (blk_cell BK412.out 0).trans rfl; have hcz24_1 : w23.cell? ⟨gb412, 1, none⟩ = some (.slice Ao16 t409.length co16) := (blk_cell BK412.out 1).trans rfl; have hfz24_0 := blk_frozen BK412.out 0; have hfz24_1 := blk_frozen BK412.out 1) | (go_at_call 13; (with_reducible refine (spec_ReadingOf.calls k _ _ t406 _ _ t409 t427 t430 _ ?side1 ?side2 ?side3 ?side4 A10.out).mono ?_); (case side1 => repeat (first | exact (Kd.R_reads' HO408.out).2.2 | (with_reducible refine Kd.C_alloc ?_ _) | (with_reducible refine Kd.C_drewN ?_ _) | (with_reducible refine Kd.C_drew ?_))); (case side2 => exact (Kd.R_reads' HO408.out).2.1); (case side3 => repeat (first | exact (Kd.R_reads' HO411.out).2.2 | (with_reducible refine Kd.C_alloc ?_ _) | (with_reducible refine Kd.C_drewN ?_ _) | (with_reducible refine Kd.C_drew ?_))); (case side4 => exact (Kd.R_reads' HO411.out).2.1); rintro e w25 ⟨v428, rfl, ho0, hb⟩; have n0_ := Aside0.mk (Kd.R_elder' (by (with_reducible repeat (first | apply Kd.R_alloc | apply Kd.R_drewN | apply Kd.R_drew)); exact HO408.out) (Kd.R_base ho0) hb); have n1_ := Aside0.mk (Kd.R_elder' (by (with_reducible repeat (first | apply Kd.R_alloc | apply Kd.R_drewN | apply Kd.R_drew)); exact HO411.out) (Kd.R_base ho0) hb); have n2_ := Aside0.mk (Kd.S_elder' (by (with_reducible repeat (first | apply Kd.S_alloc | apply Kd.S_drewN | apply Kd.S_drew)); exact HO415.out) (Kd.R_base ho0) hb); have n3_ := Aside0.mk (Kd.S_elder' (by (with_reducible repeat (first | apply Kd.S_alloc | apply Kd.S_drewN | apply Kd.S_drew)); exact HO419.out) (Kd.R_base ho0) hb); have n4_ := Aside0.mk (Kd.R_elder' (by (with_reducible repeat (first | apply Kd.R_alloc | apply Kd.R_drewN | apply Kd.R_drew)); exact HO425.out) (Kd.R_base ho0) hb); have n5_ := Aside0.mk (Kd.R_lower (Kd.R_new' (Kd.R_new' (Kd.R_new' ho0 (Kd.R_lt (by (with_reducible repeat (first | apply Kd.R_alloc | apply Kd.R_drewN | apply Kd.R_drew)); exact HO408.out))) (Kd.R_lt (by (with_reducible repeat (first | apply Kd.R_alloc | apply Kd.R_drewN | apply Kd.R_drew)); exact HO411.out))) (Kd.R_lt (by (with_reducible repeat (first | apply Kd.R_alloc | apply Kd.R_drewN | apply Kd.R_drew)); exact HO425.out))) (below_size (by repeat (first | (with_reducible first | exact HB.out | apply below_alloc | apply pw_below_drewN | apply below_drew1 | refine below_set ?_ GE412.out) | exact HB.out)))); have n6_ := Aside0.mk (blk_below (g := gb412) (o := .cells #[.slice Ao14 t406.length co14, .slice Ao16 t409.length co16] 26 (0, 0)) (by (with_reducible repeat (first | refine blk_drewN ?_ _ | refine blk_drew ?_ | refine blk_alloc ?_ _)); exact BK412.out) hb); have n7_ := Aside0.mk (below_step (by repeat (first | (with_reducible first | exact HB.out | apply below_alloc | apply pw_below_drewN | apply below_drew1 | refine below_set ?_ GE412.out) | exact HB.out)) hb); clear HO408; clear HO411; clear HO415; clear HO419; clear HO425; clear BK412; clear HB; have HO408 := n0_; have HO411 := n1_; have HO415 := n2_; have HO419 := n3_; have HO425 := n4_; have HO429 := n5_; have BK412 := n6_; have HB := n7_; clear n0_ n1_ n2_ n3_ n4_ n5_ n6_ n7_; (try clear hb); (try clear hb2); (try clear hk); (try clear hi); (try clear ho0))))
   (try simp only [Act.put, List.setIfInBounds_toArray, List.set_cons_zero, List.set_cons_succ])
   go_cut [83] (fun v83 wc => ∃ (kq : Nat) (x83_10 : Bool), v83 = .bool x83_10 ∧ Aside0 (laws_FnPairsOfWalks.j0 kq t413 t420 t421 t423 x83_10 t406 t409 = some r) ∧ Aside0 (kq ≤ k) ∧ Aside0 (Kd.S (Kd.slice 3 (Kd.int .i64)) 24 wc w.heap.size (fun k_ => some k_ ≠ (v424 : Value).ownBlock ∧ some k_ ≠ ((.slice Ao14 t406.length co14) : Value).ownBlock ∧ some k_ ≠ ((.slice Ao16 t409.length co16) : Value).ownBlock) v414 t413) ∧ Aside0 (Kd.R (Kd.int .i64) 3 wc w.heap.size (fun k_ => some k_ ≠ ((.slice Ao14 t406.length co14) : Value).ownBlock ∧ some k_ ≠ ((.slice Ao16 t409.length co16) : Value).ownBlock) v424 t423) ∧ Aside0 (Kd.R (Kd.int .i64) 3 wc w.heap.size (fun k_ => some k_ ≠ (v424 : Value).ownBlock ∧ some k_ ≠ ((.slice Ao16 t409.length co16) : Value).ownBlock) (.slice Ao14 t406.length co14) t406) ∧ Aside0 (Kd.R (Kd.int .i64) 3 wc w.heap.size (fun k_ => some k_ ≠ (v424 : Value).ownBlock ∧ some k_ ≠ ((.slice Ao14 t406.length co14) : Value).ownBlock) (.slice Ao16 t409.length co16) t409) ∧ Aside0 (wc.heap[gb412]? = some (.cells #[(.slice Ao14 t406.length co14), (.slice Ao16 t409.length co16)] 26 (0, 0))) ∧ Aside0 (Below w.heap.size w wc))
   case first =>
    have H := HC11.out
    clear HC11
    by_cases c26 : (t416 != t420) = true
    ·rw [if_pos c26] at H
     have c26b0 : (t416 != t420) = true := c26
     (try (have c26b1 : decide (t416 = t420) = false := by simpa using c26))
     (try (have c26b2 : (t416 == t420) = false := by simpa using c26))
     (try (have c26b3 : ¬ (t416 = t420) := by simpa using c26))
     clear c26
     (first | rw [c26b0] | (simp only [i64_w, i32_w]; rw [c26b0]) | rw [c26b1] | skip)
     have H' := Aside0.mk H
     clear H
     go_wp2
     repeat (go_quiet (fail); try go_wp2)
     go_meet
     case rel => exact ⟨_, (true), (by first | rfl | (simp; done) | (simp [*]; done)), H', ⟨by first | omega | exact Nat.le_refl _⟩, ⟨by (with_reducible repeat (first | apply Kd.S_alloc | apply Kd.S_drewN | apply Kd.S_drew)); exact Kd.S_mono HO415.out (fun _ hk => ⟨hk.1.2, ⟨hk.1.1.1.1.2, hk.1.1.1.2⟩⟩)⟩, ⟨by (with_reducible repeat (first | apply Kd.R_alloc | apply Kd.R_drewN | apply Kd.R_drew)); exact Kd.R_mono HO425.out (fun _ hk => ⟨hk.1.1.2, hk.1.2⟩)⟩, ⟨by (with_reducible repeat (first | apply Kd.R_alloc | apply Kd.R_drewN | apply Kd.R_drew)); exact Kd.R_mono HO408.out (fun _ hk => ⟨hk.1.2, hk.1.1⟩)⟩, ⟨by (with_reducible repeat (first | apply Kd.R_alloc | apply Kd.R_drewN | apply Kd.R_drew)); exact Kd.R_mono HO411.out (fun _ hk => ⟨hk.1.2, hk.1.1⟩)⟩, ⟨by (with_reducible repeat (first | refine blk_drewN ?_ _ | refine blk_drew ?_ | refine blk_alloc ?_ _)); exact BK412.out⟩, ⟨by repeat (first | (with_reducible first | exact HB.out | apply below_alloc | apply pw_below_drewN | apply below_drew1 | refine below_set ?_ GE412.out) | exact HB.out)⟩⟩
    ·as_aux_lemma =>
      rw [if_neg c26] at H
      have c26b0 : (t416 != t420) = false := by simpa using c26
      (try (have c26b1 : decide (t416 = t420) = true := by simpa using c26))
      (try (have c26b2 : (t416 == t420) = true := by simpa using c26))
      clear c26
      (first | rw [c26b0] | (simp only [i64_w, i32_w]; rw [c26b0]) | rw [c26b1] | skip)
      replace H := Option.bind_eq_some_iff.mp H
      obtain ⟨t431, A270, H⟩ := H
      replace H : (if t431 = true then (if (t422 != t416) = true then (laws_FnPairsOfWalks.j0 k t413 t420 t421 t423 true t406 t409) else (if (t426 != t430) = true then (laws_FnPairsOfWalks.j0 k t413 t420 t421 t423 true t406 t409) else ((laws_wSame.f k t423 t427).bind fun t432 => (if t432 = true then (laws_FnPairsOfWalks.j0 k t413 t420 t421 t423 (t426 != t416) t406 t409) else (laws_FnPairsOfWalks.j0 k t413 t420 t421 t423 true t406 t409))))) else (laws_FnPairsOfWalks.j0 k t413 t420 t421 t423 true t406 t409)) = some r := H
      have A27 := Aside0.mk A270
      clear A270
      by_cases c28 : t431 = true
      ·subst c28
       have H1 : (if (t422 != t416) = true then (laws_FnPairsOfWalks.j0 k t413 t420 t421 t423 true t406 t409) else (if (t426 != t430) = true then (laws_FnPairsOfWalks.j0 k t413 t420 t421 t423 true t406 t409) else ((laws_wSame.f k t423 t427).bind fun t432 => (if t432 = true then (laws_FnPairsOfWalks.j0 k t413 t420 t421 t423 (t426 != t416) t406 t409) else (laws_FnPairsOfWalks.j0 k t413 t420 t421 t423 true t406 t409))))) = some r := by rw [if_pos rfl] at H; exact H
       clear H
       have H := H1
       clear H1
       by_cases c29 : (t422 != t416) = true
       ·rw [if_pos c29] at H
        have c29b0 : (t422 != t416) = true := c29
        (try (have c29b1 : decide (t422 = t416) = false := by simpa using c29))
        (try (have c29b2 : (t422 == t416) = false := by simpa using c29))
        (try (have c29b3 : ¬ (t422 = t416) := by simpa using c29))
        clear c29
        have H' := Aside0.mk H
        clear H
        obtain ⟨Ao30, co30, eo30⟩ := Kd.S_slice HO415.out
        subst eo30
        obtain ⟨Ao31, co31, eo31⟩ := Kd.S_slice HO419.out
        subst eo31
        go_wp2_with (first | (go_at_call 14; (with_reducible refine (laws_wSameLists.calls k _ _ t413 _ _ t417 true _ ?side1 ?side2 ?side3 ?side4 A27.out).mono ?_); (case side1 => repeat (first | exact (Kd.S_reads' HO415.out).2.2 | (with_reducible refine Kd.C_alloc ?_ _) | (with_reducible refine Kd.C_drewN ?_ _) | (with_reducible refine Kd.C_drew ?_))); (case side2 => exact (Kd.S_reads' HO415.out).2.1); (case side3 => repeat (first | exact (Kd.S_reads' HO419.out).2.2 | (with_reducible refine Kd.C_alloc ?_ _) | (with_reducible refine Kd.C_drewN ?_ _) | (with_reducible refine Kd.C_drew ?_))); (case side4 => exact (Kd.S_reads' HO419.out).2.1); rintro e w' ⟨rfl, ⟨nd, rfl⟩⟩; (try first | exact ⟨rfl, _, World.drewN_drewN _ _ _⟩ | exact ⟨rfl, _, Eq.trans (World.drewN_drewN _ _ _) (congrArg (World.drewN _) (Nat.add_assoc _ _ _))⟩)))
        repeat (go_quiet (first | fail); try go_wp2_with (first | fail))
        go_meet
        case rel => exact ⟨_, (true), (by first | rfl | (simp; done) | (simp [*]; done)), H', ⟨by first | omega | exact Nat.le_refl _⟩, ⟨by (with_reducible repeat (first | apply Kd.S_alloc | apply Kd.S_drewN | apply Kd.S_drew)); exact Kd.S_mono HO415.out (fun _ hk => ⟨hk.1.2, ⟨hk.1.1.1.1.2, hk.1.1.1.2⟩⟩)⟩, ⟨by (with_reducible repeat (first | apply Kd.R_alloc | apply Kd.R_drewN | apply Kd.R_drew)); exact Kd.R_mono HO425.out (fun _ hk => ⟨hk.1.1.2, hk.1.2⟩)⟩, ⟨by (with_reducible repeat (first | apply Kd.R_alloc | apply Kd.R_drewN | apply Kd.R_drew)); exact Kd.R_mono HO408.out (fun _ hk => ⟨hk.1.2, hk.1.1⟩)⟩, ⟨by (with_reducible repeat (first | apply Kd.R_alloc | apply Kd.R_drewN | apply Kd.R_drew)); exact Kd.R_mono HO411.out (fun _ hk => ⟨hk.1.2, hk.1.1⟩)⟩, ⟨by (with_reducible repeat (first | refine blk_drewN ?_ _ | refine blk_drew ?_ | refine blk_alloc ?_ _)); exact BK412.out⟩, ⟨by repeat (first | (with_reducible first | exact HB.out | apply below_alloc | apply pw_below_drewN | apply below_drew1 | refine below_set ?_ GE412.out) | exact HB.out)⟩⟩
       ·rw [if_neg c29] at H
        have c29b0 : (t422 != t416) = false := by simpa using c29
        (try (have c29b1 : decide (t422 = t416) = true := by simpa using c29))
        (try (have c29b2 : (t422 == t416) = true := by simpa using c29))
        clear c29
        by_cases c32 : (t426 != t430) = true
        ·rw [if_pos c32] at H
         have c32b0 : (t426 != t430) = true := c32
         (try (have c32b1 : decide (t426 = t430) = false := by simpa using c32))
         (try (have c32b2 : (t426 == t430) = false := by simpa using c32))
         (try (have c32b3 : ¬ (t426 = t430) := by simpa using c32))
         clear c32
         have H' := Aside0.mk H
         clear H
         obtain ⟨Ao33, co33, eo33⟩ := Kd.S_slice HO415.out
         subst eo33
         obtain ⟨Ao34, co34, eo34⟩ := Kd.S_slice HO419.out
         subst eo34
         go_wp2_with (first | (go_at_call 14; (with_reducible refine (laws_wSameLists.calls k _ _ t413 _ _ t417 true _ ?side1 ?side2 ?side3 ?side4 A27.out).mono ?_); (case side1 => repeat (first | exact (Kd.S_reads' HO415.out).2.2 | (with_reducible refine Kd.C_alloc ?_ _) | (with_reducible refine Kd.C_drewN ?_ _) | (with_reducible refine Kd.C_drew ?_))); (case side2 => exact (Kd.S_reads' HO415.out).2.1); (case side3 => repeat (first | exact (Kd.S_reads' HO419.out).2.2 | (with_reducible refine Kd.C_alloc ?_ _) | (with_reducible refine Kd.C_drewN ?_ _) | (with_reducible refine Kd.C_drew ?_))); (case side4 => exact (Kd.S_reads' HO419.out).2.1); rintro e w' ⟨rfl, ⟨nd, rfl⟩⟩; (try first | exact ⟨rfl, _, World.drewN_drewN _ _ _⟩ | exact ⟨rfl, _, Eq.trans (World.drewN_drewN _ _ _) (congrArg (World.drewN _) (Nat.add_assoc _ _ _))⟩)))
         repeat (go_quiet (first | fail); try go_wp2_with (first | fail))
         go_meet
         case rel => exact ⟨_, (true), (by first | rfl | (simp; done) | (simp [*]; done)), H', ⟨by first | omega | exact Nat.le_refl _⟩, ⟨by (with_reducible repeat (first | apply Kd.S_alloc | apply Kd.S_drewN | apply Kd.S_drew)); exact Kd.S_mono HO415.out (fun _ hk => ⟨hk.1.2, ⟨hk.1.1.1.1.2, hk.1.1.1.2⟩⟩)⟩, ⟨by (with_reducible repeat (first | apply Kd.R_alloc | apply Kd.R_drewN | apply Kd.R_drew)); exact Kd.R_mono HO425.out (fun _ hk => ⟨hk.1.1.2, hk.1.2⟩)⟩, ⟨by (with_reducible repeat (first | apply Kd.R_alloc | apply Kd.R_drewN | apply Kd.R_drew)); exact Kd.R_mono HO408.out (fun _ hk => ⟨hk.1.2, hk.1.1⟩)⟩, ⟨by (with_reducible repeat (first | apply Kd.R_alloc | apply Kd.R_drewN | apply Kd.R_drew)); exact Kd.R_mono HO411.out (fun _ hk => ⟨hk.1.2, hk.1.1⟩)⟩, ⟨by (with_reducible repeat (first | refine blk_drewN ?_ _ | refine blk_drew ?_ | refine blk_alloc ?_ _)); exact BK412.out⟩, ⟨by repeat (first | (with_reducible first | exact HB.out | apply below_alloc | apply pw_below_drewN | apply below_drew1 | refine below_set ?_ GE412.out) | exact HB.out)⟩⟩
        ·rw [if_neg c32] at H
         have c32b0 : (t426 != t430) = false := by simpa using c32
         (try (have c32b1 : decide (t426 = t430) = true := by simpa using c32))
         (try (have c32b2 : (t426 == t430) = true := by simpa using c32))
         clear c32
         replace H := Option.bind_eq_some_iff.mp H
         obtain ⟨t432, A350, H⟩ := H
         replace H : (if t432 = true then (laws_FnPairsOfWalks.j0 k t413 t420 t421 t423 (t426 != t416) t406 t409) else (laws_FnPairsOfWalks.j0 k t413 t420 t421 t423 true t406 t409)) = some r := H
         have A35 := Aside0.mk A350
         clear A350
         by_cases c36 : t432 = true
         ·subst c36
          have H1 : (laws_FnPairsOfWalks.j0 k t413 t420 t421 t423 (t426 != t416) t406 t409) = some r := by rw [if_pos rfl] at H; exact H
          clear H
          have H := H1
          clear H1
          have H' := Aside0.mk H
          clear H
          obtain ⟨Ao37, co37, eo37⟩ := Kd.S_slice HO415.out
          subst eo37
          obtain ⟨Ao38, co38, eo38⟩ := Kd.S_slice HO419.out
          subst eo38
          go_wp2_with (first | (go_at_call 14; (with_reducible refine (laws_wSameLists.calls k _ _ t413 _ _ t417 true _ ?side1 ?side2 ?side3 ?side4 A27.out).mono ?_); (case side1 => repeat (first | exact (Kd.S_reads' HO415.out).2.2 | (with_reducible refine Kd.C_alloc ?_ _) | (with_reducible refine Kd.C_drewN ?_ _) | (with_reducible refine Kd.C_drew ?_))); (case side2 => exact (Kd.S_reads' HO415.out).2.1); (case side3 => repeat (first | exact (Kd.S_reads' HO419.out).2.2 | (with_reducible refine Kd.C_alloc ?_ _) | (with_reducible refine Kd.C_drewN ?_ _) | (with_reducible refine Kd.C_drew ?_))); (case side4 => exact (Kd.S_reads' HO419.out).2.1); rintro e w' ⟨rfl, ⟨nd, rfl⟩⟩; (try first | exact ⟨rfl, _, World.drewN_drewN _ _ _⟩ | exact ⟨rfl, _, Eq.trans (World.drewN_drewN _ _ _) (congrArg (World.drewN _) (Nat.add_assoc _ _ _))⟩); obtain ⟨Ao39, co39, eo39⟩ := Kd.R_slice HO425.out; subst eo39; obtain ⟨Ao40, co40, eo40⟩ := Kd.R_slice HO429.out; subst eo40) | (go_at_call 15; (with_reducible refine (laws_wSame.calls k _ _ t423 _ _ t427 true _ ?side1 ?side2 ?side3 ?side4 A35.out).mono ?_); (case side1 => repeat (first | exact (Kd.R_reads' HO425.out).2.2 | (with_reducible refine Kd.C_alloc ?_ _) | (with_reducible refine Kd.C_drewN ?_ _) | (with_reducible refine Kd.C_drew ?_))); (case side2 => exact (Kd.R_reads' HO425.out).2.1); (case side3 => repeat (first | exact (Kd.R_reads' HO429.out).2.2 | (with_reducible refine Kd.C_alloc ?_ _) | (with_reducible refine Kd.C_drewN ?_ _) | (with_reducible refine Kd.C_drew ?_))); (case side4 => exact (Kd.R_reads' HO429.out).2.1); rintro e w' ⟨rfl, ⟨nd, rfl⟩⟩; (try first | exact ⟨rfl, _, World.drewN_drewN _ _ _⟩ | exact ⟨rfl, _, Eq.trans (World.drewN_drewN _ _ _) (congrArg (World.drewN _) (Nat.add_assoc _ _ _))⟩)))
          repeat (go_quiet (first | fail); try go_wp2_with (first | fail))
          go_meet
          case rel => exact ⟨_, ((t426 != t416)), (by first | rfl | (simp; done) | (simp [*]; done)), H', ⟨by first | omega | exact Nat.le_refl _⟩, ⟨by (with_reducible repeat (first | apply Kd.S_alloc | apply Kd.S_drewN | apply Kd.S_drew)); exact Kd.S_mono HO415.out (fun _ hk => ⟨hk.1.2, ⟨hk.1.1.1.1.2, hk.1.1.1.2⟩⟩)⟩, ⟨by (with_reducible repeat (first | apply Kd.R_alloc | apply Kd.R_drewN | apply Kd.R_drew)); exact Kd.R_mono HO425.out (fun _ hk => ⟨hk.1.1.2, hk.1.2⟩)⟩, ⟨by (with_reducible repeat (first | apply Kd.R_alloc | apply Kd.R_drewN | apply Kd.R_drew)); exact Kd.R_mono HO408.out (fun _ hk => ⟨hk.1.2, hk.1.1⟩)⟩, ⟨by (with_reducible repeat (first | apply Kd.R_alloc | apply Kd.R_drewN | apply Kd.R_drew)); exact Kd.R_mono HO411.out (fun _ hk => ⟨hk.1.2, hk.1.1⟩)⟩, ⟨by (with_reducible repeat (first | refine blk_drewN ?_ _ | refine blk_drew ?_ | refine blk_alloc ?_ _)); exact BK412.out⟩, ⟨by repeat (first | (with_reducible first | exact HB.out | apply below_alloc | apply pw_below_drewN | apply below_drew1 | refine below_set ?_ GE412.out) | exact HB.out)⟩⟩
         ·replace c36 := Bool.eq_false_iff.mpr c36
          subst c36
          have H1 : (laws_FnPairsOfWalks.j0 k t413 t420 t421 t423 true t406 t409) = some r := by rw [if_neg (show ¬ (false = true) by decide)] at H; exact H
          clear H
          have H := H1
          clear H1
          have H' := Aside0.mk H
          clear H
          obtain ⟨Ao41, co41, eo41⟩ := Kd.S_slice HO415.out
          subst eo41
          obtain ⟨Ao42, co42, eo42⟩ := Kd.S_slice HO419.out
          subst eo42
          go_wp2_with (first | (go_at_call 14; (with_reducible refine (laws_wSameLists.calls k _ _ t413 _ _ t417 true _ ?side1 ?side2 ?side3 ?side4 A27.out).mono ?_); (case side1 => repeat (first | exact (Kd.S_reads' HO415.out).2.2 | (with_reducible refine Kd.C_alloc ?_ _) | (with_reducible refine Kd.C_drewN ?_ _) | (with_reducible refine Kd.C_drew ?_))); (case side2 => exact (Kd.S_reads' HO415.out).2.1); (case side3 => repeat (first | exact (Kd.S_reads' HO419.out).2.2 | (with_reducible refine Kd.C_alloc ?_ _) | (with_reducible refine Kd.C_drewN ?_ _) | (with_reducible refine Kd.C_drew ?_))); (case side4 => exact (Kd.S_reads' HO419.out).2.1); rintro e w' ⟨rfl, ⟨nd, rfl⟩⟩; (try first | exact ⟨rfl, _, World.drewN_drewN _ _ _⟩ | exact ⟨rfl, _, Eq.trans (World.drewN_drewN _ _ _) (congrArg (World.drewN _) (Nat.add_assoc _ _ _))⟩); obtain ⟨Ao43, co43, eo43⟩ := Kd.R_slice HO425.out; subst eo43; obtain ⟨Ao44, co44, eo44⟩ := Kd.R_slice HO429.out; subst eo44) | (go_at_call 15; (with_reducible refine (laws_wSame.calls k _ _ t423 _ _ t427 false _ ?side1 ?side2 ?side3 ?side4 A35.out).mono ?_); (case side1 => repeat (first | exact (Kd.R_reads' HO425.out).2.2 | (with_reducible refine Kd.C_alloc ?_ _) | (with_reducible refine Kd.C_drewN ?_ _) | (with_reducible refine Kd.C_drew ?_))); (case side2 => exact (Kd.R_reads' HO425.out).2.1); (case side3 => repeat (first | exact (Kd.R_reads' HO429.out).2.2 | (with_reducible refine Kd.C_alloc ?_ _) | (with_reducible refine Kd.C_drewN ?_ _) | (with_reducible refine Kd.C_drew ?_))); (case side4 => exact (Kd.R_reads' HO429.out).2.1); rintro e w' ⟨rfl, ⟨nd, rfl⟩⟩; (try first | exact ⟨rfl, _, World.drewN_drewN _ _ _⟩ | exact ⟨rfl, _, Eq.trans (World.drewN_drewN _ _ _) (congrArg (World.drewN _) (Nat.add_assoc _ _ _))⟩)))
          repeat (go_quiet (first | fail); try go_wp2_with (first | fail))
          go_meet
          case rel => exact ⟨_, (true), (by first | rfl | (simp; done) | (simp [*]; done)), H', ⟨by first | omega | exact Nat.le_refl _⟩, ⟨by (with_reducible repeat (first | apply Kd.S_alloc | apply Kd.S_drewN | apply Kd.S_drew)); exact Kd.S_mono HO415.out (fun _ hk => ⟨hk.1.2, ⟨hk.1.1.1.1.2, hk.1.1.1.2⟩⟩)⟩, ⟨by (with_reducible repeat (first | apply Kd.R_alloc | apply Kd.R_drewN | apply Kd.R_drew)); exact Kd.R_mono HO425.out (fun _ hk => ⟨hk.1.1.2, hk.1.2⟩)⟩, ⟨by (with_reducible repeat (first | apply Kd.R_alloc | apply Kd.R_drewN | apply Kd.R_drew)); exact Kd.R_mono HO408.out (fun _ hk => ⟨hk.1.2, hk.1.1⟩)⟩, ⟨by (with_reducible repeat (first | apply Kd.R_alloc | apply Kd.R_drewN | apply Kd.R_drew)); exact Kd.R_mono HO411.out (fun _ hk => ⟨hk.1.2, hk.1.1⟩)⟩, ⟨by (with_reducible repeat (first | refine blk_drewN ?_ _ | refine blk_drew ?_ | refine blk_alloc ?_ _)); exact BK412.out⟩, ⟨by repeat (first | (with_reducible first | exact HB.out | apply below_alloc | apply pw_below_drewN | apply below_drew1 | refine below_set ?_ GE412.out) | exact HB.out)⟩⟩
      ·replace c28 := Bool.eq_false_iff.mpr c28
       subst c28
       have H1 : (laws_FnPairsOfWalks.j0 k t413 t420 t421 t423 true t406 t409) = some r := by rw [if_neg (show ¬ (false = true) by decide)] at H; exact H
       clear H
       have H := H1
       clear H1
       have H' := Aside0.mk H
       clear H
       obtain ⟨Ao45, co45, eo45⟩ := Kd.S_slice HO415.out
       subst eo45
       obtain ⟨Ao46, co46, eo46⟩ := Kd.S_slice HO419.out
       subst eo46
       go_wp2_with (first | (go_at_call 14; (with_reducible refine (laws_wSameLists.calls k _ _ t413 _ _ t417 false _ ?side1 ?side2 ?side3 ?side4 A27.out).mono ?_); (case side1 => repeat (first | exact (Kd.S_reads' HO415.out).2.2 | (with_reducible refine Kd.C_alloc ?_ _) | (with_reducible refine Kd.C_drewN ?_ _) | (with_reducible refine Kd.C_drew ?_))); (case side2 => exact (Kd.S_reads' HO415.out).2.1); (case side3 => repeat (first | exact (Kd.S_reads' HO419.out).2.2 | (with_reducible refine Kd.C_alloc ?_ _) | (with_reducible refine Kd.C_drewN ?_ _) | (with_reducible refine Kd.C_drew ?_))); (case side4 => exact (Kd.S_reads' HO419.out).2.1); rintro e w' ⟨rfl, ⟨nd, rfl⟩⟩; (try first | exact ⟨rfl, _, World.drewN_drewN _ _ _⟩ | exact ⟨rfl, _, Eq.trans (World.drewN_drewN _ _ _) (congrArg (World.drewN _) (Nat.add_assoc _ _ _))⟩)))
       repeat (go_quiet (first | fail); try go_wp2_with (first | fail))
       go_meet
       case rel => exact ⟨_, (true), (by first | rfl | (simp; done) | (simp [*]; done)), H', ⟨by first | omega | exact Nat.le_refl _⟩, ⟨by (with_reducible repeat (first | apply Kd.S_alloc | apply Kd.S_drewN | apply Kd.S_drew)); exact Kd.S_mono HO415.out (fun _ hk => ⟨hk.1.2, ⟨hk.1.1.1.1.2, hk.1.1.1.2⟩⟩)⟩, ⟨by (with_reducible repeat (first | apply Kd.R_alloc | apply Kd.R_drewN | apply Kd.R_drew)); exact Kd.R_mono HO425.out (fun _ hk => ⟨hk.1.1.2, hk.1.2⟩)⟩, ⟨by (with_reducible repeat (first | apply Kd.R_alloc | apply Kd.R_drewN | apply Kd.R_drew)); exact Kd.R_mono HO408.out (fun _ hk => ⟨hk.1.2, hk.1.1⟩)⟩, ⟨by (with_reducible repeat (first | apply Kd.R_alloc | apply Kd.R_drewN | apply Kd.R_drew)); exact Kd.R_mono HO411.out (fun _ hk => ⟨hk.1.2, hk.1.1⟩)⟩, ⟨by (with_reducible repeat (first | refine blk_drewN ?_ _ | refine blk_drew ?_ | refine blk_alloc ?_ _)); exact BK412.out⟩, ⟨by repeat (first | (with_reducible first | exact HB.out | apply below_alloc | apply pw_below_drewN | apply below_drew1 | refine below_set ?_ GE412.out) | exact HB.out)⟩⟩
   case rest =>
    clear HC11
    try clear c1
    try clear c2
    try clear p2
    try clear c3
    try clear c4
    try clear c26
    try clear c26b0
    try clear c26b1
    try clear c26b2
    try clear c28
    try clear c29
    try clear c29b0
    try clear c29b1
    try clear c29b2
    try clear c32
    try clear c32b0
    try clear c32b1
    try clear c32b2
    try clear c36
    try clear hcz15_0
    try clear hcz15_1
    try clear hcz18_0
    try clear hcz18_1
    try clear hcz20_0
    try clear hcz20_1
    try clear hcz22_0
    try clear hcz22_1
    try clear hcz24_0
    try clear hcz24_1
    try clear hfz15_0
    try clear hfz15_1
    try clear hfz18_0
    try clear hfz18_1
    try clear hfz20_0
    try clear hfz20_1
    try clear hfz22_0
    try clear hfz22_1
    try clear hfz24_0
    try clear hfz24_1
    obtain ⟨kq, x83_10, rfl, HA, HJ10, HO_6, HO_12, HO_413000, HO_413001, BK412, HB⟩ := hcut
    cases kq with
    | zero => exact absurd HA.out (by simp [laws_FnPairsOfWalks.j0])
    | succ kj10 =>
     have H := HA.out
     clear HA
     simp only [laws_FnPairsOfWalks.j0] at H
     by_cases c47 : x83_10 = true
     ·subst c47
      have H1 : (some false) = some r := by rw [if_pos rfl] at H; exact H
      clear H
      have H := H1
      clear H1
      obtain rfl := Option.some.inj H
      go_wp2
      repeat (go_quiet (fail); try go_wp2)
      go_ret
      exact ⟨by first | rfl | (simp [errW_none, errW_some] <;> rfl) | (simp [*, errW_none, errW_some] <;> rfl), by repeat (first | (with_reducible first | exact HB.out | apply below_alloc | apply pw_below_drewN | apply below_drew1 | refine below_set ?_ GE412.out) | exact HB.out)⟩
     ·as_aux_lemma =>
       replace c47 := Bool.eq_false_iff.mpr c47
       subst c47
       have H1 : (if t420 = true then (if t421 = (t413.length : Int) then (laws_FnPairsOfWalks.j1 kj10 t413 t423 ((t423.length : Int) != (t409.length : Int)) t406 t409) else (laws_FnPairsOfWalks.j1 kj10 t413 t423 true t406 t409)) else (some true)) = some r := by rw [if_neg (show ¬ (false = true) by decide)] at H; exact H
       clear H
       have H := H1
       clear H1
       by_cases c48 : t420 = true
       ·as_aux_lemma =>
         subst c48
         have H1 : (if t421 = (t413.length : Int) then (laws_FnPairsOfWalks.j1 kj10 t413 t423 ((t423.length : Int) != (t409.length : Int)) t406 t409) else (laws_FnPairsOfWalks.j1 kj10 t413 t423 true t406 t409)) = some r := by rw [if_pos rfl] at H; exact H
         clear H
         have H := H1
         clear H1
         have HC49 := Aside0.mk H
         clear H
         go_upto_region 13 with (fail)
         repeat (go_quiet (fail); go_upto_region 13 with (fail))
         go_cut [97] (fun v97 wc => ∃ (kq : Nat) (x97_48 : Bool), v97 = .bool x97_48 ∧ Aside0 (laws_FnPairsOfWalks.j1 kq t413 t423 x97_48 t406 t409 = some r) ∧ Aside0 (kq ≤ kj10) ∧ Aside0 (Kd.S (Kd.slice 3 (Kd.int .i64)) 24 wc w.heap.size (fun k_ => some k_ ≠ (v424 : Value).ownBlock ∧ some k_ ≠ ((.slice Ao14 t406.length co14) : Value).ownBlock ∧ some k_ ≠ ((.slice Ao16 t409.length co16) : Value).ownBlock) v414 t413) ∧ Aside0 (Kd.R (Kd.int .i64) 3 wc w.heap.size (fun k_ => some k_ ≠ ((.slice Ao14 t406.length co14) : Value).ownBlock ∧ some k_ ≠ ((.slice Ao16 t409.length co16) : Value).ownBlock) v424 t423) ∧ Aside0 (Kd.R (Kd.int .i64) 3 wc w.heap.size (fun k_ => some k_ ≠ (v424 : Value).ownBlock ∧ some k_ ≠ ((.slice Ao16 t409.length co16) : Value).ownBlock) (.slice Ao14 t406.length co14) t406) ∧ Aside0 (Kd.R (Kd.int .i64) 3 wc w.heap.size (fun k_ => some k_ ≠ (v424 : Value).ownBlock ∧ some k_ ≠ ((.slice Ao14 t406.length co14) : Value).ownBlock) (.slice Ao16 t409.length co16) t409) ∧ Aside0 (wc.heap[gb412]? = some (.cells #[(.slice Ao14 t406.length co14), (.slice Ao16 t409.length co16)] 26 (0, 0))) ∧ Aside0 (Below w.heap.size w wc))
         case first =>
          have H := HC49.out
          clear HC49
          by_cases c50 : t421 = (t413.length : Int)
          ·rw [if_pos c50] at H
           have c50b0 : (t421 == (t413.length : Int)) = true := beq_iff_eq.mpr c50
           have c50b1 : (t421 != (t413.length : Int)) = false := bne_eq_false_iff_eq.mpr c50
           clear c50
           (first | rw [c50b0] | (simp only [i64_w, i32_w]; rw [c50b0]) | rw [c50b1] | skip)
           have H' := Aside0.mk H
           clear H
           obtain ⟨Ao51, co51, eo51⟩ := Kd.S_slice HO_6.out
           subst eo51
           obtain ⟨Ao52, co52, eo52⟩ := Kd.R_slice HO_12.out
           subst eo52
           have hcz53_0 : wc.cell? ⟨gb412, 0, none⟩ = some (.slice Ao14 t406.length co14) := (blk_cell BK412.out 0).trans rfl
           have hcz53_1 : wc.cell? ⟨gb412, 1, none⟩ = some (.slice Ao16 t409.length co16) := (blk_cell BK412.out 1).trans rfl
           have hfz53_0 := blk_frozen BK412.out 0
           have hfz53_1 := blk_frozen BK412.out 1
           go_wp2
           repeat (go_quiet (fail); try go_wp2)
           go_meet
           case rel => exact ⟨_, (((t423.length : Int) != (t409.length : Int))), (by first | rfl | (simp; done) | (simp [*]; done)), H', ⟨by have := HJ10.out; first | omega | exact Nat.le_refl _⟩, ⟨by (with_reducible repeat (first | apply Kd.S_alloc | apply Kd.S_drewN | apply Kd.S_drew)); exact HO_6.out⟩, ⟨by (with_reducible repeat (first | apply Kd.R_alloc | apply Kd.R_drewN | apply Kd.R_drew)); exact HO_12.out⟩, ⟨by (with_reducible repeat (first | apply Kd.R_alloc | apply Kd.R_drewN | apply Kd.R_drew)); exact HO_413000.out⟩, ⟨by (with_reducible repeat (first | apply Kd.R_alloc | apply Kd.R_drewN | apply Kd.R_drew)); exact HO_413001.out⟩, ⟨by (with_reducible repeat (first | refine blk_drewN ?_ _ | refine blk_drew ?_ | refine blk_alloc ?_ _)); exact BK412.out⟩, ⟨by repeat (first | (with_reducible first | exact HB.out | apply below_alloc | apply pw_below_drewN | apply below_drew1 | refine below_set ?_ GE412.out) | exact HB.out)⟩⟩
          ·rw [if_neg c50] at H
           have c50b0 : (t421 == (t413.length : Int)) = false := beq_eq_false_iff_ne.mpr c50
           have c50b1 : (t421 != (t413.length : Int)) = true := bne_iff_ne.mpr c50
           (first | rw [c50b0] | (simp only [i64_w, i32_w]; rw [c50b0]) | rw [c50b1] | skip)
           have H' := Aside0.mk H
           clear H
           obtain ⟨Ao54, co54, eo54⟩ := Kd.S_slice HO_6.out
           subst eo54
           go_wp2
           repeat (go_quiet (fail); try go_wp2)
           go_meet
           case rel => exact ⟨_, (true), (by first | rfl | (simp; done) | (simp [*]; done)), H', ⟨by have := HJ10.out; first | omega | exact Nat.le_refl _⟩, ⟨by (with_reducible repeat (first | apply Kd.S_alloc | apply Kd.S_drewN | apply Kd.S_drew)); exact HO_6.out⟩, ⟨by (with_reducible repeat (first | apply Kd.R_alloc | apply Kd.R_drewN | apply Kd.R_drew)); exact HO_12.out⟩, ⟨by (with_reducible repeat (first | apply Kd.R_alloc | apply Kd.R_drewN | apply Kd.R_drew)); exact HO_413000.out⟩, ⟨by (with_reducible repeat (first | apply Kd.R_alloc | apply Kd.R_drewN | apply Kd.R_drew)); exact HO_413001.out⟩, ⟨by (with_reducible repeat (first | refine blk_drewN ?_ _ | refine blk_drew ?_ | refine blk_alloc ?_ _)); exact BK412.out⟩, ⟨by repeat (first | (with_reducible first | exact HB.out | apply below_alloc | apply pw_below_drewN | apply below_drew1 | refine below_set ?_ GE412.out) | exact HB.out)⟩⟩
         case rest =>
          clear HC49
          try clear c1
          try clear c2
          try clear p2
          try clear c3
          try clear c4
          try clear c5
          try clear c26
          try clear c26b0
          try clear c26b1
          try clear c26b2
          try clear c28
          try clear c29
          try clear c29b0
          try clear c29b1
          try clear c29b2
          try clear c32
          try clear c32b0
          try clear c32b1
          try clear c32b2
          try clear c36
          try clear c47
          try clear c48
          try clear c50
          try clear c50b0
          try clear c50b1
          try clear hcz15_0
          try clear hcz15_1
          try clear hcz18_0
          try clear hcz18_1
          try clear hcz20_0
          try clear hcz20_1
          try clear hcz22_0
          try clear hcz22_1
          try clear hcz24_0
          try clear hcz24_1
          try clear hcz53_0
          try clear hcz53_1
          try clear hfz15_0
          try clear hfz15_1
          try clear hfz18_0
          try clear hfz18_1
          try clear hfz20_0
          try clear hfz20_1
          try clear hfz22_0
          try clear hfz22_1
          try clear hfz24_0
          try clear hfz24_1
          try clear hfz53_0
          try clear hfz53_1
          try clear p2
          obtain ⟨kq, x97_48, rfl, HA, HJ48, HO_6, HO_12, HO_413000, HO_413001, BK412, HB⟩ := hcut
          cases kq with
          | zero => exact absurd HA.out (by simp [laws_FnPairsOfWalks.j1])
          | succ kj48 =>
           have H := HA.out
           clear HA
           simp only [laws_FnPairsOfWalks.j1] at H
           by_cases c55 : x97_48 = true
           ·subst c55
            have H1 : (some false) = some r := by rw [if_pos rfl] at H; exact H
            clear H
            have H := H1
            clear H1
            obtain rfl := Option.some.inj H
            go_wp2
            repeat (go_quiet (fail); try go_wp2)
            go_ret
            exact ⟨by first | rfl | (simp [errW_none, errW_some] <;> rfl) | (simp [*, errW_none, errW_some] <;> rfl), by repeat (first | (with_reducible first | exact HB.out | apply below_alloc | apply pw_below_drewN | apply below_drew1 | refine below_set ?_ GE412.out) | exact HB.out)⟩
           ·as_aux_lemma =>
             replace c55 := Bool.eq_false_iff.mpr c55
             subst c55
             have H1 : (laws_FnPairsOfWalks.l0 kj48 t423 t413 (t413.length : Int) 0 t406 t409) = some r := by rw [if_neg (show ¬ (false = true) by decide)] at H; exact H
             clear H
             have H := H1
             clear H1
             have H' := Aside0.mk H
             clear H
             obtain ⟨Ao56, co56, eo56⟩ := Kd.S_slice HO_6.out
             subst eo56
             go_wp2
             repeat (go_quiet (fail); try go_wp2)
             go_loopg [100] kj48 (fun kq v100 w' => ∃ (x100_3 : Int), v100 = .int .i64 x100_3 ∧ Aside0 (laws_FnPairsOfWalks.l0 kq t423 t413 (t413.length : Int) x100_3 t406 t409 = some r) ∧ Aside0 (kq ≤ kj48) ∧ Aside0 (Kd.R (Kd.int .i64) 3 w' w.heap.size (fun k_ => some k_ ≠ ((.slice Ao14 t406.length co14) : Value).ownBlock ∧ some k_ ≠ ((.slice Ao16 t409.length co16) : Value).ownBlock) v424 t423) ∧ Aside0 (Kd.S (Kd.slice 3 (Kd.int .i64)) 24 w' w.heap.size (fun k_ => some k_ ≠ (v424 : Value).ownBlock ∧ some k_ ≠ ((.slice Ao14 t406.length co14) : Value).ownBlock ∧ some k_ ≠ ((.slice Ao16 t409.length co16) : Value).ownBlock) (.slice Ao56 t413.length co56) t413) ∧ Aside0 (Kd.R (Kd.int .i64) 3 w' w.heap.size (fun k_ => some k_ ≠ (v424 : Value).ownBlock ∧ some k_ ≠ ((.slice Ao16 t409.length co16) : Value).ownBlock) (.slice Ao14 t406.length co14) t406) ∧ Aside0 (Kd.R (Kd.int .i64) 3 w' w.heap.size (fun k_ => some k_ ≠ (v424 : Value).ownBlock ∧ some k_ ≠ ((.slice Ao14 t406.length co14) : Value).ownBlock) (.slice Ao16 t409.length co16) t409) ∧ Aside0 (w'.heap[gb412]? = some (.cells #[(.slice Ao14 t406.length co14), (.slice Ao16 t409.length co16)] 26 (0, 0))) ∧ Aside0 (Below w.heap.size w w'))
             case atStart => exact ⟨(0), (by first | rfl | (simp; done) | (simp [*]; done)), H', ⟨Nat.le_refl _⟩, ⟨by (with_reducible repeat (first | apply Kd.R_alloc | apply Kd.R_drewN | apply Kd.R_drew)); exact HO_12.out⟩, ⟨by (with_reducible repeat (first | apply Kd.S_alloc | apply Kd.S_drewN | apply Kd.S_drew)); exact HO_6.out⟩, ⟨by (with_reducible repeat (first | apply Kd.R_alloc | apply Kd.R_drewN | apply Kd.R_drew)); exact HO_413000.out⟩, ⟨by (with_reducible repeat (first | apply Kd.R_alloc | apply Kd.R_drewN | apply Kd.R_drew)); exact HO_413001.out⟩, ⟨by (with_reducible repeat (first | refine blk_drewN ?_ _ | refine blk_drew ?_ | refine blk_alloc ?_ _)); exact BK412.out⟩, ⟨by repeat (first | (with_reducible first | exact HB.out | apply below_alloc | apply pw_below_drewN | apply below_drew1 | refine below_set ?_ GE412.out) | exact HB.out)⟩⟩
             case round =>
              clear H'
              try clear c1
              try clear c2
              try clear p2
              try clear c3
              try clear c4
              try clear c5
              try clear c26
              try clear c26b0
              try clear c26b1
              try clear c26b2
              try clear c28
              try clear c29
              try clear c29b0
              try clear c29b1
              try clear c29b2
              try clear c32
              try clear c32b0
              try clear c32b1
              try clear c32b2
              try clear c36
              try clear c47
              try clear c48
              try clear c50
              try clear c50b0
              try clear c50b1
              try clear c55
              try clear hcz15_0
              try clear hcz15_1
              try clear hcz18_0
              try clear hcz18_1
              try clear hcz20_0
              try clear hcz20_1
              try clear hcz22_0
              try clear hcz22_1
              try clear hcz24_0
              try clear hcz24_1
              try clear hcz53_0
              try clear hcz53_1
              try clear hfz15_0
              try clear hfz15_1
              try clear hfz18_0
              try clear hfz18_1
              try clear hfz20_0
              try clear hfz20_1
              try clear hfz22_0
              try clear hfz22_1
              try clear hfz24_0
              try clear hfz24_1
              try clear hfz53_0
              try clear hfz53_1
              try clear p2
              obtain ⟨x100_3, rfl, HA, HK3, HO_12, HO_98, HO_413000, HO_413001, BK412, HB⟩ := hrel
              cases gk with
              | zero => exact absurd HA.out (by simp [laws_FnPairsOfWalks.l0])
              | succ k3 =>
               have H := HA.out
               clear HA
               simp only [laws_FnPairsOfWalks.l0] at H
               by_cases c57 : x100_3 < (t413.length : Int)
               ·as_aux_lemma =>
                 rw [if_pos c57] at H
                 have c57b0 : decide (x100_3 < (t413.length : Int)) = true := decide_eq_true c57
                 clear c57
                 by_cases c58 : 0 ≤ x100_3
                 ·as_aux_lemma =>
                   rw [if_pos c58] at H
                   have c58b0 : decide (0 ≤ x100_3) = true := decide_eq_true c58
                   clear c58
                   by_cases c59 : x100_3 < (t413.length : Int)
                   ·as_aux_lemma =>
                     rw [if_pos c59] at H
                     have c59b0 : decide (x100_3 < (t413.length : Int)) = true := decide_eq_true c59
                     clear c59
                     by_cases c60 : 0 < ((rd_L2 t413 x100_3).length : Int)
                     ·as_aux_lemma =>
                       rw [if_pos c60] at H
                       have c60b0 : decide (0 < ((rd_L2 t413 x100_3).length : Int)) = true := decide_eq_true c60
                       have c60b1 : decide (0 < (rd_L2 t413 x100_3).length) = true := decide_eq_true (by omega)
                       clear c60
                       by_cases c61 : 1 < ((rd_L2 t413 x100_3).length : Int)
                       ·as_aux_lemma =>
                         rw [if_pos c61] at H
                         have c61b0 : decide (1 < ((rd_L2 t413 x100_3).length : Int)) = true := decide_eq_true c61
                         have c61b1 : decide (1 < (rd_L2 t413 x100_3).length) = true := decide_eq_true (by omega)
                         clear c61
                         have HC62 := Aside0.mk H
                         clear H
                         have p433 : 0 ≤ (x100_3 : Int) := of_decide_eq_true (by first | (with_reducible assumption) | assumption)
                         have q433 : x100_3 < (t413.length : Int) := of_decide_eq_true (by first | (with_reducible assumption) | assumption)
                         obtain ⟨ad433, A433_0, c433_0, e433, hx433_0, hl433_0, hi433_0⟩ := at_L2 (Kd.S_reads' HO_98.out).2.2 x100_3 p433 q433
                         cases e433
                         obtain ⟨ce433, hce433, hMe433, hcc433⟩ := Kd.S_get HO_98.out [] x100_3 p433 (by first | exact q433 | exact of_decide_eq_true (by first | (with_reducible assumption) | assumption) | (have e_ := (Kd.S_reads' HO_98.out).1; omega))
                         obtain ⟨ve433_0, rfl, ge433_0⟩ := hMe433
                         have hv433_0 := hcc433 0 _ rfl
                         rw [Nat.add_zero, show ((Kd.slice 3 (Kd.int .i64))).sz = 1 from rfl, Nat.mul_one] at hv433_0
                         replace hv433_0 := Option.some.inj (hv433_0.symm.trans hx433_0)
                         rw [hv433_0] at ge433_0
                         have HL433_0 := Aside0.mk (show Kd.R (Kd.int .i64) 3 _ _ _ _ (rd_L2 t413 x100_3) from ge433_0)
                         clear hv433_0 ge433_0
                         clear hcc433 hce433
                         have HR433_0 := Aside0.mk hi433_0
                         have HC433_0 := Aside0.mk hl433_0
                         clear hi433_0 hl433_0
                         replace p433 := eq_true p433
                         replace q433 := eq_true q433
                         have p434 : 0 ≤ (0 : Int) := (by omega)
                         have q434 : 0 < ((rd_L2 t413 x100_3).length : Int) := of_decide_eq_true (by first | (with_reducible assumption) | assumption)
                         obtain ⟨ad434, e434, hx434_0⟩ := Kd.at_int (by repeat (first | (with_reducible exact HR433_0.out) | (with_reducible refine Kd.C_alloc ?_ _) | (with_reducible refine Kd.C_drewN ?_ _) | (with_reducible refine Kd.C_drew ?_) | exact HR433_0.out)) 0 p434 q434
                         cases e434
                         have qi434 : (0 < (rd_L2 t413 x100_3).length) = True := eq_true (by omega)
                         (try rw [show ((0 : Int)).toNat = 0 from rfl] at hx434_0)
                         (try rw [Addr.add_zero'] at hx434_0)
                         replace p434 := eq_true p434
                         replace q434 := eq_true q434
                         have p435 : 0 ≤ (1 : Int) := (by omega)
                         have q435 : 1 < ((rd_L2 t413 x100_3).length : Int) := of_decide_eq_true (by first | (with_reducible assumption) | assumption)
                         obtain ⟨ad435, e435, hx435_0⟩ := Kd.at_int (by repeat (first | (with_reducible exact HR433_0.out) | (with_reducible refine Kd.C_alloc ?_ _) | (with_reducible refine Kd.C_drewN ?_ _) | (with_reducible refine Kd.C_drew ?_) | exact HR433_0.out)) 1 p435 q435
                         obtain rfl : ad434 = ad435 := (by injection e435)
                         (try simp only [show (1 : Int).toNat = 1 from rfl, Nat.reduceMul, Nat.reduceEqDiff, Go.Addr.add, ↓reduceIte] at hx435_0)
                         have qi435 : (1 < (rd_L2 t413 x100_3).length) = True := eq_true (by omega)
                         (try rw [show ((1 : Int)).toNat = 1 from rfl] at hx435_0)
                         replace p435 := eq_true p435
                         replace q435 := eq_true q435
                         go_upto_region 19 with (fail)
                         repeat (go_quiet (fail); go_upto_region 19 with (fail))
                         go_cut [20] (fun v20 wc => ∃ (kq : Nat) (x20_61 : Bool), v20 = .bool x20_61 ∧ Aside0 (laws_FnPairsOfWalks.j3 kq t423 (rd (rd_L2 t413 x100_3) 0) (rd (rd_L2 t413 x100_3) 1) x20_61 t413 (t413.length : Int) x100_3 t406 t409 = some r) ∧ Aside0 (kq ≤ k3) ∧ Aside0 (Kd.R (Kd.int .i64) 3 wc w.heap.size (fun k_ => some k_ ≠ ((.slice Ao14 t406.length co14) : Value).ownBlock ∧ some k_ ≠ ((.slice Ao16 t409.length co16) : Value).ownBlock) v424 t423) ∧ Aside0 (Kd.S (Kd.slice 3 (Kd.int .i64)) 24 wc w.heap.size (fun k_ => some k_ ≠ (v424 : Value).ownBlock ∧ some k_ ≠ ((.slice Ao14 t406.length co14) : Value).ownBlock ∧ some k_ ≠ ((.slice Ao16 t409.length co16) : Value).ownBlock) (.slice (some ad433) t413.length co56) t413) ∧ Aside0 (Kd.R (Kd.int .i64) 3 wc w.heap.size (fun k_ => some k_ ≠ (v424 : Value).ownBlock ∧ some k_ ≠ ((.slice Ao16 t409.length co16) : Value).ownBlock) (.slice Ao14 t406.length co14) t406) ∧ Aside0 (Kd.R (Kd.int .i64) 3 wc w.heap.size (fun k_ => some k_ ≠ (v424 : Value).ownBlock ∧ some k_ ≠ ((.slice Ao14 t406.length co14) : Value).ownBlock) (.slice Ao16 t409.length co16) t409) ∧ Aside0 (wc.heap[gb412]? = some (.cells #[(.slice Ao14 t406.length co14), (.slice Ao16 t409.length co16)] 26 (0, 0))) ∧ Aside0 (Kd.C (Kd.int .i64) wc (some ad434) (rd_L2 t413 x100_3).length (rd_L2 t413 x100_3)) ∧ Aside0 (Below w.heap.size w wc))
                         case first =>
                          have H := HC62.out
                          clear HC62
                          by_cases c63 : 0 ≤ (rd (rd_L2 t413 x100_3) 0)
                          ·rw [if_pos c63] at H
                           have c63b0 : decide (0 ≤ (rd (rd_L2 t413 x100_3) 0)) = true := decide_eq_true c63
                           clear c63
                           (first | rw [c63b0] | (simp only [i64_w, i32_w]; rw [c63b0]) | rw [c63b1] | skip)
                           by_cases c64 : (rd (rd_L2 t413 x100_3) 0) < (t406.length : Int)
                           ·rw [if_pos c64] at H
                            have c64b0 : decide ((rd (rd_L2 t413 x100_3) 0) < (t406.length : Int)) = true := decide_eq_true c64
                            clear c64
                            by_cases c65 : 0 ≤ (rd (rd_L2 t413 x100_3) 1)
                            ·rw [if_pos c65] at H
                             have c65b0 : decide (0 ≤ (rd (rd_L2 t413 x100_3) 1)) = true := decide_eq_true c65
                             clear c65
                             by_cases c66 : (rd (rd_L2 t413 x100_3) 1) < (t406.length : Int)
                             ·rw [if_pos c66] at H
                              have c66b0 : decide ((rd (rd_L2 t413 x100_3) 1) < (t406.length : Int)) = true := decide_eq_true c66
                              clear c66
                              by_cases c67 : (rd t406 (rd (rd_L2 t413 x100_3) 0)) = (rd t406 (rd (rd_L2 t413 x100_3) 1))
                              ·rw [if_pos c67] at H
                               have c67b0 : ((rd t406 (rd (rd_L2 t413 x100_3) 0)) == (rd t406 (rd (rd_L2 t413 x100_3) 1))) = true := beq_iff_eq.mpr c67
                               have c67b1 : ((rd t406 (rd (rd_L2 t413 x100_3) 0)) != (rd t406 (rd (rd_L2 t413 x100_3) 1))) = false := bne_eq_false_iff_eq.mpr c67
                               clear c67
                               by_cases c68 : (rd (rd_L2 t413 x100_3) 0) < (t409.length : Int)
                               ·rw [if_pos c68] at H
                                have c68b0 : decide ((rd (rd_L2 t413 x100_3) 0) < (t409.length : Int)) = true := decide_eq_true c68
                                clear c68
                                by_cases c69 : (rd (rd_L2 t413 x100_3) 1) < (t409.length : Int)
                                ·rw [if_pos c69] at H
                                 have c69b0 : decide ((rd (rd_L2 t413 x100_3) 1) < (t409.length : Int)) = true := decide_eq_true c69
                                 clear c69
                                 have H' := Aside0.mk H
                                 clear H
                                 have hcz70_0 : wr.cell? ⟨gb412, 0, none⟩ = some (.slice Ao14 t406.length co14) := (blk_cell BK412.out 0).trans rfl
                                 have hcz70_1 : wr.cell? ⟨gb412, 1, none⟩ = some (.slice Ao16 t409.length co16) := (blk_cell BK412.out 1).trans rfl
                                 have hfz70_0 := blk_frozen BK412.out 0
                                 have hfz70_1 := blk_frozen BK412.out 1
                                 have p436 : 0 ≤ ((rd (rd_L2 t413 x100_3) 0) : Int) := of_decide_eq_true (by first | (with_reducible assumption) | assumption)
                                 have q436 : (rd (rd_L2 t413 x100_3) 0) < (t406.length : Int) := of_decide_eq_true (by first | (with_reducible assumption) | assumption)
                                 obtain ⟨ad436, e436, hx436_0⟩ := Kd.at_int (Kd.R_reads' HO_413000.out).2.2 (rd (rd_L2 t413 x100_3) 0) p436 q436
                                 cases e436
                                 replace p436 := eq_true p436
                                 replace q436 := eq_true q436
                                 have p437 : 0 ≤ ((rd (rd_L2 t413 x100_3) 1) : Int) := of_decide_eq_true (by first | (with_reducible assumption) | assumption)
                                 have q437 : (rd (rd_L2 t413 x100_3) 1) < (t406.length : Int) := of_decide_eq_true (by first | (with_reducible assumption) | assumption)
                                 obtain ⟨ad437, e437, hx437_0⟩ := Kd.at_int (Kd.R_reads' HO_413000.out).2.2 (rd (rd_L2 t413 x100_3) 1) p437 q437
                                 obtain rfl : ad436 = ad437 := (by injection e437)
                                 replace p437 := eq_true p437
                                 replace q437 := eq_true q437
                                 have p438 : 0 ≤ ((rd (rd_L2 t413 x100_3) 0) : Int) := of_decide_eq_true (by first | (with_reducible assumption) | assumption)
                                 have q438 : (rd (rd_L2 t413 x100_3) 0) < (t409.length : Int) := of_decide_eq_true (by first | (with_reducible assumption) | assumption)
                                 obtain ⟨ad438, e438, hx438_0⟩ := Kd.at_int (Kd.R_reads' HO_413001.out).2.2 (rd (rd_L2 t413 x100_3) 0) p438 q438
                                 cases e438
                                 replace p438 := eq_true p438
                                 replace q438 := eq_true q438
                                 have p439 : 0 ≤ ((rd (rd_L2 t413 x100_3) 1) : Int) := of_decide_eq_true (by first | (with_reducible assumption) | assumption)
                                 have q439 : (rd (rd_L2 t413 x100_3) 1) < (t409.length : Int) := of_decide_eq_true (by first | (with_reducible assumption) | assumption)
                                 obtain ⟨ad439, e439, hx439_0⟩ := Kd.at_int (Kd.R_reads' HO_413001.out).2.2 (rd (rd_L2 t413 x100_3) 1) p439 q439
                                 obtain rfl : ad438 = ad439 := (by injection e439)
                                 replace p439 := eq_true p439
                                 replace q439 := eq_true q439
                                 go_wp2
                                 repeat (go_quiet (fail); try go_wp2)
                                 go_meet
                                 case rel => exact ⟨_, (decide ((rd t409 (rd (rd_L2 t413 x100_3) 0)) < (rd t409 (rd (rd_L2 t413 x100_3) 1)))), (by first | rfl | (simp; done) | (simp [*]; done)), H', ⟨by have := HJ10.out; have := HJ48.out; have := HK3.out; first | omega | exact Nat.le_refl _⟩, ⟨by (with_reducible repeat (first | apply Kd.R_alloc | apply Kd.R_drewN | apply Kd.R_drew)); exact HO_12.out⟩, ⟨by (with_reducible repeat (first | apply Kd.S_alloc | apply Kd.S_drewN | apply Kd.S_drew)); exact HO_98.out⟩, ⟨by (with_reducible repeat (first | apply Kd.R_alloc | apply Kd.R_drewN | apply Kd.R_drew)); exact HO_413000.out⟩, ⟨by (with_reducible repeat (first | apply Kd.R_alloc | apply Kd.R_drewN | apply Kd.R_drew)); exact HO_413001.out⟩, ⟨by (with_reducible repeat (first | refine blk_drewN ?_ _ | refine blk_drew ?_ | refine blk_alloc ?_ _)); exact BK412.out⟩, ⟨by repeat (first | (with_reducible exact HR433_0.out) | (with_reducible refine Kd.C_alloc ?_ _) | (with_reducible refine Kd.C_drewN ?_ _) | (with_reducible refine Kd.C_drew ?_) | exact HR433_0.out)⟩, ⟨by repeat (first | (with_reducible first | exact HB.out | apply below_alloc | apply pw_below_drewN | apply below_drew1 | refine below_set ?_ GE412.out) | exact HB.out)⟩⟩
                                ·rw [if_neg c69] at H
                                 exact absurd H (by simp)
                               ·rw [if_neg c68] at H
                                exact absurd H (by simp)
                              ·rw [if_neg c67] at H
                               have c67b0 : ((rd t406 (rd (rd_L2 t413 x100_3) 0)) == (rd t406 (rd (rd_L2 t413 x100_3) 1))) = false := beq_eq_false_iff_ne.mpr c67
                               have c67b1 : ((rd t406 (rd (rd_L2 t413 x100_3) 0)) != (rd t406 (rd (rd_L2 t413 x100_3) 1))) = true := bne_iff_ne.mpr c67
                               have H' := Aside0.mk H
                               clear H
                               have hcz71_0 : wr.cell? ⟨gb412, 0, none⟩ = some (.slice Ao14 t406.length co14) := (blk_cell BK412.out 0).trans rfl
                               have hcz71_1 : wr.cell? ⟨gb412, 1, none⟩ = some (.slice Ao16 t409.length co16) := (blk_cell BK412.out 1).trans rfl
                               have hfz71_0 := blk_frozen BK412.out 0
                               have hfz71_1 := blk_frozen BK412.out 1
                               have p436 : 0 ≤ ((rd (rd_L2 t413 x100_3) 0) : Int) := of_decide_eq_true (by first | (with_reducible assumption) | assumption)
                               have q436 : (rd (rd_L2 t413 x100_3) 0) < (t406.length : Int) := of_decide_eq_true (by first | (with_reducible assumption) | assumption)
                               obtain ⟨ad436, e436, hx436_0⟩ := Kd.at_int (Kd.R_reads' HO_413000.out).2.2 (rd (rd_L2 t413 x100_3) 0) p436 q436
                               cases e436
                               replace p436 := eq_true p436
                               replace q436 := eq_true q436
                               have p437 : 0 ≤ ((rd (rd_L2 t413 x100_3) 1) : Int) := of_decide_eq_true (by first | (with_reducible assumption) | assumption)
                               have q437 : (rd (rd_L2 t413 x100_3) 1) < (t406.length : Int) := of_decide_eq_true (by first | (with_reducible assumption) | assumption)
                               obtain ⟨ad437, e437, hx437_0⟩ := Kd.at_int (Kd.R_reads' HO_413000.out).2.2 (rd (rd_L2 t413 x100_3) 1) p437 q437
                               obtain rfl : ad436 = ad437 := (by injection e437)
                               replace p437 := eq_true p437
                               replace q437 := eq_true q437
                               go_wp2
                               repeat (go_quiet (fail); try go_wp2)
                               go_meet
                               case rel => exact ⟨_, (false), (by first | rfl | (simp; done) | (simp [*]; done)), H', ⟨by have := HJ10.out; have := HJ48.out; have := HK3.out; first | omega | exact Nat.le_refl _⟩, ⟨by (with_reducible repeat (first | apply Kd.R_alloc | apply Kd.R_drewN | apply Kd.R_drew)); exact HO_12.out⟩, ⟨by (with_reducible repeat (first | apply Kd.S_alloc | apply Kd.S_drewN | apply Kd.S_drew)); exact HO_98.out⟩, ⟨by (with_reducible repeat (first | apply Kd.R_alloc | apply Kd.R_drewN | apply Kd.R_drew)); exact HO_413000.out⟩, ⟨by (with_reducible repeat (first | apply Kd.R_alloc | apply Kd.R_drewN | apply Kd.R_drew)); exact HO_413001.out⟩, ⟨by (with_reducible repeat (first | refine blk_drewN ?_ _ | refine blk_drew ?_ | refine blk_alloc ?_ _)); exact BK412.out⟩, ⟨by repeat (first | (with_reducible exact HR433_0.out) | (with_reducible refine Kd.C_alloc ?_ _) | (with_reducible refine Kd.C_drewN ?_ _) | (with_reducible refine Kd.C_drew ?_) | exact HR433_0.out)⟩, ⟨by repeat (first | (with_reducible first | exact HB.out | apply below_alloc | apply pw_below_drewN | apply below_drew1 | refine below_set ?_ GE412.out) | exact HB.out)⟩⟩
                             ·rw [if_neg c66] at H
                              exact absurd H (by simp)
                            ·rw [if_neg c65] at H
                             exact absurd H (by simp)
                           ·rw [if_neg c64] at H
                            exact absurd H (by simp)
                          ·rw [if_neg c63] at H
                           exact absurd H (by simp)
                         case rest =>
                          clear HC62
                          try clear c1
                          try clear c2
                          try clear p2
                          try clear c3
                          try clear c4
                          try clear p4
                          try clear q4
                          try clear hx4
                          try clear qi4
                          try clear c5
                          try clear c6
                          try clear c26
                          try clear c26b0
                          try clear c26b1
                          try clear c26b2
                          try clear c28
                          try clear c29
                          try clear c29b0
                          try clear c29b1
                          try clear c29b2
                          try clear c32
                          try clear c32b0
                          try clear c32b1
                          try clear c32b2
                          try clear c36
                          try clear c43
                          try clear p43
                          try clear q43
                          try clear hx43
                          try clear qi43
                          try clear c47
                          try clear c48
                          try clear c50
                          try clear c50b0
                          try clear c50b1
                          try clear c55
                          try clear c57
                          try clear c57b0
                          try clear c58
                          try clear c58b0
                          try clear c59
                          try clear c59b0
                          try clear c60
                          try clear c60b0
                          try clear c60b1
                          try clear c61
                          try clear c61b0
                          try clear c61b1
                          try clear c63
                          try clear c63b0
                          try clear c63b1
                          try clear c64
                          try clear c64b0
                          try clear c65
                          try clear c65b0
                          try clear c66
                          try clear c66b0
                          try clear c67
                          try clear c67b0
                          try clear c67b1
                          try clear c68
                          try clear c68b0
                          try clear c69
                          try clear c69b0
                          try clear hcz15_0
                          try clear hcz15_1
                          try clear hcz18_0
                          try clear hcz18_1
                          try clear hcz20_0
                          try clear hcz20_1
                          try clear hcz22_0
                          try clear hcz22_1
                          try clear hcz24_0
                          try clear hcz24_1
                          try clear hcz53_0
                          try clear hcz53_1
                          try clear hcz70_0
                          try clear hcz70_1
                          try clear hcz71_0
                          try clear hcz71_1
                          try clear hfz15_0
                          try clear hfz15_1
                          try clear hfz18_0
                          try clear hfz18_1
                          try clear hfz20_0
                          try clear hfz20_1
                          try clear hfz22_0
                          try clear hfz22_1
                          try clear hfz24_0
                          try clear hfz24_1
                          try clear hfz53_0
                          try clear hfz53_1
                          try clear hfz70_0
                          try clear hfz70_1
                          try clear hfz71_0
                          try clear hfz71_1
                          try clear hx433_0
                          try clear hx434_0
                          try clear hx435_0
                          try clear hx436_0
                          try clear hx437_0
                          try clear hx438_0
                          try clear hx439_0
                          try clear p2
                          try clear p433
                          try clear p434
                          try clear p435
                          try clear p436
                          try clear p437
                          try clear p438
                          try clear p439
                          try clear q433
                          try clear q434
                          try clear q435
                          try clear q436
                          try clear q437
                          try clear q438
                          try clear q439
                          obtain ⟨kq, x20_61, rfl, HA, HJ61, HO_12, HO_98, HO_413000, HO_413001, BK412, HR433_0, HB⟩ := hcut
                          cases kq with
                          | zero => exact absurd HA.out (by simp [laws_FnPairsOfWalks.j3])
                          | succ kj61 =>
                           have H := HA.out
                           clear HA
                           simp only [laws_FnPairsOfWalks.j3] at H
                           have HC72 := Aside0.mk H
                           clear H
                           go_upto_region 20 with (fail)
                           repeat (go_quiet (fail); go_upto_region 20 with (fail))
                           go_cut [21] (fun v21 wc => ∃ (kq : Nat) (x21_71 : Bool), v21 = .bool x21_71 ∧ Aside0 (laws_FnPairsOfWalks.j4 kq t423 (rd (rd_L2 t413 x100_3) 0) (rd (rd_L2 t413 x100_3) 1) x20_61 x21_71 t413 (t413.length : Int) x100_3 t406 t409 = some r) ∧ Aside0 (kq ≤ kj61) ∧ Aside0 (Kd.R (Kd.int .i64) 3 wc w.heap.size (fun k_ => some k_ ≠ ((.slice Ao14 t406.length co14) : Value).ownBlock ∧ some k_ ≠ ((.slice Ao16 t409.length co16) : Value).ownBlock) v424 t423) ∧ Aside0 (Kd.S (Kd.slice 3 (Kd.int .i64)) 24 wc w.heap.size (fun k_ => some k_ ≠ (v424 : Value).ownBlock ∧ some k_ ≠ ((.slice Ao14 t406.length co14) : Value).ownBlock ∧ some k_ ≠ ((.slice Ao16 t409.length co16) : Value).ownBlock) (.slice (some ad433) t413.length co56) t413) ∧ Aside0 (Kd.R (Kd.int .i64) 3 wc w.heap.size (fun k_ => some k_ ≠ (v424 : Value).ownBlock ∧ some k_ ≠ ((.slice Ao16 t409.length co16) : Value).ownBlock) (.slice Ao14 t406.length co14) t406) ∧ Aside0 (Kd.R (Kd.int .i64) 3 wc w.heap.size (fun k_ => some k_ ≠ (v424 : Value).ownBlock ∧ some k_ ≠ ((.slice Ao14 t406.length co14) : Value).ownBlock) (.slice Ao16 t409.length co16) t409) ∧ Aside0 (wc.heap[gb412]? = some (.cells #[(.slice Ao14 t406.length co14), (.slice Ao16 t409.length co16)] 26 (0, 0))) ∧ Aside0 (Kd.C (Kd.int .i64) wc (some ad434) (rd_L2 t413 x100_3).length (rd_L2 t413 x100_3)) ∧ Aside0 (Below w.heap.size w wc))
                           case first =>
                            have H := HC72.out
                            clear HC72
                            by_cases c73 : 0 ≤ (rd (rd_L2 t413 x100_3) 0)
                            ·rw [if_pos c73] at H
                             have c73b0 : decide (0 ≤ (rd (rd_L2 t413 x100_3) 0)) = true := decide_eq_true c73
                             clear c73
                             (first | rw [c73b0] | (simp only [i64_w, i32_w]; rw [c73b0]) | rw [c73b1] | skip)
                             by_cases c74 : (rd (rd_L2 t413 x100_3) 0) < (t406.length : Int)
                             ·rw [if_pos c74] at H
                              have c74b0 : decide ((rd (rd_L2 t413 x100_3) 0) < (t406.length : Int)) = true := decide_eq_true c74
                              clear c74
                              by_cases c75 : 0 ≤ (rd (rd_L2 t413 x100_3) 1)
                              ·rw [if_pos c75] at H
                               have c75b0 : decide (0 ≤ (rd (rd_L2 t413 x100_3) 1)) = true := decide_eq_true c75
                               clear c75
                               by_cases c76 : (rd (rd_L2 t413 x100_3) 1) < (t406.length : Int)
                               ·rw [if_pos c76] at H
                                have c76b0 : decide ((rd (rd_L2 t413 x100_3) 1) < (t406.length : Int)) = true := decide_eq_true c76
                                clear c76
                                by_cases c77 : (rd t406 (rd (rd_L2 t413 x100_3) 0)) = (wrap64 ((rd t406 (rd (rd_L2 t413 x100_3) 1)) + 1))
                                ·rw [if_pos c77] at H
                                 have c77b0 : ((rd t406 (rd (rd_L2 t413 x100_3) 0)) == (wrap64 ((rd t406 (rd (rd_L2 t413 x100_3) 1)) + 1))) = true := beq_iff_eq.mpr c77
                                 have c77b1 : ((rd t406 (rd (rd_L2 t413 x100_3) 0)) != (wrap64 ((rd t406 (rd (rd_L2 t413 x100_3) 1)) + 1))) = false := bne_eq_false_iff_eq.mpr c77
                                 clear c77
                                 by_cases c78 : (rd (rd_L2 t413 x100_3) 0) < (t409.length : Int)
                                 ·rw [if_pos c78] at H
                                  have c78b0 : decide ((rd (rd_L2 t413 x100_3) 0) < (t409.length : Int)) = true := decide_eq_true c78
                                  clear c78
                                  by_cases c79 : (rd (rd_L2 t413 x100_3) 1) < (t409.length : Int)
                                  ·rw [if_pos c79] at H
                                   have c79b0 : decide ((rd (rd_L2 t413 x100_3) 1) < (t409.length : Int)) = true := decide_eq_true c79
                                   clear c79
                                   have H' := Aside0.mk H
                                   clear H
                                   have hcz80_0 : wc.cell? ⟨gb412, 0, none⟩ = some (.slice Ao14 t406.length co14) := (blk_cell BK412.out 0).trans rfl
                                   have hcz80_1 : wc.cell? ⟨gb412, 1, none⟩ = some (.slice Ao16 t409.length co16) := (blk_cell BK412.out 1).trans rfl
                                   have hfz80_0 := blk_frozen BK412.out 0
                                   have hfz80_1 := blk_frozen BK412.out 1
                                   have p440 : 0 ≤ ((rd (rd_L2 t413 x100_3) 0) : Int) := of_decide_eq_true (by first | (with_reducible assumption) | assumption)
                                   have q440 : (rd (rd_L2 t413 x100_3) 0) < (t406.length : Int) := of_decide_eq_true (by first | (with_reducible assumption) | assumption)
                                   obtain ⟨ad440, e440, hx440_0⟩ := Kd.at_int (Kd.R_reads' HO_413000.out).2.2 (rd (rd_L2 t413 x100_3) 0) p440 q440
                                   cases e440
                                   replace p440 := eq_true p440
                                   replace q440 := eq_true q440
                                   have p441 : 0 ≤ ((rd (rd_L2 t413 x100_3) 1) : Int) := of_decide_eq_true (by first | (with_reducible assumption) | assumption)
                                   have q441 : (rd (rd_L2 t413 x100_3) 1) < (t406.length : Int) := of_decide_eq_true (by first | (with_reducible assumption) | assumption)
                                   obtain ⟨ad441, e441, hx441_0⟩ := Kd.at_int (Kd.R_reads' HO_413000.out).2.2 (rd (rd_L2 t413 x100_3) 1) p441 q441
                                   obtain rfl : ad440 = ad441 := (by injection e441)
                                   replace p441 := eq_true p441
                                   replace q441 := eq_true q441
                                   have p442 : 0 ≤ ((rd (rd_L2 t413 x100_3) 0) : Int) := of_decide_eq_true (by first | (with_reducible assumption) | assumption)
                                   have q442 : (rd (rd_L2 t413 x100_3) 0) < (t409.length : Int) := of_decide_eq_true (by first | (with_reducible assumption) | assumption)
                                   obtain ⟨ad442, e442, hx442_0⟩ := Kd.at_int (Kd.R_reads' HO_413001.out).2.2 (rd (rd_L2 t413 x100_3) 0) p442 q442
                                   cases e442
                                   replace p442 := eq_true p442
                                   replace q442 := eq_true q442
                                   have p443 : 0 ≤ ((rd (rd_L2 t413 x100_3) 1) : Int) := of_decide_eq_true (by first | (with_reducible assumption) | assumption)
                                   have q443 : (rd (rd_L2 t413 x100_3) 1) < (t409.length : Int) := of_decide_eq_true (by first | (with_reducible assumption) | assumption)
                                   obtain ⟨ad443, e443, hx443_0⟩ := Kd.at_int (Kd.R_reads' HO_413001.out).2.2 (rd (rd_L2 t413 x100_3) 1) p443 q443
                                   obtain rfl : ad442 = ad443 := (by injection e443)
                                   replace p443 := eq_true p443
                                   replace q443 := eq_true q443
                                   go_wp2
                                   repeat (go_quiet (fail); try go_wp2)
                                   go_meet
                                   case rel => exact ⟨_, (decide ((rd t409 (rd (rd_L2 t413 x100_3) 0)) > (rd t409 (rd (rd_L2 t413 x100_3) 1)))), (by first | rfl | (simp; done) | (simp [*]; done)), H', ⟨by have := HJ10.out; have := HJ48.out; have := HK3.out; have := HJ61.out; first | omega | exact Nat.le_refl _⟩, ⟨by (with_reducible repeat (first | apply Kd.R_alloc | apply Kd.R_drewN | apply Kd.R_drew)); exact HO_12.out⟩, ⟨by (with_reducible repeat (first | apply Kd.S_alloc | apply Kd.S_drewN | apply Kd.S_drew)); exact HO_98.out⟩, ⟨by (with_reducible repeat (first | apply Kd.R_alloc | apply Kd.R_drewN | apply Kd.R_drew)); exact HO_413000.out⟩, ⟨by (with_reducible repeat (first | apply Kd.R_alloc | apply Kd.R_drewN | apply Kd.R_drew)); exact HO_413001.out⟩, ⟨by (with_reducible repeat (first | refine blk_drewN ?_ _ | refine blk_drew ?_ | refine blk_alloc ?_ _)); exact BK412.out⟩, ⟨by repeat (first | (with_reducible exact HR433_0.out) | (with_reducible refine Kd.C_alloc ?_ _) | (with_reducible refine Kd.C_drewN ?_ _) | (with_reducible refine Kd.C_drew ?_) | exact HR433_0.out)⟩, ⟨by repeat (first | (with_reducible first | exact HB.out | apply below_alloc | apply pw_below_drewN | apply below_drew1 | refine below_set ?_ GE412.out) | exact HB.out)⟩⟩
                                  ·rw [if_neg c79] at H
                                   exact absurd H (by simp)
                                 ·rw [if_neg c78] at H
                                  exact absurd H (by simp)
                                ·rw [if_neg c77] at H
                                 have c77b0 : ((rd t406 (rd (rd_L2 t413 x100_3) 0)) == (wrap64 ((rd t406 (rd (rd_L2 t413 x100_3) 1)) + 1))) = false := beq_eq_false_iff_ne.mpr c77
                                 have c77b1 : ((rd t406 (rd (rd_L2 t413 x100_3) 0)) != (wrap64 ((rd t406 (rd (rd_L2 t413 x100_3) 1)) + 1))) = true := bne_iff_ne.mpr c77
                                 have H' := Aside0.mk H
                                 clear H
                                 have hcz81_0 : wc.cell? ⟨gb412, 0, none⟩ = some (.slice Ao14 t406.length co14) := (blk_cell BK412.out 0).trans rfl
                                 have hcz81_1 : wc.cell? ⟨gb412, 1, none⟩ = some (.slice Ao16 t409.length co16) := (blk_cell BK412.out 1).trans rfl
                                 have hfz81_0 := blk_frozen BK412.out 0
                                 have hfz81_1 := blk_frozen BK412.out 1
                                 have p440 : 0 ≤ ((rd (rd_L2 t413 x100_3) 0) : Int) := of_decide_eq_true (by first | (with_reducible assumption) | assumption)
                                 have q440 : (rd (rd_L2 t413 x100_3) 0) < (t406.length : Int) := of_decide_eq_true (by first | (with_reducible assumption) | assumption)
                                 obtain ⟨ad440, e440, hx440_0⟩ := Kd.at_int (Kd.R_reads' HO_413000.out).2.2 (rd (rd_L2 t413 x100_3) 0) p440 q440
                                 cases e440
                                 replace p440 := eq_true p440
                                 replace q440 := eq_true q440
                                 have p441 : 0 ≤ ((rd (rd_L2 t413 x100_3) 1) : Int) := of_decide_eq_true (by first | (with_reducible assumption) | assumption)
                                 have q441 : (rd (rd_L2 t413 x100_3) 1) < (t406.length : Int) := of_decide_eq_true (by first | (with_reducible assumption) | assumption)
                                 obtain ⟨ad441, e441, hx441_0⟩ := Kd.at_int (Kd.R_reads' HO_413000.out).2.2 (rd (rd_L2 t413 x100_3) 1) p441 q441
                                 obtain rfl : ad440 = ad441 := (by injection e441)
                                 replace p441 := eq_true p441
                                 replace q441 := eq_true q441
                                 go_wp2
                                 repeat (go_quiet (fail); try go_wp2)
                                 go_meet
                                 case rel => exact ⟨_, (false), (by first | rfl | (simp; done) | (simp [*]; done)), H', ⟨by have := HJ10.out; have := HJ48.out; have := HK3.out; have := HJ61.out; first | omega | exact Nat.le_refl _⟩, ⟨by (with_reducible repeat (first | apply Kd.R_alloc | apply Kd.R_drewN | apply Kd.R_drew)); exact HO_12.out⟩, ⟨by (with_reducible repeat (first | apply Kd.S_alloc | apply Kd.S_drewN | apply Kd.S_drew)); exact HO_98.out⟩, ⟨by (with_reducible repeat (first | apply Kd.R_alloc | apply Kd.R_drewN | apply Kd.R_drew)); exact HO_413000.out⟩, ⟨by (with_reducible repeat (first | apply Kd.R_alloc | apply Kd.R_drewN | apply Kd.R_drew)); exact HO_413001.out⟩, ⟨by (with_reducible repeat (first | refine blk_drewN ?_ _ | refine blk_drew ?_ | refine blk_alloc ?_ _)); exact BK412.out⟩, ⟨by repeat (first | (with_reducible exact HR433_0.out) | (with_reducible refine Kd.C_alloc ?_ _) | (with_reducible refine Kd.C_drewN ?_ _) | (with_reducible refine Kd.C_drew ?_) | exact HR433_0.out)⟩, ⟨by repeat (first | (with_reducible first | exact HB.out | apply below_alloc | apply pw_below_drewN | apply below_drew1 | refine below_set ?_ GE412.out) | exact HB.out)⟩⟩
                               ·rw [if_neg c76] at H
                                exact absurd H (by simp)
                              ·rw [if_neg c75] at H
                               exact absurd H (by simp)
                             ·rw [if_neg c74] at H
                              exact absurd H (by simp)
                            ·rw [if_neg c73] at H
                             exact absurd H (by simp)
                           case rest =>
                            clear HC72
                            try clear c1
                            try clear c2
                            try clear p2
                            try clear c3
                            try clear c4
                            try clear p4
                            try clear q4
                            try clear hx4
                            try clear qi4
                            try clear c5
                            try clear c6
                            try clear p6
                            try clear c7
                            try clear c26
                            try clear c26b0
                            try clear c26b1
                            try clear c26b2
                            try clear c28
                            try clear c29
                            try clear c29b0
                            try clear c29b1
                            try clear c29b2
                            try clear c32
                            try clear c32b0
                            try clear c32b1
                            try clear c32b2
                            try clear c36
                            try clear c43
                            try clear p43
                            try clear q43
                            try clear hx43
                            try clear qi43
                            try clear p44
                            try clear q44
                            try clear hx44
                            try clear c47
                            try clear c48
                            try clear c50
                            try clear c50b0
                            try clear c50b1
                            try clear c55
                            try clear c57
                            try clear c57b0
                            try clear c58
                            try clear c58b0
                            try clear c59
                            try clear c59b0
                            try clear c60
                            try clear c60b0
                            try clear c60b1
                            try clear c61
                            try clear c61b0
                            try clear c61b1
                            try clear c63
                            try clear c63b0
                            try clear c63b1
                            try clear c64
                            try clear c64b0
                            try clear p64
                            try clear c65
                            try clear c65b0
                            try clear c66
                            try clear c66b0
                            try clear c67
                            try clear c67b0
                            try clear c67b1
                            try clear c68
                            try clear c68b0
                            try clear c69
                            try clear c69b0
                            try clear c73
                            try clear c73b0
                            try clear c73b1
                            try clear c74
                            try clear c74b0
                            try clear c75
                            try clear c75b0
                            try clear c76
                            try clear c76b0
                            try clear c77
                            try clear c77b0
                            try clear c77b1
                            try clear c78
                            try clear c78b0
                            try clear c79
                            try clear c79b0
                            try clear hcz15_0
                            try clear hcz15_1
                            try clear hcz18_0
                            try clear hcz18_1
                            try clear hcz20_0
                            try clear hcz20_1
                            try clear hcz22_0
                            try clear hcz22_1
                            try clear hcz24_0
                            try clear hcz24_1
                            try clear hcz53_0
                            try clear hcz53_1
                            try clear hcz70_0
                            try clear hcz70_1
                            try clear hcz71_0
                            try clear hcz71_1
                            try clear hcz80_0
                            try clear hcz80_1
                            try clear hcz81_0
                            try clear hcz81_1
                            try clear hfz15_0
                            try clear hfz15_1
                            try clear hfz18_0
                            try clear hfz18_1
                            try clear hfz20_0
                            try clear hfz20_1
                            try clear hfz22_0
                            try clear hfz22_1
                            try clear hfz24_0
                            try clear hfz24_1
                            try clear hfz53_0
                            try clear hfz53_1
                            try clear hfz70_0
                            try clear hfz70_1
                            try clear hfz71_0
                            try clear hfz71_1
                            try clear hfz80_0
                            try clear hfz80_1
                            try clear hfz81_0
                            try clear hfz81_1
                            try clear hx433_0
                            try clear hx434_0
                            try clear hx435_0
                            try clear hx436_0
                            try clear hx437_0
                            try clear hx438_0
                            try clear hx439_0
                            try clear hx440_0
                            try clear hx441_0
                            try clear hx442_0
                            try clear hx443_0
                            try clear p2
                            try clear p4
                            try clear p43
                            try clear p433
                            try clear p434
                            try clear p435
                            try clear p436
                            try clear p437
                            try clear p438
                            try clear p439
                            try clear p440
                            try clear p441
                            try clear p442
                            try clear p443
                            try clear q4
                            try clear q43
                            try clear q433
                            try clear q434
                            try clear q435
                            try clear q436
                            try clear q437
                            try clear q438
                            try clear q439
                            try clear q440
                            try clear q441
                            try clear q442
                            try clear q443
                            obtain ⟨kq, x21_71, rfl, HA, HJ71, HO_12, HO_98, HO_413000, HO_413001, BK412, HR433_0, HB⟩ := hcut
                            cases kq with
                            | zero => exact absurd HA.out (by simp [laws_FnPairsOfWalks.j4])
                            | succ kj71 =>
                             have H := HA.out
                             clear HA
                             simp only [laws_FnPairsOfWalks.j4] at H
                             have HC82 := Aside0.mk H
                             clear H
                             go_upto_if 161 with (fail)
                             repeat (go_quiet (fail); go_upto_if 161 with (fail))
                             go_cut [22, 23] (fun v22 v23 wc => ∃ (kq : Nat) (x22_81 : Int) (x23_81 : Int), v22 = .int .i64 x22_81 ∧ v23 = .int .i64 x23_81 ∧ Aside0 (laws_FnPairsOfWalks.j5 kq t423 (rd (rd_L2 t413 x100_3) 0) (rd (rd_L2 t413 x100_3) 1) x20_61 x21_71 x22_81 x23_81 t413 (t413.length : Int) x100_3 t406 t409 = some r) ∧ Aside0 (kq ≤ kj71) ∧ Aside0 (Kd.R (Kd.int .i64) 3 wc w.heap.size (fun k_ => some k_ ≠ ((.slice Ao14 t406.length co14) : Value).ownBlock ∧ some k_ ≠ ((.slice Ao16 t409.length co16) : Value).ownBlock) v424 t423) ∧ Aside0 (Kd.S (Kd.slice 3 (Kd.int .i64)) 24 wc w.heap.size (fun k_ => some k_ ≠ (v424 : Value).ownBlock ∧ some k_ ≠ ((.slice Ao14 t406.length co14) : Value).ownBlock ∧ some k_ ≠ ((.slice Ao16 t409.length co16) : Value).ownBlock) (.slice (some ad433) t413.length co56) t413) ∧ Aside0 (Kd.R (Kd.int .i64) 3 wc w.heap.size (fun k_ => some k_ ≠ (v424 : Value).ownBlock ∧ some k_ ≠ ((.slice Ao16 t409.length co16) : Value).ownBlock) (.slice Ao14 t406.length co14) t406) ∧ Aside0 (Kd.R (Kd.int .i64) 3 wc w.heap.size (fun k_ => some k_ ≠ (v424 : Value).ownBlock ∧ some k_ ≠ ((.slice Ao14 t406.length co14) : Value).ownBlock) (.slice Ao16 t409.length co16) t409) ∧ Aside0 (wc.heap[gb412]? = some (.cells #[(.slice Ao14 t406.length co14), (.slice Ao16 t409.length co16)] 26 (0, 0))) ∧ Aside0 (Kd.C (Kd.int .i64) wc (some ad434) (rd_L2 t413 x100_3).length (rd_L2 t413 x100_3)) ∧ Aside0 (Below w.heap.size w wc))
                             case first =>
                              have H := HC82.out
                              clear HC82
                              by_cases c83 : x21_71 = true
                              ·subst c83
                               have H1 : (laws_FnPairsOfWalks.j5 kj71 t423 (rd (rd_L2 t413 x100_3) 0) (rd (rd_L2 t413 x100_3) 1) x20_61 true (rd (rd_L2 t413 x100_3) 1) (rd (rd_L2 t413 x100_3) 0) t413 (t413.length : Int) x100_3 t406 t409) = some r := by rw [if_pos rfl] at H; exact H
                               clear H
                               have H := H1
                               clear H1
                               have H' := Aside0.mk H
                               clear H
                               go_wp2
                               repeat (go_quiet (fail); try go_wp2)
                               go_meet
                               case rel => exact ⟨_, ((rd (rd_L2 t413 x100_3) 1)), ((rd (rd_L2 t413 x100_3) 0)), (by first | rfl | (simp; done) | (simp [*]; done)), (by first | rfl | (simp; done) | (simp [*]; done)), H', ⟨by have := HJ10.out; have := HJ48.out; have := HK3.out; have := HJ61.out; have := HJ71.out; first | omega | exact Nat.le_refl _⟩, ⟨by (with_reducible repeat (first | apply Kd.R_alloc | apply Kd.R_drewN | apply Kd.R_drew)); exact HO_12.out⟩, ⟨by (with_reducible repeat (first | apply Kd.S_alloc | apply Kd.S_drewN | apply Kd.S_drew)); exact HO_98.out⟩, ⟨by (with_reducible repeat (first | apply Kd.R_alloc | apply Kd.R_drewN | apply Kd.R_drew)); exact HO_413000.out⟩, ⟨by (with_reducible repeat (first | apply Kd.R_alloc | apply Kd.R_drewN | apply Kd.R_drew)); exact HO_413001.out⟩, ⟨by (with_reducible repeat (first | refine blk_drewN ?_ _ | refine blk_drew ?_ | refine blk_alloc ?_ _)); exact BK412.out⟩, ⟨by repeat (first | (with_reducible exact HR433_0.out) | (with_reducible refine Kd.C_alloc ?_ _) | (with_reducible refine Kd.C_drewN ?_ _) | (with_reducible refine Kd.C_drew ?_) | exact HR433_0.out)⟩, ⟨by repeat (first | (with_reducible first | exact HB.out | apply below_alloc | apply pw_below_drewN | apply below_drew1 | refine below_set ?_ GE412.out) | exact HB.out)⟩⟩
                              ·replace c83 := Bool.eq_false_iff.mpr c83
                               subst c83
                               have H1 : (laws_FnPairsOfWalks.j5 kj71 t423 (rd (rd_L2 t413 x100_3) 0) (rd (rd_L2 t413 x100_3) 1) x20_61 false (rd (rd_L2 t413 x100_3) 0) (rd (rd_L2 t413 x100_3) 1) t413 (t413.length : Int) x100_3 t406 t409) = some r := by rw [if_neg (show ¬ (false = true) by decide)] at H; exact H
                               clear H
                               have H := H1
                               clear H1
                               have H' := Aside0.mk H
                               clear H
                               go_wp2
                               repeat (go_quiet (fail); try go_wp2)
                               go_meet
                               case rel => exact ⟨_, ((rd (rd_L2 t413 x100_3) 0)), ((rd (rd_L2 t413 x100_3) 1)), (by first | rfl | (simp; done) | (simp [*]; done)), (by first | rfl | (simp; done) | (simp [*]; done)), H', ⟨by have := HJ10.out; have := HJ48.out; have := HK3.out; have := HJ61.out; have := HJ71.out; first | omega | exact Nat.le_refl _⟩, ⟨by (with_reducible repeat (first | apply Kd.R_alloc | apply Kd.R_drewN | apply Kd.R_drew)); exact HO_12.out⟩, ⟨by (with_reducible repeat (first | apply Kd.S_alloc | apply Kd.S_drewN | apply Kd.S_drew)); exact HO_98.out⟩, ⟨by (with_reducible repeat (first | apply Kd.R_alloc | apply Kd.R_drewN | apply Kd.R_drew)); exact HO_413000.out⟩, ⟨by (with_reducible repeat (first | apply Kd.R_alloc | apply Kd.R_drewN | apply Kd.R_drew)); exact HO_413001.out⟩, ⟨by (with_reducible repeat (first | refine blk_drewN ?_ _ | refine blk_drew ?_ | refine blk_alloc ?_ _)); exact BK412.out⟩, ⟨by repeat (first | (with_reducible exact HR433_0.out) | (with_reducible refine Kd.C_alloc ?_ _) | (with_reducible refine Kd.C_drewN ?_ _) | (with_reducible refine Kd.C_drew ?_) | exact HR433_0.out)⟩, ⟨by repeat (first | (with_reducible first | exact HB.out | apply below_alloc | apply pw_below_drewN | apply below_drew1 | refine below_set ?_ GE412.out) | exact HB.out)⟩⟩
                             case rest =>
                              clear HC82
                              try clear c1
                              try clear c2
                              try clear p2
                              try clear c3
                              try clear c4
                              try clear p4
                              try clear q4
                              try clear hx4
                              try clear qi4
                              try clear c5
                              try clear c6
                              try clear p6
                              try clear c7
                              try clear c8
                              try clear c26
                              try clear c26b0
                              try clear c26b1
                              try clear c26b2
                              try clear c28
                              try clear c29
                              try clear c29b0
                              try clear c29b1
                              try clear c29b2
                              try clear c32
                              try clear c32b0
                              try clear c32b1
                              try clear c32b2
                              try clear c36
                              try clear c43
                              try clear p43
                              try clear q43
                              try clear hx43
                              try clear qi43
                              try clear p44
                              try clear q44
                              try clear hx44
                              try clear c47
                              try clear c48
                              try clear c50
                              try clear c50b0
                              try clear c50b1
                              try clear c55
                              try clear c57
                              try clear c57b0
                              try clear c58
                              try clear c58b0
                              try clear c59
                              try clear c59b0
                              try clear c60
                              try clear c60b0
                              try clear c60b1
                              try clear c61
                              try clear c61b0
                              try clear c61b1
                              try clear c63
                              try clear c63b0
                              try clear c63b1
                              try clear c64
                              try clear c64b0
                              try clear p64
                              try clear c65
                              try clear c65b0
                              try clear c66
                              try clear c66b0
                              try clear c67
                              try clear c67b0
                              try clear c67b1
                              try clear c68
                              try clear c68b0
                              try clear c69
                              try clear c69b0
                              try clear c73
                              try clear c73b0
                              try clear c73b1
                              try clear c74
                              try clear c74b0
                              try clear c75
                              try clear c75b0
                              try clear c76
                              try clear c76b0
                              try clear c77
                              try clear c77b0
                              try clear c77b1
                              try clear c78
                              try clear c78b0
                              try clear c79
                              try clear c79b0
                              try clear c83
                              try clear hcz15_0
                              try clear hcz15_1
                              try clear hcz18_0
                              try clear hcz18_1
                              try clear hcz20_0
                              try clear hcz20_1
                              try clear hcz22_0
                              try clear hcz22_1
                              try clear hcz24_0
                              try clear hcz24_1
                              try clear hcz53_0
                              try clear hcz53_1
                              try clear hcz70_0
                              try clear hcz70_1
                              try clear hcz71_0
                              try clear hcz71_1
                              try clear hcz80_0
                              try clear hcz80_1
                              try clear hcz81_0
                              try clear hcz81_1
                              try clear hfz15_0
                              try clear hfz15_1
                              try clear hfz18_0
                              try clear hfz18_1
                              try clear hfz20_0
                              try clear hfz20_1
                              try clear hfz22_0
                              try clear hfz22_1
                              try clear hfz24_0
                              try clear hfz24_1
                              try clear hfz53_0
                              try clear hfz53_1
                              try clear hfz70_0
                              try clear hfz70_1
                              try clear hfz71_0
                              try clear hfz71_1
                              try clear hfz80_0
                              try clear hfz80_1
                              try clear hfz81_0
                              try clear hfz81_1
                              try clear hx433_0
                              try clear hx434_0
                              try clear hx435_0
                              try clear hx436_0
                              try clear hx437_0
                              try clear hx438_0
                              try clear hx439_0
                              try clear hx440_0
                              try clear hx441_0
                              try clear hx442_0
                              try clear hx443_0
                              try clear p2
                              try clear p4
                              try clear p43
                              try clear p433
                              try clear p434
                              try clear p435
                              try clear p436
                              try clear p437
                              try clear p438
                              try clear p439
                              try clear p44
                              try clear p440
                              try clear p441
                              try clear p442
                              try clear p443
                              try clear p6
                              try clear p64
                              try clear q4
                              try clear q43
                              try clear q433
                              try clear q434
                              try clear q435
                              try clear q436
                              try clear q437
                              try clear q438
                              try clear q439
                              try clear q44
                              try clear q440
                              try clear q441
                              try clear q442
                              try clear q443
                              obtain ⟨kq, x22_81, x23_81, rfl, rfl, HA, HJ81, HO_12, HO_98, HO_413000, HO_413001, BK412, HR433_0, HB⟩ := hcut
                              cases kq with
                              | zero => exact absurd HA.out (by simp [laws_FnPairsOfWalks.j5])
                              | succ kj81 =>
                               have H := HA.out
                               clear HA
                               simp only [laws_FnPairsOfWalks.j5] at H
                               by_cases c84 : (rd (rd_L2 t413 x100_3) 0) ≥ (rd (rd_L2 t413 x100_3) 1)
                               ·rw [if_pos c84] at H
                                have c84b0 : decide ((rd (rd_L2 t413 x100_3) 1) ≤ (rd (rd_L2 t413 x100_3) 0)) = true := decide_eq_true c84
                                clear c84
                                obtain rfl := Option.some.inj H
                                go_wp2
                                repeat (go_quiet (fail); try go_wp2)
                                go_ret
                                exact ⟨by first | rfl | (simp [errW_none, errW_some] <;> rfl) | (simp [*, errW_none, errW_some] <;> rfl), by repeat (first | (with_reducible first | exact HB.out | apply below_alloc | apply pw_below_drewN | apply below_drew1 | refine below_set ?_ GE412.out) | exact HB.out)⟩
                               ·as_aux_lemma =>
                                 rw [if_neg c84] at H
                                 have c84b0 : decide ((rd (rd_L2 t413 x100_3) 1) ≤ (rd (rd_L2 t413 x100_3) 0)) = false := decide_eq_false c84
                                 clear c84
                                 by_cases c85 : x20_61 = true
                                 ·subst c85
                                  have H1 : (if 0 ≤ x22_81 then (if x22_81 < (t409.length : Int) then ((laws_wPlace.f kj81 t423 (rd t409 x22_81)).bind fun t445 => (if 0 ≤ x23_81 then (if x23_81 < (t409.length : Int) then ((laws_wPlace.f kj81 t423 (rd t409 x23_81)).bind fun t447 => (if t445 < t447 then (some false) else (laws_FnPairsOfWalks.l0 kj81 t423 t413 (t413.length : Int) (wrap64 (x100_3 + 1)) t406 t409))) else (none)) else (none))) else (none)) else (none)) = some r := by rw [if_pos rfl] at H; exact H
                                  clear H
                                  have H := H1
                                  clear H1
                                  by_cases c86 : 0 ≤ x22_81
                                  ·rw [if_pos c86] at H
                                   have c86b0 : decide (0 ≤ x22_81) = true := decide_eq_true c86
                                   clear c86
                                   by_cases c87 : x22_81 < (t409.length : Int)
                                   ·rw [if_pos c87] at H
                                    have c87b0 : decide (x22_81 < (t409.length : Int)) = true := decide_eq_true c87
                                    clear c87
                                    replace H := Option.bind_eq_some_iff.mp H
                                    obtain ⟨t445, A880, H⟩ := H
                                    replace H : (if 0 ≤ x23_81 then (if x23_81 < (t409.length : Int) then ((laws_wPlace.f kj81 t423 (rd t409 x23_81)).bind fun t447 => (if t445 < t447 then (some false) else (laws_FnPairsOfWalks.l0 kj81 t423 t413 (t413.length : Int) (wrap64 (x100_3 + 1)) t406 t409))) else (none)) else (none)) = some r := H
                                    have A88 := Aside0.mk A880
                                    clear A880
                                    by_cases c89 : 0 ≤ x23_81
                                    ·rw [if_pos c89] at H
                                     have c89b0 : decide (0 ≤ x23_81) = true := decide_eq_true c89
                                     clear c89
                                     by_cases c90 : x23_81 < (t409.length : Int)
                                     ·rw [if_pos c90] at H
                                      have c90b0 : decide (x23_81 < (t409.length : Int)) = true := decide_eq_true c90
                                      clear c90
                                      replace H := Option.bind_eq_some_iff.mp H
                                      obtain ⟨t447, A910, H⟩ := H
                                      replace H : (if t445 < t447 then (some false) else (laws_FnPairsOfWalks.l0 kj81 t423 t413 (t413.length : Int) (wrap64 (x100_3 + 1)) t406 t409)) = some r := H
                                      have A91 := Aside0.mk A910
                                      clear A910
                                      by_cases c92 : t445 < t447
                                      ·rw [if_pos c92] at H
                                       have c92b0 : decide (t445 < t447) = true := decide_eq_true c92
                                       clear c92
                                       obtain rfl := Option.some.inj H
                                       have hcz93_0 : wc.cell? ⟨gb412, 0, none⟩ = some (.slice Ao14 t406.length co14) := (blk_cell BK412.out 0).trans rfl
                                       have hcz93_1 : wc.cell? ⟨gb412, 1, none⟩ = some (.slice Ao16 t409.length co16) := (blk_cell BK412.out 1).trans rfl
                                       have hfz93_0 := blk_frozen BK412.out 0
                                       have hfz93_1 := blk_frozen BK412.out 1
                                       have p444 : 0 ≤ (x22_81 : Int) := of_decide_eq_true (by first | (with_reducible assumption) | assumption)
                                       have q444 : x22_81 < (t409.length : Int) := of_decide_eq_true (by first | (with_reducible assumption) | assumption)
                                       obtain ⟨ad444, e444, hx444_0⟩ := Kd.at_int (Kd.R_reads' HO_413001.out).2.2 x22_81 p444 q444
                                       cases e444
                                       replace p444 := eq_true p444
                                       replace q444 := eq_true q444
                                       obtain ⟨Ao94, co94, eo94⟩ := Kd.R_slice HO_12.out
                                       subst eo94
                                       go_wp2_with (first | fail)
                                       repeat (go_quiet (first | (go_at_call 16; (with_reducible refine (laws_wPlace.calls kj81 _ _ t423 (rd t409 x22_81) t445 _ ?side1 ?side2 A88.out).mono ?_); (case side1 => repeat (first | exact (Kd.R_reads' HO_12.out).2.2 | (with_reducible refine Kd.C_alloc ?_ _) | (with_reducible refine Kd.C_drewN ?_ _) | (with_reducible refine Kd.C_drew ?_))); (case side2 => exact (Kd.R_reads' HO_12.out).2.1); rintro e w' ⟨rfl, ⟨nd, rfl⟩⟩; (try first | exact ⟨rfl, _, World.drewN_drewN _ _ _⟩ | exact ⟨rfl, _, Eq.trans (World.drewN_drewN _ _ _) (congrArg (World.drewN _) (Nat.add_assoc _ _ _))⟩); have p446 : 0 ≤ (x23_81 : Int) := of_decide_eq_true (by first | (with_reducible assumption) | assumption); have q446 : x23_81 < (t409.length : Int) := of_decide_eq_true (by first | (with_reducible assumption) | assumption); obtain ⟨ad446, e446, hx446_0⟩ := Kd.at_int (Kd.R_reads' HO_413001.out).2.2 x23_81 p446 q446; obtain rfl : ad444 = ad446 := (by injection e446); replace p446 := eq_true p446; replace q446 := eq_true q446) | (go_at_call 16; (with_reducible refine (laws_wPlace.calls kj81 _ _ t423 (rd t409 x23_81) t447 _ ?side1 ?side2 A91.out).mono ?_); (case side1 => repeat (first | exact (Kd.R_reads' HO_12.out).2.2 | (with_reducible refine Kd.C_alloc ?_ _) | (with_reducible refine Kd.C_drewN ?_ _) | (with_reducible refine Kd.C_drew ?_))); (case side2 => exact (Kd.R_reads' HO_12.out).2.1); rintro e w' ⟨rfl, ⟨nd, rfl⟩⟩; (try first | exact ⟨rfl, _, World.drewN_drewN _ _ _⟩ | exact ⟨rfl, _, Eq.trans (World.drewN_drewN _ _ _) (congrArg (World.drewN _) (Nat.add_assoc _ _ _))⟩))); try go_wp2_with (first | fail))
                                       go_ret
                                       exact ⟨by first | rfl | (simp [errW_none, errW_some] <;> rfl) | (simp [*, errW_none, errW_some] <;> rfl), by repeat (first | (with_reducible first | exact HB.out | apply below_alloc | apply pw_below_drewN | apply below_drew1 | refine below_set ?_ GE412.out) | exact HB.out)⟩
                                      ·rw [if_neg c92] at H
                                       have c92b0 : decide (t445 < t447) = false := decide_eq_false c92
                                       clear c92
                                       have H' := Aside0.mk H
                                       clear H
                                       have hcz95_0 : wc.cell? ⟨gb412, 0, none⟩ = some (.slice Ao14 t406.length co14) := (blk_cell BK412.out 0).trans rfl
                                       have hcz95_1 : wc.cell? ⟨gb412, 1, none⟩ = some (.slice Ao16 t409.length co16) := (blk_cell BK412.out 1).trans rfl
                                       have hfz95_0 := blk_frozen BK412.out 0
                                       have hfz95_1 := blk_frozen BK412.out 1
                                       have p444 : 0 ≤ (x22_81 : Int) := of_decide_eq_true (by first | (with_reducible assumption) | assumption)
                                       have q444 : x22_81 < (t409.length : Int) := of_decide_eq_true (by first | (with_reducible assumption) | assumption)
                                       obtain ⟨ad444, e444, hx444_0⟩ := Kd.at_int (Kd.R_reads' HO_413001.out).2.2 x22_81 p444 q444
                                       cases e444
                                       replace p444 := eq_true p444
                                       replace q444 := eq_true q444
                                       obtain ⟨Ao96, co96, eo96⟩ := Kd.R_slice HO_12.out
                                       subst eo96
                                       go_wp2_with (first | fail)
                                       repeat (go_quiet (first | (go_at_call 16; (with_reducible refine (laws_wPlace.calls kj81 _ _ t423 (rd t409 x22_81) t445 _ ?side1 ?side2 A88.out).mono ?_); (case side1 => repeat (first | exact (Kd.R_reads' HO_12.out).2.2 | (with_reducible refine Kd.C_alloc ?_ _) | (with_reducible refine Kd.C_drewN ?_ _) | (with_reducible refine Kd.C_drew ?_))); (case side2 => exact (Kd.R_reads' HO_12.out).2.1); rintro e w' ⟨rfl, ⟨nd, rfl⟩⟩; (try first | exact ⟨rfl, _, World.drewN_drewN _ _ _⟩ | exact ⟨rfl, _, Eq.trans (World.drewN_drewN _ _ _) (congrArg (World.drewN _) (Nat.add_assoc _ _ _))⟩); have p446 : 0 ≤ (x23_81 : Int) := of_decide_eq_true (by first | (with_reducible assumption) | assumption); have q446 : x23_81 < (t409.length : Int) := of_decide_eq_true (by first | (with_reducible assumption) | assumption); obtain ⟨ad446, e446, hx446_0⟩ := Kd.at_int (Kd.R_reads' HO_413001.out).2.2 x23_81 p446 q446; obtain rfl : ad444 = ad446 := (by injection e446); replace p446 := eq_true p446; replace q446 := eq_true q446) | (go_at_call 16; (with_reducible refine (laws_wPlace.calls kj81 _ _ t423 (rd t409 x23_81) t447 _ ?side1 ?side2 A91.out).mono ?_); (case side1 => repeat (first | exact (Kd.R_reads' HO_12.out).2.2 | (with_reducible refine Kd.C_alloc ?_ _) | (with_reducible refine Kd.C_drewN ?_ _) | (with_reducible refine Kd.C_drew ?_))); (case side2 => exact (Kd.R_reads' HO_12.out).2.1); rintro e w' ⟨rfl, ⟨nd, rfl⟩⟩; (try first | exact ⟨rfl, _, World.drewN_drewN _ _ _⟩ | exact ⟨rfl, _, Eq.trans (World.drewN_drewN _ _ _) (congrArg (World.drewN _) (Nat.add_assoc _ _ _))⟩))); try go_wp2_with (first | fail))
                                       go_roundg kj81
                                       case measure => have := HJ10.out; have := HJ48.out; have := HK3.out; have := HJ61.out; have := HJ71.out; have := HJ81.out; omega
                                       case rel => exact ⟨(wrap64 (x100_3 + 1)), (by first | rfl | (simp; done) | (simp [*]; done)), H', ⟨by have := HJ10.out; have := HJ48.out; have := HK3.out; have := HJ61.out; have := HJ71.out; have := HJ81.out; omega⟩, ⟨by (with_reducible repeat (first | apply Kd.R_alloc | apply Kd.R_drewN | apply Kd.R_drew)); exact HO_12.out⟩, ⟨by (with_reducible repeat (first | apply Kd.S_alloc | apply Kd.S_drewN | apply Kd.S_drew)); exact HO_98.out⟩, ⟨by (with_reducible repeat (first | apply Kd.R_alloc | apply Kd.R_drewN | apply Kd.R_drew)); exact HO_413000.out⟩, ⟨by (with_reducible repeat (first | apply Kd.R_alloc | apply Kd.R_drewN | apply Kd.R_drew)); exact HO_413001.out⟩, ⟨by (with_reducible repeat (first | refine blk_drewN ?_ _ | refine blk_drew ?_ | refine blk_alloc ?_ _)); exact BK412.out⟩, ⟨by repeat (first | (with_reducible first | exact HB.out | apply below_alloc | apply pw_below_drewN | apply below_drew1 | refine below_set ?_ GE412.out) | exact HB.out)⟩⟩
                                     ·rw [if_neg c90] at H
                                      exact absurd H (by simp)
                                    ·rw [if_neg c89] at H
                                     exact absurd H (by simp)
                                   ·rw [if_neg c87] at H
                                    exact absurd H (by simp)
                                  ·rw [if_neg c86] at H
                                   exact absurd H (by simp)
                                 ·replace c85 := Bool.eq_false_iff.mpr c85
                                  subst c85
                                  have H1 : (if x21_71 = true then (if 0 ≤ x22_81 then (if x22_81 < (t409.length : Int) then ((laws_wPlace.f kj81 t423 (rd t409 x22_81)).bind fun t449 => (if 0 ≤ x23_81 then (if x23_81 < (t409.length : Int) then ((laws_wPlace.f kj81 t423 (rd t409 x23_81)).bind fun t451 => (if t449 < t451 then (some false) else (laws_FnPairsOfWalks.l0 kj81 t423 t413 (t413.length : Int) (wrap64 (x100_3 + 1)) t406 t409))) else (none)) else (none))) else (none)) else (none)) else (some false)) = some r := by rw [if_neg (show ¬ (false = true) by decide)] at H; exact H
                                  clear H
                                  have H := H1
                                  clear H1
                                  by_cases c97 : x21_71 = true
                                  ·subst c97
                                   have H1 : (if 0 ≤ x22_81 then (if x22_81 < (t409.length : Int) then ((laws_wPlace.f kj81 t423 (rd t409 x22_81)).bind fun t449 => (if 0 ≤ x23_81 then (if x23_81 < (t409.length : Int) then ((laws_wPlace.f kj81 t423 (rd t409 x23_81)).bind fun t451 => (if t449 < t451 then (some false) else (laws_FnPairsOfWalks.l0 kj81 t423 t413 (t413.length : Int) (wrap64 (x100_3 + 1)) t406 t409))) else (none)) else (none))) else (none)) else (none)) = some r := by rw [if_pos rfl] at H; exact H
                                   clear H
                                   have H := H1
                                   clear H1
                                   by_cases c98 : 0 ≤ x22_81
                                   ·rw [if_pos c98] at H
                                    have c98b0 : decide (0 ≤ x22_81) = true := decide_eq_true c98
                                    clear c98
                                    by_cases c99 : x22_81 < (t409.length : Int)
                                    ·rw [if_pos c99] at H
                                     have c99b0 : decide (x22_81 < (t409.length : Int)) = true := decide_eq_true c99
                                     clear c99
                                     replace H := Option.bind_eq_some_iff.mp H
                                     obtain ⟨t449, A1000, H⟩ := H
                                     replace H : (if 0 ≤ x23_81 then (if x23_81 < (t409.length : Int) then ((laws_wPlace.f kj81 t423 (rd t409 x23_81)).bind fun t451 => (if t449 < t451 then (some false) else (laws_FnPairsOfWalks.l0 kj81 t423 t413 (t413.length : Int) (wrap64 (x100_3 + 1)) t406 t409))) else (none)) else (none)) = some r := H
                                     have A100 := Aside0.mk A1000
                                     clear A1000
                                     by_cases c101 : 0 ≤ x23_81
                                     ·rw [if_pos c101] at H
                                      have c101b0 : decide (0 ≤ x23_81) = true := decide_eq_true c101
                                      clear c101
                                      by_cases c102 : x23_81 < (t409.length : Int)
                                      ·rw [if_pos c102] at H
                                       have c102b0 : decide (x23_81 < (t409.length : Int)) = true := decide_eq_true c102
                                       clear c102
                                       replace H := Option.bind_eq_some_iff.mp H
                                       obtain ⟨t451, A1030, H⟩ := H
                                       replace H : (if t449 < t451 then (some false) else (laws_FnPairsOfWalks.l0 kj81 t423 t413 (t413.length : Int) (wrap64 (x100_3 + 1)) t406 t409)) = some r := H
                                       have A103 := Aside0.mk A1030
                                       clear A1030
                                       by_cases c104 : t449 < t451
                                       ·rw [if_pos c104] at H
                                        have c104b0 : decide (t449 < t451) = true := decide_eq_true c104
                                        clear c104
                                        obtain rfl := Option.some.inj H
                                        have hcz105_0 : wc.cell? ⟨gb412, 0, none⟩ = some (.slice Ao14 t406.length co14) := (blk_cell BK412.out 0).trans rfl
                                        have hcz105_1 : wc.cell? ⟨gb412, 1, none⟩ = some (.slice Ao16 t409.length co16) := (blk_cell BK412.out 1).trans rfl
                                        have hfz105_0 := blk_frozen BK412.out 0
                                        have hfz105_1 := blk_frozen BK412.out 1
                                        have p448 : 0 ≤ (x22_81 : Int) := of_decide_eq_true (by first | (with_reducible assumption) | assumption)
                                        have q448 : x22_81 < (t409.length : Int) := of_decide_eq_true (by first | (with_reducible assumption) | assumption)
                                        obtain ⟨ad448, e448, hx448_0⟩ := Kd.at_int (Kd.R_reads' HO_413001.out).2.2 x22_81 p448 q448
                                        cases e448
                                        replace p448 := eq_true p448
                                        replace q448 := eq_true q448
                                        obtain ⟨Ao106, co106, eo106⟩ := Kd.R_slice HO_12.out
                                        subst eo106
                                        go_wp2_with (first | fail)
                                        repeat (go_quiet (first | (go_at_call 16; (with_reducible refine (laws_wPlace.calls kj81 _ _ t423 (rd t409 x22_81) t449 _ ?side1 ?side2 A100.out).mono ?_); (case side1 => repeat (first | exact (Kd.R_reads' HO_12.out).2.2 | (with_reducible refine Kd.C_alloc ?_ _) | (with_reducible refine Kd.C_drewN ?_ _) | (with_reducible refine Kd.C_drew ?_))); (case side2 => exact (Kd.R_reads' HO_12.out).2.1); rintro e w' ⟨rfl, ⟨nd, rfl⟩⟩; (try first | exact ⟨rfl, _, World.drewN_drewN _ _ _⟩ | exact ⟨rfl, _, Eq.trans (World.drewN_drewN _ _ _) (congrArg (World.drewN _) (Nat.add_assoc _ _ _))⟩); have p450 : 0 ≤ (x23_81 : Int) := of_decide_eq_true (by first | (with_reducible assumption) | assumption); have q450 : x23_81 < (t409.length : Int) := of_decide_eq_true (by first | (with_reducible assumption) | assumption); obtain ⟨ad450, e450, hx450_0⟩ := Kd.at_int (Kd.R_reads' HO_413001.out).2.2 x23_81 p450 q450; obtain rfl : ad448 = ad450 := (by injection e450); replace p450 := eq_true p450; replace q450 := eq_true q450) | (go_at_call 16; (with_reducible refine (laws_wPlace.calls kj81 _ _ t423 (rd t409 x23_81) t451 _ ?side1 ?side2 A103.out).mono ?_); (case side1 => repeat (first | exact (Kd.R_reads' HO_12.out).2.2 | (with_reducible refine Kd.C_alloc ?_ _) | (with_reducible refine Kd.C_drewN ?_ _) | (with_reducible refine Kd.C_drew ?_))); (case side2 => exact (Kd.R_reads' HO_12.out).2.1); rintro e w' ⟨rfl, ⟨nd, rfl⟩⟩; (try first | exact ⟨rfl, _, World.drewN_drewN _ _ _⟩ | exact ⟨rfl, _, Eq.trans (World.drewN_drewN _ _ _) (congrArg (World.drewN _) (Nat.add_assoc _ _ _))⟩))); try go_wp2_with (first | fail))
                                        go_ret
                                        exact ⟨by first | rfl | (simp [errW_none, errW_some] <;> rfl) | (simp [*, errW_none, errW_some] <;> rfl), by repeat (first | (with_reducible first | exact HB.out | apply below_alloc | apply pw_below_drewN | apply below_drew1 | refine below_set ?_ GE412.out) | exact HB.out)⟩
                                       ·rw [if_neg c104] at H
                                        have c104b0 : decide (t449 < t451) = false := decide_eq_false c104
                                        clear c104
                                        have H' := Aside0.mk H
                                        clear H
                                        have hcz107_0 : wc.cell? ⟨gb412, 0, none⟩ = some (.slice Ao14 t406.length co14) := (blk_cell BK412.out 0).trans rfl
                                        have hcz107_1 : wc.cell? ⟨gb412, 1, none⟩ = some (.slice Ao16 t409.length co16) := (blk_cell BK412.out 1).trans rfl
                                        have hfz107_0 := blk_frozen BK412.out 0
                                        have hfz107_1 := blk_frozen BK412.out 1
                                        have p448 : 0 ≤ (x22_81 : Int) := of_decide_eq_true (by first | (with_reducible assumption) | assumption)
                                        have q448 : x22_81 < (t409.length : Int) := of_decide_eq_true (by first | (with_reducible assumption) | assumption)
                                        obtain ⟨ad448, e448, hx448_0⟩ := Kd.at_int (Kd.R_reads' HO_413001.out).2.2 x22_81 p448 q448
                                        cases e448
                                        replace p448 := eq_true p448
                                        replace q448 := eq_true q448
                                        obtain ⟨Ao108, co108, eo108⟩ := Kd.R_slice HO_12.out
                                        subst eo108
                                        go_wp2_with (first | fail)
                                        repeat (go_quiet (first | (go_at_call 16; (with_reducible refine (laws_wPlace.calls kj81 _ _ t423 (rd t409 x22_81) t449 _ ?side1 ?side2 A100.out).mono ?_); (case side1 => repeat (first | exact (Kd.R_reads' HO_12.out).2.2 | (with_reducible refine Kd.C_alloc ?_ _) | (with_reducible refine Kd.C_drewN ?_ _) | (with_reducible refine Kd.C_drew ?_))); (case side2 => exact (Kd.R_reads' HO_12.out).2.1); rintro e w' ⟨rfl, ⟨nd, rfl⟩⟩; (try first | exact ⟨rfl, _, World.drewN_drewN _ _ _⟩ | exact ⟨rfl, _, Eq.trans (World.drewN_drewN _ _ _) (congrArg (World.drewN _) (Nat.add_assoc _ _ _))⟩); have p450 : 0 ≤ (x23_81 : Int) := of_decide_eq_true (by first | (with_reducible assumption) | assumption); have q450 : x23_81 < (t409.length : Int) := of_decide_eq_true (by first | (with_reducible assumption) | assumption); obtain ⟨ad450, e450, hx450_0⟩ := Kd.at_int (Kd.R_reads' HO_413001.out).2.2 x23_81 p450 q450; obtain rfl : ad448 = ad450 := (by injection e450); replace p450 := eq_true p450; replace q450 := eq_true q450) | (go_at_call 16; (with_reducible refine (laws_wPlace.calls kj81 _ _ t423 (rd t409 x23_81) t451 _ ?side1 ?side2 A103.out).mono ?_); (case side1 => repeat (first | exact (Kd.R_reads' HO_12.out).2.2 | (with_reducible refine Kd.C_alloc ?_ _) | (with_reducible refine Kd.C_drewN ?_ _) | (with_reducible refine Kd.C_drew ?_))); (case side2 => exact (Kd.R_reads' HO_12.out).2.1); rintro e w' ⟨rfl, ⟨nd, rfl⟩⟩; (try first | exact ⟨rfl, _, World.drewN_drewN _ _ _⟩ | exact ⟨rfl, _, Eq.trans (World.drewN_drewN _ _ _) (congrArg (World.drewN _) (Nat.add_assoc _ _ _))⟩))); try go_wp2_with (first | fail))
                                        go_roundg kj81
                                        case measure => have := HJ10.out; have := HJ48.out; have := HK3.out; have := HJ61.out; have := HJ71.out; have := HJ81.out; omega
                                        case rel => exact ⟨(wrap64 (x100_3 + 1)), (by first | rfl | (simp; done) | (simp [*]; done)), H', ⟨by have := HJ10.out; have := HJ48.out; have := HK3.out; have := HJ61.out; have := HJ71.out; have := HJ81.out; omega⟩, ⟨by (with_reducible repeat (first | apply Kd.R_alloc | apply Kd.R_drewN | apply Kd.R_drew)); exact HO_12.out⟩, ⟨by (with_reducible repeat (first | apply Kd.S_alloc | apply Kd.S_drewN | apply Kd.S_drew)); exact HO_98.out⟩, ⟨by (with_reducible repeat (first | apply Kd.R_alloc | apply Kd.R_drewN | apply Kd.R_drew)); exact HO_413000.out⟩, ⟨by (with_reducible repeat (first | apply Kd.R_alloc | apply Kd.R_drewN | apply Kd.R_drew)); exact HO_413001.out⟩, ⟨by (with_reducible repeat (first | refine blk_drewN ?_ _ | refine blk_drew ?_ | refine blk_alloc ?_ _)); exact BK412.out⟩, ⟨by repeat (first | (with_reducible first | exact HB.out | apply below_alloc | apply pw_below_drewN | apply below_drew1 | refine below_set ?_ GE412.out) | exact HB.out)⟩⟩
                                      ·rw [if_neg c102] at H
                                       exact absurd H (by simp)
                                     ·rw [if_neg c101] at H
                                      exact absurd H (by simp)
                                    ·rw [if_neg c99] at H
                                     exact absurd H (by simp)
                                   ·rw [if_neg c98] at H
                                    exact absurd H (by simp)
                                  ·replace c97 := Bool.eq_false_iff.mpr c97
                                   subst c97
                                   have H1 : (some false) = some r := by rw [if_neg (show ¬ (false = true) by decide)] at H; exact H
                                   clear H
                                   have H := H1
                                   clear H1
                                   obtain rfl := Option.some.inj H
                                   go_wp2
                                   repeat (go_quiet (fail); try go_wp2)
                                   go_ret
                                   exact ⟨by first | rfl | (simp [errW_none, errW_some] <;> rfl) | (simp [*, errW_none, errW_some] <;> rfl), by repeat (first | (with_reducible first | exact HB.out | apply below_alloc | apply pw_below_drewN | apply below_drew1 | refine below_set ?_ GE412.out) | exact HB.out)⟩
                       ·rw [if_neg c61] at H
                        exact absurd H (by simp)
                     ·rw [if_neg c60] at H
                      exact absurd H (by simp)
                   ·rw [if_neg c59] at H
                    exact absurd H (by simp)
                 ·rw [if_neg c58] at H
                  exact absurd H (by simp)
               ·rw [if_neg c57] at H
                have c57b0 : decide (x100_3 < (t413.length : Int)) = false := decide_eq_false c57
                clear c57
                obtain rfl := Option.some.inj H
                go_wp2
                repeat (go_quiet (fail); try go_wp2)
                go_ret
                exact ⟨by first | rfl | (simp [errW_none, errW_some] <;> rfl) | (simp [*, errW_none, errW_some] <;> rfl), by repeat (first | (with_reducible first | exact HB.out | apply below_alloc | apply pw_below_drewN | apply below_drew1 | refine below_set ?_ GE412.out) | exact HB.out)⟩
       ·replace c48 := Bool.eq_false_iff.mpr c48
        subst c48
        have H1 : (some true) = some r := by rw [if_neg (show ¬ (false = true) by decide)] at H; exact H
        clear H
        have H := H1
        clear H1
        obtain rfl := Option.some.inj H
        go_wp2
        repeat (go_quiet (fail); try go_wp2)
        go_ret
        exact ⟨by first | rfl | (simp [errW_none, errW_some] <;> rfl) | (simp [*, errW_none, errW_some] <;> rfl), by repeat (first | (with_reducible first | exact HB.out | apply below_alloc | apply pw_below_drewN | apply below_drew1 | refine below_set ?_ GE412.out) | exact HB.out)⟩

/-- THE ONE PURE STATEMENT of laws_FnPairsOfWalks: yours. -/
def laws_FnPairsOfWalks.Pure : Prop := ∀ (l0 : List Int) (l1 : List Int), l0.length ≤ maxLen → l0.length * 1 ≤ 140737488351232 → (∀ x ∈ l0, (Lit.int .u8 x).wf = true) → l1.length ≤ maxLen → l1.length * 1 ≤ 140737488351232 → (∀ x ∈ l1, (Lit.int .u8 x).wf = true) → ∃ k, laws_FnPairsOfWalks.f k l0 l1 = some true
theorem laws_FnPairsOfWalks.walk (P : laws_FnPairsOfWalks.Pure) (a0 : Option Addr) (len0 cap0 : Nat) (z0 : List Int) (a1 : Option Addr) (len1 cap1 : Nat) (z1 : List Int) (w : World) (w0 : (a0 = none ∧ len0 = 0 ∧ cap0 = 0 ∧ z0 = []) ∨ ∃ x, a0 = some x ∧ len0 ≤ cap0 ∧ cap0 ≤ maxLen ∧ z0.length = cap0 ∧ (∀ i, i < z0.length → w.cell? (x.add i) = some (.int .u8 (z0.getD i 0))) ∧ ∀ n ∈ z0, (Lit.int .u8 n).wf = true) (y0 : len0 * 1 ≤ 140737488351232) (w1 : (a1 = none ∧ len1 = 0 ∧ cap1 = 0 ∧ z1 = []) ∨ ∃ x, a1 = some x ∧ len1 ≤ cap1 ∧ cap1 ≤ maxLen ∧ z1.length = cap1 ∧ (∀ i, i < z1.length → w.cell? (x.add i) = some (.int .u8 (z1.getD i 0))) ∧ ∀ n ∈ z1, (Lit.int .u8 n).wf = true) (y1 : len1 * 1 ≤ 140737488351232) :
  Calls Try.prog 3 #[.slice a0 len0 cap0, .slice a1 len1 cap1] w fun e w' => e = .returned (.bool true) ∧ Below w.heap.size w w' := by
 obtain ⟨l0, rfl, hr0, hm0, hw0, hc0⟩ := ReadsInt.ofRowC w0
 obtain ⟨l1, rfl, hr1, hm1, hw1, hc1⟩ := ReadsInt.ofRowC w1
 obtain ⟨k, h⟩ := P l0 l1 hm0 y0 hw0 hm1 y1 hw1
 refine (laws_FnPairsOfWalks.calls k _ _ l0 _ _ l1 true w (Kd.C_of_reads (d := (0 : Int)) (h1 := fun _ => rfl) hr0) hc0 (Kd.C_of_reads (d := (0 : Int)) (h1 := fun _ => rfl) hr1) hc1 h).mono ?_
 rintro e w' ⟨rfl, hd⟩
 exact ⟨rfl, hd⟩

end Go.Proofs.Ytkbdjbmalpkkfaa.PFnPairsOfWalks
