/- CountHeights of the program and of the reference agree at every number. -/
import Derived.Test.YtljggaekcojpnaaWSized
import Derived.Test.YtljggaekcojpnaaPFnExactCountHeightsx
namespace Go.Proofs.Ytljggaekcojpnaa.PrintWords
open Go.ChangeShapes Go.WideShapes
/-- The word by the name that the printed row asks for. -/
theorem sized_ints {H : Type} {enc : TypeId × Value → H} {P : Program} {W : World} {base : Nat} {spare : Nat → Bool} {held : Bool} {t e : TypeId} {k : IntKind} {a : Option Addr} {len cap : Nat} {d : DataW H} {ps : List MemPlace} {ts : List TypeId} {ds : List (DataW H)} {j : Nat}
    (hsz : (DataW.weightsEach P ts ds).all (· ≤ reachBytes) = true) (ht : ts[j]? = some t) (hd : ds[j]? = some d) (hu : P.underlying t = some (.slice e)) (he : P.underlying e = some (.int k)) (hc : P.cellsOf e = 1) {B : Nat} (hB : P.bytesOf e = B)
    (h : DataW.Trod enc P W base spare held t (.slice a len cap) d ps) : len * B ≤ 140737488351232 :=
  Go.Proofs.YtljggaekcojpnaaW.PrintWords.sized_ints hsz ht hd hu he hc hB h
end Go.Proofs.Ytljggaekcojpnaa.PrintWords
namespace Go.Proofs.Ytljggaekcojpnaa.Pure
open Go.RowKit Go.Proofs.Ytljggaekcojpnaa.PFnExactCountHeights Go.Proofs.YtljggaekcojpnaaW.PrintWords Go.Proofs.YtljggaekcojpnaaW.PrintLast
set_option linter.unusedVariables false
set_option linter.unusedSimpArgs false

theorem w64 {x : Int} (h0 : -9223372036854775808 ≤ x) (h1 : x ≤ 9223372036854775807) : wrap64 x = x := by
  unfold wrap64
  omega
theorem rd_mid (p : List Int) (h : Int) (t : List Int) : rd (p ++ h :: t) (p.length : Int) = h := by
  unfold rd
  simp
theorem rd_nat (l : List Int) (i : Nat) : rd l (i : Int) = l.getD i 0 := by
  unfold rd
  simp
theorem Ev.ret {α : Type} {g : Nat → Option α} {r : α} (h : ∀ k, g (k + 1) = some r) : Ev g r :=
  Ev.step (f := fun _ => some r) h (Ev.now r)

theorem FnExactCountHeights : laws_FnExactCountHeights.Pure := by
  intro a _
  by_cases c : 0 ≤ a ∧ a ≤ 8
  · obtain ⟨c0, c1⟩ := c
    have : a = 0 ∨ a = 1 ∨ a = 2 ∨ a = 3 ∨ a = 4 ∨ a = 5 ∨ a = 6 ∨ a = 7 ∨ a = 8 := by omega
    rcases this with rfl | rfl | rfl | rfl | rfl | rfl | rfl | rfl | rfl <;> exact ⟨20, by decide +kernel⟩
  · refine ⟨1, ?_⟩
    have e1 : spec_CountHeights.f 1 a = some (0, false) := by
      unfold spec_CountHeights.f spec_l1In.f
      by_cases h : a ≥ 0
      · rw [if_pos h, decide_eq_false (by omega)]; rfl
      · rw [if_neg h]; rfl
    have e2 : impl_CountHeights.f 1 a = some (0, false) := by
      unfold impl_CountHeights.f impl_CountSorted.f impl_isCars.f impl_between.f
      by_cases h : a ≥ 0
      · rw [if_pos h, decide_eq_false (by omega)]; rfl
      · rw [if_neg h]; rfl
    unfold laws_FnExactCountHeights.f
    rw [e1, e2]
    rfl

end Go.Proofs.Ytljggaekcojpnaa.Pure
