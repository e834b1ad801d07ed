/- SpreadOfWalks of the program and of the reference agree on every number, and nothing is shared. -/
import Derived.Test.YtmamemhfeoopnaaWSized
import Derived.Test.YtmamemhfeoopnaaPFnExactSpreadOfWalksx
namespace Go.Proofs.Ytmamemhfeoopnaa.PrintWords
open Go.ChangeShapes Go.WideShapes
/-- The word by the name that the printed row asks for. -/
theorem sized_ints {H : Type} {enc : TypeId × Value → H} {P : Program} {W : World} {base : Nat} {spare : Nat → Bool} {held : Bool} {t e : TypeId} {k : IntKind} {a : Option Addr} {len cap : Nat} {d : DataW H} {ps : List MemPlace} {ts : List TypeId} {ds : List (DataW H)} {j : Nat}
    (hsz : (DataW.weightsEach P ts ds).all (· ≤ reachBytes) = true) (ht : ts[j]? = some t) (hd : ds[j]? = some d) (hu : P.underlying t = some (.slice e)) (he : P.underlying e = some (.int k)) (hc : P.cellsOf e = 1) {B : Nat} (hB : P.bytesOf e = B)
    (h : DataW.Trod enc P W base spare held t (.slice a len cap) d ps) : len * B ≤ 140737488351232 :=
  Go.Proofs.YtmamemhfeoopnaaW.PrintWords.sized_ints hsz ht hd hu he hc hB h
end Go.Proofs.Ytmamemhfeoopnaa.PrintWords
namespace Go.Proofs.Ytmamemhfeoopnaa.Pure
open Go.RowKit Go.Proofs.Ytmamemhfeoopnaa.PFnExactSpreadOfWalks Go.Proofs.YtmamemhfeoopnaaW.PrintWords Go.Proofs.YtmamemhfeoopnaaW.PrintLast
set_option linter.unusedVariables false
set_option linter.unusedSimpArgs false

theorem w64 {x : Int} (h0 : -9223372036854775808 ≤ x) (h1 : x ≤ 9223372036854775807) : wrap64 x = x := by
  unfold wrap64
  omega
theorem rd_mid (p : List Int) (h : Int) (t : List Int) : rd (p ++ h :: t) (p.length : Int) = h := by
  unfold rd
  simp
theorem rd_nat (l : List Int) (i : Nat) : rd l (i : Int) = l.getD i 0 := by
  unfold rd
  simp
theorem Ev.ret {α : Type} {g : Nat → Option α} {r : α} (h : ∀ k, g (k + 1) = some r) : Ev g r :=
  Ev.step (f := fun _ => some r) h (Ev.now r)

theorem rd_L1_mid (p : List (List Int)) (h : List Int) (t : List (List Int)) : rd_L1 (p ++ h :: t) (p.length : Int) = h := by
  unfold rd_L1
  simp

theorem eqIntS_l0 : ∀ (t p : List Int), p.length + t.length ≤ 35184372088832 →
    Ev (fun k => laws_eqIntS.l0 k (p ++ t) (p ++ t) (p.length : Int)) true
  | [], p, _ => by
    refine Ev.ret fun k => ?_
    rw [laws_eqIntS.l0, if_neg (by simp)]
  | h :: t, p, hn => by
    have hn' : p.length + t.length + 1 ≤ 35184372088832 := by simpa [Nat.add_assoc] using hn
    have ih := eqIntS_l0 t (p ++ [h]) (by simp; omega)
    have e1 : (p ++ [h]) ++ t = p ++ h :: t := by simp
    have e2 : (((p ++ [h]).length : Nat) : Int) = (p.length : Int) + 1 := by simp
    rw [e1, e2] at ih
    refine Ev.step (fun k => ?_) ih
    show laws_eqIntS.l0 (k + 1) (p ++ h :: t) (p ++ h :: t) (p.length : Int) = _
    rw [laws_eqIntS.l0, if_pos (by simp; omega), if_pos (by omega), if_pos (by simp; omega), rd_mid, if_pos rfl, w64 (by omega) (by omega)]
theorem ev_eqIntS (l : List Int) (h : l.length ≤ 35184372088832) : Ev (fun k => laws_eqIntS.f k l l) true := by
  have z := eqIntS_l0 l [] (by simpa using h)
  refine Ev.congr (fun k => ?_) z
  show laws_eqIntS.f k l l = _
  rw [laws_eqIntS.f, if_pos rfl]
  rfl

/-- n numbers from one on. -/
def marks (k : Int) : Nat → List Int
  | 0 => []
  | n + 1 => k :: marks (k + 1) n
theorem marks_length : ∀ (n : Nat) (k : Int), (marks k n).length = n
  | 0, _ => rfl
  | n + 1, k => by simp [marks, marks_length n]
theorem markIntS_l0 : ∀ (t p : List Int) (k : Int), 0 ≤ k → k + t.length ≤ 4611686018427387904 → p.length + t.length ≤ 35184372088832 →
    Ev (fun n => laws_markIntS.l0 n (p ++ t) k (p.length : Int)) (k + t.length, p ++ marks k t.length)
  | [], p, k, _, _, _ => by
    refine Ev.ret fun n => ?_
    rw [laws_markIntS.l0, if_neg (by simp)]
    simp [marks]
  | h :: t, p, k, h0, hk, hn => by
    have hn' : p.length + t.length + 1 ≤ 35184372088832 := by simpa [Nat.add_assoc] using hn
    have hk' : k + (t.length : Int) + 1 ≤ 4611686018427387904 := by simp at hk; omega
    have ih := markIntS_l0 t (p ++ [k]) (k + 1) (by omega) (by omega) (by simp; omega)
    have e1 : (p ++ [k]) ++ t = p ++ k :: t := by simp
    have e2 : (((p ++ [k]).length : Nat) : Int) = (p.length : Int) + 1 := by simp
    rw [e1, e2] at ih
    have e3 : ((k + ((h :: t).length : Int), p ++ marks k (h :: t).length) : Int × List Int) = (k + 1 + (t.length : Int), p ++ [k] ++ marks (k + 1) t.length) := by
      simp [marks]; omega
    rw [e3]
    refine Ev.step (fun n => ?_) ih
    show laws_markIntS.l0 (n + 1) (p ++ h :: t) k (p.length : Int) = _
    rw [laws_markIntS.l0, if_pos (by simp; omega), if_pos (by omega), w64 (by omega) (by omega), w64 (by omega) (by omega)]
    congr 1
    simp [List.set_append]
theorem ev_markIntS (l : List Int) (k : Int) (h0 : 0 ≤ k) (hk : k ≤ 4000000000000000000) (hl : l.length ≤ 35184372088832) : Ev (fun n => laws_markIntS.f n l k) (k + l.length, marks k l.length) :=
  markIntS_l0 l [] k h0 (by omega) (by simpa using hl)
theorem heldIntS_l0 : ∀ (m : Nat) (p : List Int) (k : Int), 0 ≤ k → k + m ≤ 4611686018427387904 → p.length + m ≤ 35184372088832 →
    Ev (fun n => laws_heldIntS.l0 n (p ++ marks k m) k (p.length : Int)) (k + m)
  | 0, p, k, _, _, _ => by
    refine Ev.ret fun n => ?_
    rw [laws_heldIntS.l0, if_neg (by simp [marks])]
    simp
  | m + 1, p, k, h0, hk, hn => by
    have ih := heldIntS_l0 m (p ++ [k]) (k + 1) (by omega) (by omega) (by simp; omega)
    have e1 : (p ++ [k]) ++ marks (k + 1) m = p ++ k :: marks (k + 1) m := by simp
    have e2 : (((p ++ [k]).length : Nat) : Int) = (p.length : Int) + 1 := by simp
    rw [e1, e2] at ih
    have e3 : k + ((m + 1 : Nat) : Int) = k + 1 + (m : Int) := by omega
    rw [e3]
    refine Ev.step (fun n => ?_) ih
    show laws_heldIntS.l0 (n + 1) (p ++ k :: marks (k + 1) m) k (p.length : Int) = _
    rw [laws_heldIntS.l0, if_pos (by simp; omega), if_pos (by omega), rd_mid, if_pos rfl, w64 (by omega) (by omega), w64 (by omega) (by omega)]
theorem ev_heldIntS (k : Int) (m : Nat) (h0 : 0 ≤ k) (hk : k ≤ 4000000000000000000) (hm : m ≤ 35184372088832) : Ev (fun n => laws_heldIntS.f n (marks k m) k) (k + m) :=
  heldIntS_l0 m [] k h0 (by omega) (by simpa using hm)

theorem eqIntSS_l0 : ∀ (t p : List (List Int)), p.length + t.length ≤ 1000000 → (∀ x ∈ t, x.length ≤ 1000000) → Ev (fun k => laws_eqIntSS.l0 k (p ++ t) (p ++ t) (p.length : Int)) true
  | [], p, _, _ => Ev.ret fun k => by rw [laws_eqIntSS.l0, if_neg (by simp)]
  | h :: t, p, hn, hx => by
    have hn' : p.length + t.length + 1 ≤ 1000000 := by simpa [Nat.add_assoc] using hn
    have ih := eqIntSS_l0 t (p ++ [h]) (by simp; omega) (fun x hm => hx x (List.mem_cons_of_mem _ hm))
    have e1 : (p ++ [h]) ++ t = p ++ h :: t := by simp
    have e2 : (((p ++ [h]).length : Nat) : Int) = (p.length : Int) + 1 := by simp
    have hm : ((p ++ h :: t).length : Int) = (p.length : Int) + t.length + 1 := by simp; omega
    rw [e1, e2] at ih
    refine Ev.step (fun k => by rw [laws_eqIntSS.l0, if_pos (by omega), if_pos (by omega), if_pos (by omega), rd_L1_mid]) (Ev.bind (ev_eqIntS h (by have := hx h (List.mem_cons_self ..); omega)) ?_)
    exact Ev.congr (fun k => by rw [if_pos rfl, w64 (by omega) (by omega)]) ih
theorem ev_eqIntSS (l : List (List Int)) (hl : l.length ≤ 1000000) (hx : ∀ x ∈ l, x.length ≤ 1000000) : Ev (fun k => laws_eqIntSS.f k l l) true :=
  Ev.congr (fun k => by rw [laws_eqIntSS.f, if_pos rfl]; rfl) (eqIntSS_l0 l [] (by simpa using hl) hx)
/-- All rows' lengths. -/
def totSS : List (List Int) → Int
  | [] => 0
  | x :: t => (x.length : Int) + totSS t
/-- The rows, counted through. -/
def marksSS : Int → List (List Int) → List (List Int)
  | _, [] => []
  | q, x :: t => marks q x.length :: marksSS (q + x.length) t
theorem totSS_range : ∀ l : List (List Int), (∀ x ∈ l, x.length ≤ 1000000) → 0 ≤ totSS l ∧ totSS l ≤ 1000000 * l.length
  | [], _ => by simp [totSS]
  | x :: t, h => by
    have ih := totSS_range t (fun y hy => h y (List.mem_cons_of_mem _ hy))
    have hx := h x (List.mem_cons_self ..)
    rw [totSS, List.length_cons]
    omega
theorem marksSS_length : ∀ (l : List (List Int)) (q : Int), (marksSS q l).length = l.length
  | [], _ => rfl
  | x :: t, q => by rw [marksSS, List.length_cons, List.length_cons, marksSS_length t]
theorem ev_markIntSS_g : ∀ (l : List (List Int)) (q : Int), 0 ≤ q → q + 1000000 * l.length ≤ 3000000000000 → (∀ x ∈ l, x.length ≤ 1000000) → Ev (fun k => laws_markIntSS.g k l q) (q + totSS l, marksSS q l)
  | [], q, _, _, _ => by
    refine Ev.congr (fun k => by rw [laws_markIntSS.g]) ?_
    rw [totSS, marksSS, Int.add_zero]
    exact Ev.now _
  | x :: t, q, h0, h1, hx => by
    have h2 := hx x (List.mem_cons_self ..)
    rw [List.length_cons] at h1
    have ih := ev_markIntSS_g t (q + x.length) (by omega) (by omega) (fun y hy => hx y (List.mem_cons_of_mem _ hy))
    refine Ev.congr (fun k => by rw [laws_markIntSS.g]) (Ev.bind (ev_markIntS x q h0 (by omega) (by omega)) (Ev.bind ih ?_))
    rw [totSS, marksSS, ← Int.add_assoc]
    exact Ev.now _
theorem ev_markIntSS (l : List (List Int)) (hl : l.length ≤ 1000000) (hx : ∀ x ∈ l, x.length ≤ 1000000) : Ev (fun k => laws_markIntSS.f k l 1) (1 + totSS l, marksSS 1 l) :=
  Ev.congr (fun k => by rw [laws_markIntSS.f, if_pos hl]) (ev_markIntSS_g l 1 (by omega) (by omega) hx)
theorem heldIntSS_l0 : ∀ (t : List (List Int)) (p : List (List Int)) (q : Int), 0 ≤ q → q + 1000000 * t.length ≤ 3000000000000 → p.length + t.length ≤ 1000000 → (∀ x ∈ t, x.length ≤ 1000000) → Ev (fun k => laws_heldIntSS.l0 k (p ++ marksSS q t) q (p.length : Int)) (q + totSS t)
  | [], p, q, _, _, _, _ => by
    refine Ev.ret fun k => ?_
    rw [laws_heldIntSS.l0, if_neg (by simp [marksSS]), totSS, Int.add_zero]
  | x :: t, p, q, h0, h1, hn, hx => by
    have h2 := hx x (List.mem_cons_self ..)
    rw [List.length_cons] at h1 hn
    have ih := heldIntSS_l0 t (p ++ [marks q x.length]) (q + x.length) (by omega) (by omega) (by simp; omega) (fun y hy => hx y (List.mem_cons_of_mem _ hy))
    have e1 : (p ++ [marks q x.length]) ++ marksSS (q + x.length) t = p ++ marks q x.length :: marksSS (q + x.length) t := by simp
    have e2 : (((p ++ [marks q x.length]).length : Nat) : Int) = (p.length : Int) + 1 := by simp
    have hm : ((p ++ marks q x.length :: marksSS (q + x.length) t).length : Int) = (p.length : Int) + t.length + 1 := by simp [marksSS_length]; omega
    rw [e1, e2] at ih
    rw [totSS, marksSS, ← Int.add_assoc]
    refine Ev.step (fun k => by rw [laws_heldIntSS.l0, if_pos (by omega), if_pos (by omega), rd_L1_mid]) (Ev.bind (ev_heldIntS q x.length h0 (by omega) (by omega)) ?_)
    exact Ev.congr (fun k => by rw [if_neg (by omega), w64 (by omega) (by omega)]) ih
theorem ev_heldIntSS (l : List (List Int)) (hl : l.length ≤ 1000000) (hx : ∀ x ∈ l, x.length ≤ 1000000) : Ev (fun k => laws_heldIntSS.f k (marksSS 1 l) 1) (1 + totSS l) :=
  Ev.congr (fun k => by rw [laws_heldIntSS.f]; rfl) (heldIntSS_l0 l [] 1 (by omega) (by omega) (by simpa using hl) hx)

def spR (n : Int) : List (List Int) × Bool := (impl_SpreadOfWalks.f 400 n).getD ([], false)
theorem spR_all : (List.range 5).all (fun i => decide (impl_SpreadOfWalks.f 400 (i : Int) = some (spR (i : Int))) && decide (spec_SpreadOfWalks.f 400 (i : Int) = some (spR (i : Int))) && decide ((spR (i : Int)).1.length ≤ 1000) && ((spR (i : Int)).1.all fun x => decide (x.length ≤ 1000))) = true := by decide +kernel
/-- What SpreadOfWalks answers. -/
def spA (n : Int) : List (List Int) × Bool := if 0 ≤ n ∧ n ≤ 4 then spR n else ([], false)
theorem ev_spA (n : Int) : (spA n).1.length ≤ 1000000 ∧ (∀ x ∈ (spA n).1, x.length ≤ 1000000) ∧ Ev (fun k => spec_SpreadOfWalks.f k n) (spA n) ∧ Ev (fun k => impl_SpreadOfWalks.f k n) (spA n) := by
  unfold spA
  by_cases c : 0 ≤ n ∧ n ≤ 4
  · have h := List.all_eq_true.1 spR_all n.toNat (List.mem_range.2 (by omega))
    rw [show ((n.toNat : Nat) : Int) = n by omega] at h
    simp only [Bool.and_eq_true, decide_eq_true_eq, List.all_eq_true] at h
    obtain ⟨⟨⟨h1, h2⟩, h3⟩, h4⟩ := h
    rw [if_pos c]
    exact ⟨by omega, fun x hx => by have := h4 x hx; omega, Ev.of (fun k => spec_SpreadOfWalks.mono _ k) h2, Ev.of (fun k => impl_SpreadOfWalks.mono _ k) h1⟩
  · have e1 : ∃ b, spec_l1In.f n 0 4 = some b ∧ b = false := by
      unfold spec_l1In.f
      by_cases d : n ≥ 0
      · rw [if_pos d]; exact ⟨_, rfl, decide_eq_false (by omega)⟩
      · rw [if_neg d]; exact ⟨_, rfl, rfl⟩
    have e2 : ∃ b, impl_between.f n 0 4 = some b ∧ b = false := by
      unfold impl_between.f
      by_cases d : n ≥ 0
      · rw [if_pos d]; exact ⟨_, rfl, decide_eq_false (by omega)⟩
      · rw [if_neg d]; exact ⟨_, rfl, rfl⟩
    obtain ⟨b1, e1, rfl⟩ := e1
    obtain ⟨b2, e2, rfl⟩ := e2
    rw [if_neg c]
    refine ⟨by simp, by simp, ?_, ?_⟩
    · exact Ev.congr (fun k => by rw [spec_SpreadOfWalks.f, e1, Option.bind_some, if_neg (by simp)]) (Ev.now _)
    · exact Ev.congr (fun k => by rw [impl_SpreadOfWalks.f, e2, Option.bind_some, if_neg (by simp)]) (Ev.now _)

theorem FnExactSpreadOfWalks : laws_FnExactSpreadOfWalks.Pure := by
  intro n _
  obtain ⟨h1, h2, ⟨k1, e1⟩, ⟨k2, e2⟩⟩ := ev_spA n
  obtain ⟨⟨s, b⟩, hsb⟩ : ∃ r, r = spA n := ⟨_, rfl⟩
  rw [← hsb] at h1 h2 e1 e2
  obtain ⟨k5, e5⟩ := ev_eqIntSS s h1 h2
  obtain ⟨k7, e7⟩ := ev_markIntSS s h1 h2
  obtain ⟨k8, e8⟩ := ev_heldIntSS s h1 h2
  have ht := (totSS_range s h2).1
  refine ⟨k1 + k2 + k5 + k7 + k8, ?_⟩
  rw [laws_FnExactSpreadOfWalks.f, if_pos]
  exact ⟨s, b, _, _, e1 _ (by omega), e2 _ (by omega), e5 _ (by omega), e7 _ (by omega), e8 _ (by omega), by omega⟩

end Go.Proofs.Ytmamemhfeoopnaa.Pure
