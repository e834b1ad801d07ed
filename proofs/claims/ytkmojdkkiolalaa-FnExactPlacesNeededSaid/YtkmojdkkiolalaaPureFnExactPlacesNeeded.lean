/- PlacesNeeded of the program and of the reference agree on every list, and the argument stays as it was. -/
import Derived.Test.YtkmojdkkiolalaaWSized
import Derived.Test.YtkmojdkkiolalaaPFnExactPlacesNeededx
namespace Go.Proofs.Ytkmojdkkiolalaa.PrintWords
open Go.ChangeShapes Go.WideShapes
/-- The word by the name that the printed row asks for. -/
theorem sized_ints {H : Type} {enc : TypeId × Value → H} {P : Program} {W : World} {base : Nat} {spare : Nat → Bool} {held : Bool} {t e : TypeId} {k : IntKind} {a : Option Addr} {len cap : Nat} {d : DataW H} {ps : List MemPlace} {ts : List TypeId} {ds : List (DataW H)} {j : Nat}
    (hsz : (DataW.weightsEach P ts ds).all (· ≤ reachBytes) = true) (ht : ts[j]? = some t) (hd : ds[j]? = some d) (hu : P.underlying t = some (.slice e)) (he : P.underlying e = some (.int k)) (hc : P.cellsOf e = 1) {B : Nat} (hB : P.bytesOf e = B)
    (h : DataW.Trod enc P W base spare held t (.slice a len cap) d ps) : len * B ≤ 140737488351232 :=
  Go.Proofs.YtkmojdkkiolalaaW.PrintWords.sized_ints hsz ht hd hu he hc hB h
end Go.Proofs.Ytkmojdkkiolalaa.PrintWords
namespace Go.Proofs.Ytkmojdkkiolalaa.Pure
open Go.RowKit Go.Proofs.Ytkmojdkkiolalaa.PFnExactPlacesNeeded Go.Proofs.YtkmojdkkiolalaaW.PrintWords Go.Proofs.YtkmojdkkiolalaaW.PrintLast
set_option linter.unusedVariables false
set_option linter.unusedSimpArgs false

theorem w64 {x : Int} (h0 : -9223372036854775808 ≤ x) (h1 : x ≤ 9223372036854775807) : wrap64 x = x := by
  unfold wrap64
  omega
theorem rd_mid (p : List Int) (h : Int) (t : List Int) : rd (p ++ h :: t) (p.length : Int) = h := by
  unfold rd
  simp
theorem rd_nat (l : List Int) (i : Nat) : rd l (i : Int) = l.getD i 0 := by
  unfold rd
  simp
theorem Ev.ret {α : Type} {g : Nat → Option α} {r : α} (h : ∀ k, g (k + 1) = some r) : Ev g r :=
  Ev.step (f := fun _ => some r) h (Ev.now r)

theorem toIntS_l0 : ∀ (t p : List Int), p.length + t.length ≤ 35184372088832 →
    Ev (fun k => laws_toIntS.l0 k (p ++ t) (p ++ List.replicate t.length 0) (p.length : Int)) (p ++ t)
  | [], p, _ => by
    refine Ev.ret fun k => ?_
    rw [laws_toIntS.l0, if_neg (by simp)]
    simp
  | h :: t, p, hn => by
    have hn' : p.length + t.length + 1 ≤ 35184372088832 := by simpa [Nat.add_assoc] using hn
    have ih := toIntS_l0 t (p ++ [h]) (by simp; omega)
    have e1 : (p ++ [h]) ++ t = p ++ h :: t := by simp
    have e2 : (((p ++ [h]).length : Nat) : Int) = (p.length : Int) + 1 := by simp
    rw [e1, e2] at ih
    refine Ev.step (fun k => ?_) ih
    show laws_toIntS.l0 (k + 1) (p ++ h :: t) (p ++ List.replicate (h :: t).length 0) (p.length : Int) = _
    rw [laws_toIntS.l0, if_pos (by simp; omega), if_pos (by omega), if_pos (by simp; omega), rd_mid, w64 (by omega) (by omega)]
    congr 1
    simp [List.replicate_succ, List.set_append]
theorem ev_toIntS (l : List Int) (h : l.length ≤ 35184372088832) : Ev (fun k => laws_toIntS.f k l) l := by
  have z := toIntS_l0 l [] (by simpa using h)
  refine Ev.congr (fun k => ?_) z
  show laws_toIntS.f k l = _
  rw [laws_toIntS.f, if_pos (by omega), if_pos (by simpa using h)]
  simp

theorem eqIntS_l0 : ∀ (t p : List Int), p.length + t.length ≤ 35184372088832 →
    Ev (fun k => laws_eqIntS.l0 k (p ++ t) (p ++ t) (p.length : Int)) true
  | [], p, _ => by
    refine Ev.ret fun k => ?_
    rw [laws_eqIntS.l0, if_neg (by simp)]
  | h :: t, p, hn => by
    have hn' : p.length + t.length + 1 ≤ 35184372088832 := by simpa [Nat.add_assoc] using hn
    have ih := eqIntS_l0 t (p ++ [h]) (by simp; omega)
    have e1 : (p ++ [h]) ++ t = p ++ h :: t := by simp
    have e2 : (((p ++ [h]).length : Nat) : Int) = (p.length : Int) + 1 := by simp
    rw [e1, e2] at ih
    refine Ev.step (fun k => ?_) ih
    show laws_eqIntS.l0 (k + 1) (p ++ h :: t) (p ++ h :: t) (p.length : Int) = _
    rw [laws_eqIntS.l0, if_pos (by simp; omega), if_pos (by omega), if_pos (by simp; omega), rd_mid, if_pos rfl, w64 (by omega) (by omega)]
theorem ev_eqIntS (l : List Int) (h : l.length ≤ 35184372088832) : Ev (fun k => laws_eqIntS.f k l l) true := by
  have z := eqIntS_l0 l [] (by simpa using h)
  refine Ev.congr (fun k => ?_) z
  show laws_eqIntS.f k l l = _
  rw [laws_eqIntS.f, if_pos rfl]
  rfl

/-- One step of a walk along a list: what stands behind the place. -/
theorem len_snoc (p : List Int) (h : Int) : (((p ++ [h]).length : Nat) : Int) = (p.length : Int) + 1 := by simp
theorem app_snoc (p : List Int) (h : Int) (t : List Int) : (p ++ [h]) ++ t = p ++ h :: t := by simp
theorem len_mid (p : List Int) (h : Int) (t : List Int) : ((p ++ h :: t).length : Int) = (p.length : Int) + t.length + 1 := by simp; omega

/-- The first free place from x on, of d that are left; -1 if there is none. -/
def seek (out : List Int) : Nat → Int → Int
  | 0, _ => -1
  | d + 1, x => if x ∈ out then seek out d (x + 1) else x
theorem seek_range (out : List Int) : ∀ (d : Nat) (x : Int), seek out d x = -1 ∨ x ≤ seek out d x ∧ seek out d x < x + d ∧ seek out d x ∉ out
  | 0, x => .inl rfl
  | d + 1, x => by
    simp only [seek]
    by_cases c : x ∈ out
    · rw [if_pos c]
      rcases seek_range out d (x + 1) with h | ⟨h1, h2, h3⟩
      · exact .inl h
      · exact .inr ⟨by omega, by omega, h3⟩
    · rw [if_neg c]
      exact .inr ⟨by omega, by omega, c⟩
/-- The places of cars that come behind others, -1 for those that fail. -/
def driveS (places : Int) (out : List Int) : List Int → List Int
  | [] => out
  | c :: t => driveS places (out ++ [seek out (places - c).toNat c]) t
theorem driveS_prefix (places : Int) : ∀ (t out : List Int), ∃ s, s.length = t.length ∧ driveS places out t = out ++ s
  | [], out => ⟨[], rfl, by simp [driveS]⟩
  | c :: t, out => by
    obtain ⟨s, hl, h⟩ := driveS_prefix places t (out ++ [seek out (places - c).toNat c])
    exact ⟨seek out (places - c).toNat c :: s, by simp [hl], by rw [driveS, h]; simp⟩
theorem driveS_length (places : Int) (t out : List Int) : (driveS places out t).length = out.length + t.length := by
  obtain ⟨s, hl, h⟩ := driveS_prefix places t out
  rw [h]; simp [hl]
/-- Which places are taken. -/
def Tk (places : Int) (out : List Int) (taken : List Bool) : Prop :=
  (taken.length : Int) = places ∧ ∀ j : Nat, (j : Int) < places → taken.getD j false = decide ((j : Int) ∈ out)
theorem Tk.at {places : Int} {out : List Int} {taken : List Bool} (h : Tk places out taken) (x : Int) (h0 : 0 ≤ x) (h1 : x < places) : rdOf false taken x = decide (x ∈ out) := by
  have := h.2 x.toNat (by omega)
  have e : ((x.toNat : Nat) : Int) = x := by omega
  rw [e] at this
  exact this
theorem Tk.fail {places : Int} {out : List Int} {taken : List Bool} (h : Tk places out taken) : Tk places (out ++ [-1]) taken := by
  refine ⟨h.1, fun j hj => ?_⟩
  rw [h.2 j hj]
  exact decide_eq_decide.2 (by simp)
theorem Tk.take {places : Int} {out : List Int} {taken : List Bool} (h : Tk places out taken) (x : Int) (h0 : 0 ≤ x) (h1 : x < places) : Tk places (out ++ [x]) (taken.set x.toNat true) := by
  refine ⟨by simp [h.1], fun j hj => ?_⟩
  have hl := h.1
  have hx : x.toNat < taken.length := by omega
  have hjl : j < taken.length := by omega
  have e := h.2 j hj
  rw [List.getD_eq_getElem?_getD] at e ⊢
  by_cases c : x.toNat = j
  · rw [c, List.getElem?_set_self (by omega)]
    have : (j : Int) ∈ out ++ [x] := by simp; right; omega
    simp [this]
  · rw [List.getElem?_set_ne c, e]
    refine decide_eq_decide.2 ?_
    have : (j : Int) ≠ x := by omega
    simp [this]
theorem Tk.none (places : Int) (h0 : 0 ≤ places) : Tk places [] (List.replicate places.toNat false) := by
  refine ⟨by simp; omega, fun j hj => ?_⟩
  rw [List.getD_eq_getElem?_getD, List.getElem?_replicate]
  split <;> simp

/-- On a longer street a car that parks stands where it stood. -/
theorem seek_more (out : List Int) : ∀ (d e : Nat) (x : Int), seek out d x ≠ -1 → seek out (d + e) x = seek out d x
  | 0, e, x, h => absurd rfl h
  | d + 1, e, x, h => by
    rw [show d + 1 + e = (d + e) + 1 by omega]
    simp only [seek] at h ⊢
    by_cases c : x ∈ out
    · rw [if_pos c] at h ⊢
      rw [if_pos c]
      exact seek_more out d e (x + 1) h
    · rw [if_neg c, if_neg c]
/-- On a shorter street a car that would park in it stands where it stood. -/
theorem seek_less (out : List Int) : ∀ (d e : Nat) (x : Int), seek out (d + e) x ≠ -1 → seek out (d + e) x < x + d → seek out d x = seek out (d + e) x
  | 0, e, x, h, h1 => by
    exfalso
    rcases seek_range out (0 + e) x with h2 | ⟨h2, h3, _⟩
    · exact h h2
    · omega
  | d + 1, e, x, h, h1 => by
    rw [show d + 1 + e = (d + e) + 1 by omega] at h h1 ⊢
    simp only [seek] at h h1 ⊢
    by_cases c : x ∈ out
    · rw [if_pos c] at h h1
      rw [if_pos c, if_pos c]
      exact seek_less out d e (x + 1) h (by omega)
    · rw [if_neg c, if_neg c]
theorem driveS_less (P Q : Int) (hPQ : P ≤ Q) : ∀ (t out : List Int), (∀ c ∈ t, 0 ≤ c) → (-1 : Int) ∉ driveS Q out t → (∀ v ∈ driveS Q out t, v < P) → driveS P out t = driveS Q out t
  | [], out, _, _, _ => rfl
  | c :: t, out, hc, hn, hv => by
    rw [driveS] at hn hv ⊢
    rw [driveS]
    obtain ⟨s, _, hs⟩ := driveS_prefix Q t (out ++ [seek out (Q - c).toNat c])
    have hm : seek out (Q - c).toNat c ∈ driveS Q (out ++ [seek out (Q - c).toNat c]) t := by rw [hs]; simp
    have h1 : seek out (Q - c).toNat c ≠ -1 := fun e => hn (by rw [← e]; exact hm)
    have h2 := hv _ hm
    have h3 := hc c (by simp)
    have h4 : c ≤ seek out (Q - c).toNat c := by
      rcases seek_range out (Q - c).toNat c with h5 | ⟨h5, _, _⟩
      · exact absurd h5 h1
      · exact h5
    have e : (Q - c).toNat = (P - c).toNat + (Q - P).toNat := by omega
    rw [e] at h1 h2
    have h6 := seek_less out (P - c).toNat (Q - P).toNat c h1 (by omega)
    rw [h6, ← e]
    exact driveS_less P Q hPQ t _ (fun x hx => hc x (by simp [hx])) hn hv
theorem driveS_more (P Q : Int) (hPQ : P ≤ Q) : ∀ (t out : List Int), (∀ c ∈ t, 0 ≤ c ∧ c ≤ P) → (-1 : Int) ∉ driveS P out t → driveS Q out t = driveS P out t
  | [], out, _, _ => rfl
  | c :: t, out, hc, hn => by
    rw [driveS] at hn ⊢
    rw [driveS]
    obtain ⟨s, _, hs⟩ := driveS_prefix P t (out ++ [seek out (P - c).toNat c])
    have hm : seek out (P - c).toNat c ∈ driveS P (out ++ [seek out (P - c).toNat c]) t := by rw [hs]; simp
    have h1 : seek out (P - c).toNat c ≠ -1 := fun e => hn (by rw [← e]; exact hm)
    have h3 := hc c (by simp)
    have e : (Q - c).toNat = (P - c).toNat + (Q - P).toNat := by omega
    rw [e, seek_more out _ _ c h1]
    exact driveS_more P Q hPQ t _ (fun x hx => hc x (by simp [hx])) hn
/-- All places lie on the street, none before its car's favourite. -/
theorem driveS_range (P : Int) : ∀ (t out : List Int), (∀ c ∈ t, 0 ≤ c) → (∀ v ∈ out, v = -1 ∨ 0 ≤ v ∧ v < P) → ∀ v ∈ driveS P out t, v = -1 ∨ 0 ≤ v ∧ v < P
  | [], out, _, ho, v, hv => ho v hv
  | c :: t, out, hc, ho, v, hv => by
    rw [driveS] at hv
    refine driveS_range P t _ (fun x hx => hc x (by simp [hx])) (fun w hw => ?_) v hv
    rcases List.mem_append.1 hw with h | h
    · exact ho w h
    · rw [List.mem_singleton] at h
      subst h
      have h3 := hc c (by simp)
      rcases seek_range out (P - c).toNat c with h5 | ⟨h5, h6, _⟩
      · exact .inl h5
      · exact .inr ⟨by omega, by omega⟩
/-- Each car's favourite is at most the greatest place. -/
theorem driveS_above (P : Int) : ∀ (t out : List Int), (-1 : Int) ∉ driveS P out t → ∀ c ∈ t, ∃ v ∈ driveS P out t, c ≤ v
  | [], out, _, c, hc => by cases hc
  | x :: t, out, hn, c, hc => by
    rw [driveS] at hn ⊢
    rcases List.mem_cons.1 hc with rfl | h
    · obtain ⟨s, _, hs⟩ := driveS_prefix P t (out ++ [seek out (P - c).toNat c])
      have hm : seek out (P - c).toNat c ∈ driveS P (out ++ [seek out (P - c).toNat c]) t := by rw [hs]; simp
      refine ⟨_, hm, ?_⟩
      rcases seek_range out (P - c).toNat c with h5 | ⟨h5, _, _⟩
      · exact absurd (by rw [← h5]; exact hm) hn
      · exact h5
    · exact driveS_above P t _ hn c h

/-- What a drive hands back. -/
def orNone (l : List Int) : List Int × Bool := if (-1 : Int) ∈ l then ([], false) else (l, true)
theorem orNone_length (l : List Int) : (orNone l).1.length ≤ l.length := by
  unfold orNone
  split
  · simp
  · exact Nat.le_refl _

/-- What stands behind a car: it has failed, or it stands. -/
def DriveGoes (places : Int) (out : List Int) (w : Int) (cars : List Int) (n i : Int) (r : List Int × Bool) : Prop :=
  (w = -1 → r = ([], false)) ∧ (w ≠ -1 → ∀ taken', Tk places (out ++ [w]) taken' → Ev (fun k => impl_drive.l0 k places taken' (out ++ [w]) cars n (wrap64 (i + 1))) r)
theorem impl_drive_l1 (places : Int) (taken : List Bool) (out : List Int) (ht : Tk places out taken) (cars : List Int) (n i : Int) (ho : out.length ≤ 1000) (hp : places ≤ 1000) (r : List Int × Bool) : ∀ (d : Nat) (x : Int), (places - x).toNat = d → 0 ≤ x →
    DriveGoes places out (seek out d x) cars n i r → Ev (fun k => impl_drive.l1 k places taken out x cars n i) r
  | 0, x, hx, h0, h => by
    obtain rfl := h.1 rfl
    refine Ev.ret fun k => ?_
    rw [impl_drive.l1, if_neg (by omega), if_pos (by omega)]
  | d + 1, x, hx, h0, h => by
    have ha := ht.at x h0 (by omega)
    have hl := ht.1
    by_cases c : x ∈ out
    · rw [seek, if_pos c] at h
      refine Ev.step (fun k => ?_) (impl_drive_l1 places taken out ht cars n i ho hp r d (x + 1) (by omega) (by omega) h)
      show impl_drive.l1 (k + 1) places taken out x cars n i = _
      rw [impl_drive.l1, if_pos (by omega), if_pos (by omega), if_pos (by omega), ha, decide_eq_true c, if_pos rfl, w64 (by omega) (by omega)]
    · rw [seek, if_neg c] at h
      refine Ev.step (fun k => ?_) (h.2 (by omega) _ (ht.take x h0 (by omega)))
      show impl_drive.l1 (k + 1) places taken out x cars n i = _
      rw [impl_drive.l1, if_pos (by omega), if_pos (by omega), if_pos (by omega), ha, decide_eq_false c, if_neg (by simp), if_neg (by omega), if_pos (by omega)]
theorem impl_drive_l0 (places : Int) (hp : places ≤ 1000) : ∀ (t p out : List Int) (taken : List Bool), Tk places out taken → (-1 : Int) ∉ out → (∀ c ∈ t, 0 ≤ c) → p.length + t.length ≤ 500 → out.length + t.length ≤ 500 →
    Ev (fun k => impl_drive.l0 k places taken out (p ++ t) ((p ++ t).length : Int) (p.length : Int)) (orNone (driveS places out t))
  | [], p, out, taken, _, hnot, _, _, _ => by
    refine Ev.ret fun k => ?_
    rw [impl_drive.l0, if_neg (by simp)]
    show some (out, true) = some (orNone out)
    rw [orNone, if_neg hnot]
  | c :: t, p, out, taken, ht, hnot, hc, hn, ho => by
    have hn' : p.length + t.length + 1 ≤ 500 := by simpa [Nat.add_assoc] using hn
    have ho' : out.length + t.length + 1 ≤ 500 := by simpa [Nat.add_assoc] using ho
    have hm := len_mid p c t
    have h0 := hc c (by simp)
    refine Ev.step (fun k => ?_) (impl_drive_l1 places taken out ht (p ++ c :: t) ((p ++ c :: t).length : Int) (p.length : Int) (by omega) hp (orNone (driveS places out (c :: t))) (places - c).toNat c rfl h0 ⟨fun e => ?_, fun e taken' ht' => ?_⟩)
    · show impl_drive.l0 (k + 1) places taken out (p ++ c :: t) ((p ++ c :: t).length : Int) (p.length : Int) = _
      rw [impl_drive.l0, if_pos (by omega), if_pos (by omega), if_pos (by omega), rd_mid]
    · obtain ⟨s, _, hs⟩ := driveS_prefix places t (out ++ [-1])
      simp only [driveS, e, hs]
      unfold orNone
      rw [if_pos (by simp)]
    · have ih := impl_drive_l0 places hp t (p ++ [c]) (out ++ [seek out (places - c).toNat c]) taken' ht' (by simp [hnot]; exact fun h => e h.symm) (fun x hx => hc x (by simp [hx])) (by simp; omega) (by simp; omega)
      rw [app_snoc, len_snoc] at ih
      rw [w64 (by omega) (by omega)]
      exact ih
theorem ev_impl_drive (l : List Int) (places : Int) (hp0 : 0 ≤ places) (hp : places ≤ 1000) (hl : l.length ≤ 500) (hc : ∀ c ∈ l, 0 ≤ c) : Ev (fun k => impl_drive.f k l places) (orNone (driveS places [] l)) := by
  refine Ev.congr (fun k => by rw [impl_drive.f, if_pos hp0, if_pos (by omega)]) ?_
  exact impl_drive_l0 places hp l [] [] _ (Tk.none places hp0) (by simp) hc (by simpa using hl) (by simpa using hl)

/-- All numbers lie from lo to hi. -/
def inAll (lo hi : Int) (l : List Int) : Bool := l.all fun n => decide (lo ≤ n) && decide (n ≤ hi)
theorem inAll_iff (lo hi : Int) (l : List Int) : inAll lo hi l = true ↔ ∀ x ∈ l, lo ≤ x ∧ x ≤ hi := by
  simp [inAll, List.all_eq_true]
theorem inAll_cons (lo hi x : Int) (l : List Int) : inAll lo hi (x :: l) = ((decide (lo ≤ x) && decide (x ≤ hi)) && inAll lo hi l) := by
  simp [inAll]

/-- Favourites for a street with so many places. -/
def fav (l : List Int) (places : Int) : Bool := (decide (1 ≤ places) && decide (places ≤ 12)) && (decide (l.length ≤ 8) && inAll 0 (places - 1) l)
theorem fav_iff (l : List Int) (places : Int) : fav l places = true ↔ (1 ≤ places ∧ places ≤ 12) ∧ l.length ≤ 8 ∧ ∀ x ∈ l, 0 ≤ x ∧ x ≤ places - 1 := by
  simp only [fav, Bool.and_eq_true, decide_eq_true_eq, inAll_iff]

theorem slices_IndexFunc_l0 (q : Int → Bool) : ∀ (t p : List Int), p.length + t.length ≤ 35184372088832 →
    ∃ r : Int, decide (r ≥ 0) = t.any q ∧ Ev (fun k => slices_IndexFunc_int_int.l0 q k (p ++ t) ((p ++ t).length : Int) (p.length : Int)) r
  | [], p, _ => by
    refine ⟨-1, by simp, Ev.ret fun k => ?_⟩
    rw [slices_IndexFunc_int_int.l0, if_neg (by simp)]
  | h :: t, p, hn => by
    have hn' : p.length + t.length + 1 ≤ 35184372088832 := by simpa [Nat.add_assoc] using hn
    have hm := len_mid p h t
    cases c : q h with
    | true =>
      refine ⟨p.length, by simp [c], Ev.ret fun k => ?_⟩
      rw [slices_IndexFunc_int_int.l0, if_pos (by omega), if_pos (by omega), if_pos (by omega), rd_mid, c, Option.bind_some, if_pos rfl]
    | false =>
      obtain ⟨r, hr, ih⟩ := slices_IndexFunc_l0 q t (p ++ [h]) (by simp; omega)
      rw [app_snoc, len_snoc] at ih
      refine ⟨r, by simpa [c] using hr, Ev.step (fun k => ?_) ih⟩
      show slices_IndexFunc_int_int.l0 q (k + 1) (p ++ h :: t) ((p ++ h :: t).length : Int) (p.length : Int) = _
      rw [slices_IndexFunc_int_int.l0, if_pos (by omega), if_pos (by omega), if_pos (by omega), rd_mid, c, Option.bind_some, if_neg (by simp), w64 (by omega) (by omega)]
theorem ev_containsFunc (q : Int → Bool) (l : List Int) (hl : l.length ≤ 35184372088832) : Ev (fun k => slices_ContainsFunc_int_int.f q k l) (l.any q) := by
  obtain ⟨r, hr, h⟩ := slices_IndexFunc_l0 q l [] (by simpa using hl)
  rw [← hr]
  exact Ev.congr (fun k => rfl) (Ev.bind h (Ev.now _))

theorem ev_impl_between (a b c : Int) : impl_between.f a b c = some (decide (b ≤ a) && decide (a ≤ c)) := by
  unfold impl_between.f
  by_cases h : a ≥ b
  · rw [if_pos h]; simp [show b ≤ a from h]
  · rw [if_neg h]; simp [show ¬ b ≤ a from h]

theorem ev_impl_areBetween (l : List Int) (lo hi : Int) (hl : l.length ≤ 35184372088832) : Ev (fun k => impl_areBetween.f k l lo hi) (inAll lo hi l) := by
  have e : (!(l.any (impl_areBetween_1.p lo hi))) = inAll lo hi l := by
    have hp : ∀ n, impl_areBetween_1.p lo hi n = !(decide (lo ≤ n) && decide (n ≤ hi)) := fun n => by
      simp [impl_areBetween_1.p, ev_impl_between]
    unfold inAll
    induction l with
    | nil => rfl
    | cons x t ih =>
      rw [List.any_cons, List.all_cons, Bool.not_or, ih (by simp at hl; omega), hp, Bool.not_not]
  rw [← e]
  exact Ev.congr (fun k => rfl) (Ev.bind (ev_containsFunc (impl_areBetween_1.p lo hi) l hl) (Ev.now _))

theorem ev_impl_AreFavourites (l : List Int) (places : Int) : Ev (fun k => impl_AreFavourites.f k l places) (fav l places) := by
  cases c : decide (1 ≤ places) && decide (places ≤ 12) with
  | false =>
    refine Ev.congr (fun k => ?_) (Ev.now _)
    show impl_AreFavourites.f k l places = _
    rw [impl_AreFavourites.f, ev_impl_between, c]
    simp [fav, c]
  | true =>
    have cc : 1 ≤ places ∧ places ≤ 12 := by simpa using c
    by_cases d : l.length ≤ 8
    · have e : fav l places = inAll 0 (places - 1) l := by simp [fav, d, cc]
      rw [e]
      refine Ev.congr (fun k => by rw [impl_AreFavourites.f, ev_impl_between, c, Option.bind_some, if_pos rfl, if_pos (by omega), w64 (by omega) (by omega)]) ?_
      exact Ev.bind (ev_impl_areBetween l _ _ (by omega)) (Ev.now _)
    · refine Ev.congr (fun k => ?_) (Ev.now _)
      show impl_AreFavourites.f k l places = _
      rw [impl_AreFavourites.f, ev_impl_between, c, Option.bind_some, if_pos rfl, if_neg (by omega)]
      simp [fav, d]

theorem ev_spec_l1In (a b c : Int) : spec_l1In.f a b c = some (decide (b ≤ a) && decide (a ≤ c)) := by
  unfold spec_l1In.f
  by_cases h : a ≥ b
  · rw [if_pos h]; simp [show b ≤ a from h]
  · rw [if_neg h]; simp [show ¬ b ≤ a from h]

theorem spec_l1All_l0 (lo hi : Int) : ∀ (t p : List Int), p.length + t.length ≤ 35184372088832 →
    Ev (fun k => spec_l1All.l0 k lo hi (p ++ t) ((p ++ t).length : Int) (p.length : Int)) (inAll lo hi t)
  | [], p, _ => by
    refine Ev.ret fun k => ?_
    rw [spec_l1All.l0, if_neg (by simp)]
    rfl
  | h :: t, p, hn => by
    have hn' : p.length + t.length + 1 ≤ 35184372088832 := by simpa [Nat.add_assoc] using hn
    have hm := len_mid p h t
    rw [inAll_cons]
    cases c : decide (lo ≤ h) && decide (h ≤ hi) with
    | true =>
      have ih := spec_l1All_l0 lo hi t (p ++ [h]) (by simp; omega)
      rw [app_snoc, len_snoc] at ih
      rw [Bool.true_and]
      refine Ev.step (fun k => ?_) ih
      show spec_l1All.l0 (k + 1) lo hi (p ++ h :: t) ((p ++ h :: t).length : Int) (p.length : Int) = _
      rw [spec_l1All.l0, if_pos (by omega), if_pos (by omega), if_pos (by omega), rd_mid, ev_spec_l1In, c, Option.bind_some, if_pos rfl, w64 (by omega) (by omega)]
    | false =>
      rw [Bool.false_and]
      refine Ev.ret fun k => ?_
      rw [spec_l1All.l0, if_pos (by omega), if_pos (by omega), if_pos (by omega), rd_mid, ev_spec_l1In, c]
      rfl
theorem ev_spec_l1All (l : List Int) (lo hi : Int) (hl : l.length ≤ 35184372088832) : Ev (fun k => spec_l1All.f k l lo hi) (inAll lo hi l) :=
  spec_l1All_l0 lo hi l [] (by simpa using hl)

theorem ev_spec_paGood (l : List Int) (places : Int) : Ev (fun k => spec_paGood.f k l places) (fav l places) := by
  have hs : spec_paStreet.f places = some (decide (1 ≤ places) && decide (places ≤ 12)) := by
    unfold spec_paStreet.f
    rw [ev_spec_l1In]
    rfl
  cases c : decide (1 ≤ places) && decide (places ≤ 12) with
  | false =>
    refine Ev.congr (fun k => ?_) (Ev.now _)
    show spec_paGood.f k l places = _
    rw [spec_paGood.f, hs, c]
    simp [fav, c]
  | true =>
    have cc : 1 ≤ places ∧ places ≤ 12 := by simpa using c
    by_cases d : l.length ≤ 8
    · have e : fav l places = inAll 0 (places - 1) l := by simp [fav, d, cc]
      rw [e]
      refine Ev.congr (fun k => by rw [spec_paGood.f, hs, c, Option.bind_some, if_pos rfl, if_pos (by omega), w64 (by omega) (by omega)]) ?_
      exact Ev.bind (ev_spec_l1All l _ _ (by omega)) (Ev.now _)
    · refine Ev.congr (fun k => ?_) (Ev.now _)
      show spec_paGood.f k l places = _
      rw [spec_paGood.f, hs, c, Option.bind_some, if_pos rfl, if_neg (by omega)]
      simp [fav, d]

theorem spec_l1Has_l0 (x : Int) : ∀ (t p : List Int), p.length + t.length ≤ 35184372088832 →
    Ev (fun k => spec_l1Has.l0 k x (p ++ t) ((p ++ t).length : Int) (p.length : Int)) (decide (x ∈ t))
  | [], p, _ => by
    refine Ev.ret fun k => ?_
    rw [spec_l1Has.l0, if_neg (by simp)]
    simp
  | h :: t, p, hn => by
    have hn' : p.length + t.length + 1 ≤ 35184372088832 := by simpa [Nat.add_assoc] using hn
    have hm := len_mid p h t
    by_cases c : h = x
    · rw [decide_eq_true (by simp [c] : x ∈ h :: t)]
      refine Ev.ret fun k => ?_
      rw [spec_l1Has.l0, if_pos (by omega), if_pos (by omega), if_pos (by omega), rd_mid, if_pos c]
    · have ih := spec_l1Has_l0 x t (p ++ [h]) (by simp; omega)
      rw [app_snoc, len_snoc] at ih
      have e : decide (x ∈ h :: t) = decide (x ∈ t) := decide_eq_decide.2 (by simp [Ne.symm c])
      rw [e]
      refine Ev.step (fun k => ?_) ih
      show spec_l1Has.l0 (k + 1) x (p ++ h :: t) ((p ++ h :: t).length : Int) (p.length : Int) = _
      rw [spec_l1Has.l0, if_pos (by omega), if_pos (by omega), if_pos (by omega), rd_mid, if_neg c, w64 (by omega) (by omega)]
theorem ev_spec_l1Has (l : List Int) (x : Int) (hl : l.length ≤ 35184372088832) : Ev (fun k => spec_l1Has.f k l x) (decide (x ∈ l)) :=
  spec_l1Has_l0 x l [] (by simpa using hl)

theorem spec_paDrive_l1 (places : Int) (cars : List Int) (n i : Int) (out : List Int) (ho : out.length ≤ 1000) (r : List Int) : ∀ (d : Nat) (x : Int), x + d = places → 0 ≤ x → places ≤ 1000 →
    Ev (fun k => spec_paDrive.l0 k places (out ++ [seek out d x]) cars n (wrap64 (i + 1))) r → Ev (fun k => spec_paDrive.l1 k places out x cars n i) r
  | 0, x, hx, h0, hp, h => by
    refine Ev.step (fun k => ?_) h
    show spec_paDrive.l1 (k + 1) places out x cars n i = _
    rw [spec_paDrive.l1, if_neg (by omega), if_pos (by omega), if_pos (by omega)]
    rfl
  | d + 1, x, hx, h0, hp, h => by
    by_cases c : x ∈ out
    · have ih := spec_paDrive_l1 places cars n i out ho r d (x + 1) (by omega) (by omega) hp (by rw [seek, if_pos c] at h; exact h)
      refine Ev.step (f := fun k => (spec_l1Has.f k out x).bind fun t => if t = true then spec_paDrive.l1 k places out (wrap64 (x + 1)) cars n i else if x ≥ places then if out.length < 17592186044416 then spec_paDrive.l0 k places (out ++ [-1]) cars n (wrap64 (i + 1)) else none else if out.length < 17592186044416 then spec_paDrive.l0 k places (out ++ [x]) cars n (wrap64 (i + 1)) else none) (fun k => ?_) ?_
      · rw [spec_paDrive.l1, if_pos (by omega)]
      · refine Ev.bind (ev_spec_l1Has out x (by omega)) ?_
        rw [decide_eq_true c, w64 (by omega) (by omega)]
        exact ih
    · refine Ev.step (f := fun k => (spec_l1Has.f k out x).bind fun t => if t = true then spec_paDrive.l1 k places out (wrap64 (x + 1)) cars n i else if x ≥ places then if out.length < 17592186044416 then spec_paDrive.l0 k places (out ++ [-1]) cars n (wrap64 (i + 1)) else none else if out.length < 17592186044416 then spec_paDrive.l0 k places (out ++ [x]) cars n (wrap64 (i + 1)) else none) (fun k => ?_) ?_
      · rw [spec_paDrive.l1, if_pos (by omega)]
      · refine Ev.bind (ev_spec_l1Has out x (by omega)) ?_
        rw [decide_eq_false c]
        rw [seek, if_neg c] at h
        refine Ev.congr (fun k => ?_) h
        show (if false = true then _ else _) = _
        rw [if_neg (by simp), if_neg (by omega), if_pos (by omega)]
theorem spec_paDrive_l0 (places : Int) (hp : places ≤ 1000) : ∀ (t p out : List Int), (∀ c ∈ t, 0 ≤ c ∧ c ≤ places) → p.length + t.length ≤ 500 → out.length + t.length ≤ 500 →
    Ev (fun k => spec_paDrive.l0 k places out (p ++ t) ((p ++ t).length : Int) (p.length : Int)) (driveS places out t)
  | [], p, out, _, _, _ => by
    refine Ev.ret fun k => ?_
    rw [spec_paDrive.l0, if_neg (by simp)]
    rfl
  | c :: t, p, out, hc, hn, ho => by
    have hn' : p.length + t.length + 1 ≤ 500 := by simpa [Nat.add_assoc] using hn
    have ho' : out.length + t.length + 1 ≤ 500 := by simpa [Nat.add_assoc] using ho
    have hm := len_mid p c t
    have h0 := hc c (by simp)
    have ih := spec_paDrive_l0 places hp t (p ++ [c]) (out ++ [seek out (places - c).toNat c]) (fun x hx => hc x (by simp [hx])) (by simp; omega) (by simp; omega)
    rw [app_snoc, len_snoc] at ih
    refine Ev.step (fun k => ?_) (spec_paDrive_l1 places (p ++ c :: t) ((p ++ c :: t).length : Int) (p.length : Int) out (by omega) _ (places - c).toNat c (by omega) (by omega) hp ?_)
    · show spec_paDrive.l0 (k + 1) places out (p ++ c :: t) ((p ++ c :: t).length : Int) (p.length : Int) = _
      rw [spec_paDrive.l0, if_pos (by omega), if_pos (by omega), if_pos (by omega), rd_mid]
    · rw [w64 (by omega) (by omega)]
      exact ih
theorem ev_spec_paDrive (l : List Int) (places : Int) (hp : places ≤ 1000) (hl : l.length ≤ 500) (hc : ∀ c ∈ l, 0 ≤ c ∧ c ≤ places) : Ev (fun k => spec_paDrive.f k l places) (driveS places [] l) :=
  spec_paDrive_l0 places hp l [] [] hc (by simpa using hl) (by simpa using hl)

theorem ev_spec_paAll (l : List Int) (places : Int) (hp : places ≤ 1000) (hl : l.length ≤ 500) (hc : ∀ c ∈ l, 0 ≤ c ∧ c ≤ places) : Ev (fun k => spec_paAll.f k l places) (!(decide ((-1 : Int) ∈ driveS places [] l))) := by
  refine Ev.congr (fun k => rfl) (Ev.bind (ev_spec_paDrive l places hp hl hc) ?_)
  exact Ev.bind (ev_spec_l1Has _ (-1) (by rw [driveS_length]; simp; omega)) (Ev.now _)

theorem slices_Max_l0 : ∀ (t p : List Int) (m : Int), p.length + t.length ≤ 35184372088832 → m ∈ p → (∀ x ∈ p, x ≤ m) →
    ∃ r, r ∈ p ++ t ∧ (∀ x ∈ p ++ t, x ≤ r) ∧ Ev (fun k => slices_Max_int_int.l0 k (p ++ t) m (p.length : Int)) r
  | [], p, m, _, hm, hx => by
    refine ⟨m, by simpa using hm, by simpa using hx, Ev.ret fun k => ?_⟩
    rw [slices_Max_int_int.l0, if_neg (by simp)]
  | h :: t, p, m, hn, hm, hx => by
    have hn' : p.length + t.length + 1 ≤ 35184372088832 := by simpa [Nat.add_assoc] using hn
    have hlm := len_mid p h t
    have e : mx m h = if h ≤ m then m else h := by
      unfold mx
      split <;> split <;> omega
    have h1 : mx m h ∈ p ++ [h] := by
      rw [e]
      split
      · exact List.mem_append_left _ hm
      · simp
    have h2 : ∀ x ∈ p ++ [h], x ≤ mx m h := fun x hx' => by
      rw [e]
      rcases List.mem_append.1 hx' with h3 | h3
      · have := hx x h3
        split <;> omega
      · rw [List.mem_singleton] at h3
        split <;> omega
    obtain ⟨r, a, b, c⟩ := slices_Max_l0 t (p ++ [h]) (mx m h) (by simp; omega) h1 h2
    rw [app_snoc, len_snoc] at *
    refine ⟨r, a, b, Ev.step (fun k => ?_) c⟩
    show slices_Max_int_int.l0 (k + 1) (p ++ h :: t) m (p.length : Int) = _
    rw [slices_Max_int_int.l0, if_pos (by omega), if_pos (by omega), rd_mid, w64 (by omega) (by omega)]
theorem ev_slices_Max (l : List Int) (hl : l.length ≤ 35184372088832) (h0 : l ≠ []) : ∃ r, r ∈ l ∧ (∀ x ∈ l, x ≤ r) ∧ Ev (fun k => slices_Max_int_int.f k l) r := by
  cases l with
  | nil => exact absurd rfl h0
  | cons h t =>
    obtain ⟨r, a, b, c⟩ := slices_Max_l0 t [h] h (by simp at hl ⊢; omega) (by simp) (by simp)
    refine ⟨r, a, b, Ev.congr (fun k => ?_) c⟩
    show slices_Max_int_int.f k (h :: t) = _
    rw [slices_Max_int_int.f, if_neg (by simp; omega), if_pos (by simp)]
    rfl

/-- On a street of so many places all cars park. -/
def parksOn (l : List Int) (P : Int) : Bool := inAll 0 (P - 1) l && !(decide ((-1 : Int) ∈ driveS P [] l))
theorem spec_PlacesNeeded_l0 (l : List Int) (hl : l.length ≤ 8) (hx : ∀ x ∈ l, 0 ≤ x) : ∀ (m : Nat) (P : Int), 1 ≤ P → P + m = 13 →
    (∃ Q, P ≤ Q ∧ Q ≤ 12 ∧ parksOn l Q = true ∧ (∀ R, P ≤ R → R < Q → parksOn l R = false) ∧ Ev (fun k => spec_PlacesNeeded.l0 k l P) (Q, true)) ∨
    ((∀ R, P ≤ R → R ≤ 12 → parksOn l R = false) ∧ Ev (fun k => spec_PlacesNeeded.l0 k l P) (0, false))
  | 0, P, h1, hm => by
    refine .inr ⟨fun R h2 h3 => by omega, Ev.ret fun k => ?_⟩
    rw [spec_PlacesNeeded.l0, if_neg (by omega)]
  | m + 1, P, h1, hm => by
    have ha := ev_spec_l1All l 0 (P - 1) (by omega)
    have hgo : ∀ r, parksOn l P = false → Ev (fun k => spec_PlacesNeeded.l0 k l (P + 1)) r → Ev (fun k => spec_PlacesNeeded.l0 k l P) r := by
      intro r hno h
      refine Ev.step (fun k => by rw [spec_PlacesNeeded.l0, if_pos (by omega), w64 (by omega) (by omega), w64 (by omega) (by omega)]) ?_
      refine Ev.bind ha ?_
      cases c : inAll 0 (P - 1) l with
      | false => exact Ev.congr (fun k => by rw [if_neg (by simp)]) h
      | true =>
        refine Ev.congr (fun k => by rw [if_pos rfl]) ?_
        have hp := (inAll_iff _ _ _).1 c
        refine Ev.bind (ev_spec_paAll l P (by omega) (by omega) (fun x h2 => by have := hp x h2; omega)) ?_
        have e : (!(decide ((-1 : Int) ∈ driveS P [] l))) = false := by
          rw [parksOn, c, Bool.true_and] at hno
          exact hno
        rw [e]
        exact Ev.congr (fun k => by rw [if_neg (by simp)]) h
    cases c : parksOn l P with
    | true =>
      refine .inl ⟨P, by omega, by omega, c, fun R h2 h3 => by omega, ?_⟩
      have cc : inAll 0 (P - 1) l = true ∧ (!(decide ((-1 : Int) ∈ driveS P [] l))) = true := by simpa only [parksOn, Bool.and_eq_true] using c
      refine Ev.step (fun k => by rw [spec_PlacesNeeded.l0, if_pos (by omega), w64 (by omega) (by omega)]) ?_
      refine Ev.bind ha ?_
      rw [cc.1]
      refine Ev.congr (fun k => by rw [if_pos rfl]) ?_
      have hp := (inAll_iff _ _ _).1 cc.1
      refine Ev.bind (ev_spec_paAll l P (by omega) (by omega) (fun x h2 => by have := hp x h2; omega)) ?_
      rw [cc.2]
      exact Ev.congr (fun k => by rw [if_pos rfl]) (Ev.now _)
    | false =>
      rcases spec_PlacesNeeded_l0 l hl hx m (P + 1) (by omega) (by omega) with ⟨Q, a, b, d, e, f⟩ | ⟨a, b⟩
      · refine .inl ⟨Q, by omega, b, d, fun R h2 h3 => ?_, hgo _ c f⟩
        rcases Int.lt_or_le P R with h4 | h4
        · exact e R (by omega) h3
        · obtain rfl : R = P := by omega
          exact c
      · refine .inr ⟨fun R h2 h3 => ?_, hgo _ c b⟩
        rcases Int.lt_or_le P R with h4 | h4
        · exact a R (by omega) h3
        · obtain rfl : R = P := by omega
          exact c
theorem parksOn_iff (l : List Int) (hx : ∀ x ∈ l, 0 ≤ x) (P : Int) (h0 : 1 ≤ P) (h1 : P ≤ 12) : parksOn l P = true ↔ (-1 : Int) ∉ driveS 12 [] l ∧ ∀ v ∈ driveS 12 [] l, v < P := by
  simp only [parksOn, Bool.and_eq_true, inAll_iff, Bool.not_eq_true', decide_eq_false_iff_not]
  constructor
  · rintro ⟨h2, h3⟩
    have e := driveS_more P 12 h1 l [] (fun c hc => by have := h2 c hc; omega) h3
    rw [e]
    refine ⟨h3, fun v hv => ?_⟩
    rcases driveS_range P l [] hx (by simp) v hv with h4 | h4
    · exact absurd (h4 ▸ hv) h3
    · exact h4.2
  · rintro ⟨h2, h3⟩
    have e := driveS_less P 12 h1 l [] hx h2 h3
    refine ⟨fun c hc => ⟨hx c hc, ?_⟩, by rw [e]; exact h2⟩
    obtain ⟨v, hv, h4⟩ := driveS_above 12 l [] h2 c hc
    have := h3 v hv
    omega
theorem placesNeeded_both (l : List Int) : ∃ r : Int × Bool, Ev (fun k => spec_PlacesNeeded.f k l) r ∧ Ev (fun k => impl_PlacesNeeded.f k l) r := by
  cases c : fav l 12 with
  | false =>
    refine ⟨(0, false), ?_, ?_⟩
    · refine Ev.congr (fun k => rfl) (Ev.bind (ev_spec_paGood l 12) ?_)
      rw [c]; exact Ev.now _
    · refine Ev.congr (fun k => rfl) (Ev.bind (a := ([], false)) (Ev.congr (fun k => rfl) (Ev.bind (ev_impl_AreFavourites l 12) ?_)) ?_)
      · rw [c]; exact Ev.now _
      · exact Ev.now _
  | true =>
    obtain ⟨_, h8, h4⟩ := (fav_iff l 12).1 c
    have hx : ∀ x ∈ l, 0 ≤ x := fun x h => (h4 x h).1
    have hd : Ev (fun k => impl_DriveCars.f k l 12) (orNone (driveS 12 [] l)) := by
      refine Ev.congr (fun k => rfl) (Ev.bind (ev_impl_AreFavourites l 12) ?_)
      rw [c]
      refine Ev.congr (fun k => by rw [if_pos rfl]) ?_
      exact Ev.bind (ev_impl_drive l 12 (by omega) (by omega) (by omega) hx) (Ev.now _)
    have hs : ∀ r, Ev (fun k => spec_PlacesNeeded.l0 k l 1) r → Ev (fun k => spec_PlacesNeeded.f k l) r := fun r h => by
      refine Ev.congr (fun k => rfl) (Ev.bind (ev_spec_paGood l 12) ?_)
      rw [c]
      exact Ev.congr (fun k => by rw [if_pos rfl]) h
    by_cases d : (-1 : Int) ∈ driveS 12 [] l
    · refine ⟨(0, false), ?_, ?_⟩
      · rcases spec_PlacesNeeded_l0 l h8 hx 12 1 (by omega) (by omega) with ⟨Q, a, b, e, _, _⟩ | ⟨_, h⟩
        · exact absurd d ((parksOn_iff l hx Q a b).1 e).1
        · exact hs _ h
      · refine Ev.congr (fun k => rfl) (Ev.bind hd ?_)
        rw [orNone, if_pos d]
        exact Ev.now _
    · obtain ⟨M, hM, hb, hmax⟩ := ev_slices_Max (driveS 12 [] l ++ [0]) (by rw [List.length_append, driveS_length]; simp; omega) (by simp)
      have hM0 : 0 ≤ M := hb 0 (by simp)
      have hM12 : M < 12 := by
        rcases List.mem_append.1 hM with h | h
        · rcases driveS_range 12 l [] hx (by simp) M h with h5 | h5
          · omega
          · exact h5.2
        · rw [List.mem_singleton] at h; omega
      refine ⟨(M + 1, true), ?_, ?_⟩
      · have hpark : ∀ P, 1 ≤ P → P ≤ 12 → (parksOn l P = true ↔ M < P) := fun P h1 h2 => by
          rw [parksOn_iff l hx P h1 h2]
          constructor
          · rintro ⟨_, h3⟩
            rcases List.mem_append.1 hM with h | h
            · exact h3 M h
            · rw [List.mem_singleton] at h; omega
          · intro h3
            exact ⟨d, fun v hv => by have := hb v (List.mem_append_left _ hv); omega⟩
        rcases spec_PlacesNeeded_l0 l h8 hx 12 1 (by omega) (by omega) with ⟨Q, a, b, e, f, h⟩ | ⟨h, _⟩
        · have h1 := (hpark Q a b).1 e
          have h2 : ¬ M + 1 < Q := fun h3 => by
            have h4 := f (M + 1) (by omega) h3
            rw [(hpark (M + 1) (by omega) (by omega)).2 (by omega)] at h4
            cases h4
          obtain rfl : Q = M + 1 := by omega
          exact hs _ h
        · have h4 := h (M + 1) (by omega) (by omega)
          rw [(hpark (M + 1) (by omega) (by omega)).2 (by omega)] at h4
          cases h4
      · refine Ev.congr (fun k => rfl) (Ev.bind hd ?_)
        rw [orNone, if_neg d]
        have hlen : (driveS 12 [] l).length < 17592186044416 := by rw [driveS_length]; simp; omega
        refine Ev.congr (fun k => by rw [if_pos rfl, if_pos hlen]) ?_
        refine Ev.bind hmax ?_
        have e : mx (wrap64 (M + 1)) 1 = M + 1 := by
          rw [w64 (by omega) (by omega)]
          unfold mx
          split <;> omega
        rw [e]
        exact Ev.now _

theorem FnExactPlacesNeeded : laws_FnExactPlacesNeeded.Pure := by
  intro l0 _ _ _
  by_cases c0 : (l0.length : Int) > 1048576
  · refine ⟨0, ?_⟩
    rw [laws_FnExactPlacesNeeded.f, if_pos c0]
  have hl0 : l0.length ≤ 35184372088832 := by omega
  obtain ⟨r, hs, hi⟩ := placesNeeded_both l0
  refine Ev.rounds ?_
  refine Ev.congr (fun k => by rw [laws_FnExactPlacesNeeded.f, if_neg c0]) ?_
  refine Ev.bind (ev_toIntS l0 hl0) ?_
  refine Ev.bind (hs) ?_
  refine Ev.bind (ev_toIntS l0 hl0) ?_
  refine Ev.bind (hi) ?_
  refine Ev.congr (fun k => by rw [if_pos rfl, bne_self_eq_false]) ?_
  refine Ev.step (fun k => by rw [laws_FnExactPlacesNeeded.j0, if_neg (by simp)]) ?_
  refine Ev.bind (ev_toIntS l0 hl0) ?_
  refine Ev.bind (ev_eqIntS l0 hl0) ?_
  refine Ev.congr (fun k => by rw [if_pos rfl]) ?_
  exact Ev.now true

end Go.Proofs.Ytkmojdkkiolalaa.Pure
