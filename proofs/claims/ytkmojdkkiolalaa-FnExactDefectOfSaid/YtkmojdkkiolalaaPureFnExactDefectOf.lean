/- DefectOf of the program and of the reference agree on every list and number of places, and the argument stays as it was. -/
import Derived.Test.YtkmojdkkiolalaaWSized
import Derived.Test.YtkmojdkkiolalaaPFnExactDefectOfx
namespace Go.Proofs.Ytkmojdkkiolalaa.PrintWords
open Go.ChangeShapes Go.WideShapes
/-- The word by the name that the printed row asks for. -/
theorem sized_ints {H : Type} {enc : TypeId × Value → H} {P : Program} {W : World} {base : Nat} {spare : Nat → Bool} {held : Bool} {t e : TypeId} {k : IntKind} {a : Option Addr} {len cap : Nat} {d : DataW H} {ps : List MemPlace} {ts : List TypeId} {ds : List (DataW H)} {j : Nat}
    (hsz : (DataW.weightsEach P ts ds).all (· ≤ reachBytes) = true) (ht : ts[j]? = some t) (hd : ds[j]? = some d) (hu : P.underlying t = some (.slice e)) (he : P.underlying e = some (.int k)) (hc : P.cellsOf e = 1) {B : Nat} (hB : P.bytesOf e = B)
    (h : DataW.Trod enc P W base spare held t (.slice a len cap) d ps) : len * B ≤ 140737488351232 :=
  Go.Proofs.YtkmojdkkiolalaaW.PrintWords.sized_ints hsz ht hd hu he hc hB h
end Go.Proofs.Ytkmojdkkiolalaa.PrintWords
namespace Go.Proofs.Ytkmojdkkiolalaa.Pure
open Go.RowKit Go.Proofs.Ytkmojdkkiolalaa.PFnExactDefectOf Go.Proofs.YtkmojdkkiolalaaW.PrintWords Go.Proofs.YtkmojdkkiolalaaW.PrintLast
set_option linter.unusedVariables false
set_option linter.unusedSimpArgs false

theorem w64 {x : Int} (h0 : -9223372036854775808 ≤ x) (h1 : x ≤ 9223372036854775807) : wrap64 x = x := by
  unfold wrap64
  omega
theorem rd_mid (p : List Int) (h : Int) (t : List Int) : rd (p ++ h :: t) (p.length : Int) = h := by
  unfold rd
  simp
theorem rd_nat (l : List Int) (i : Nat) : rd l (i : Int) = l.getD i 0 := by
  unfold rd
  simp
theorem Ev.ret {α : Type} {g : Nat → Option α} {r : α} (h : ∀ k, g (k + 1) = some r) : Ev g r :=
  Ev.step (f := fun _ => some r) h (Ev.now r)

theorem toIntS_l0 : ∀ (t p : List Int), p.length + t.length ≤ 35184372088832 →
    Ev (fun k => laws_toIntS.l0 k (p ++ t) (p ++ List.replicate t.length 0) (p.length : Int)) (p ++ t)
  | [], p, _ => by
    refine Ev.ret fun k => ?_
    rw [laws_toIntS.l0, if_neg (by simp)]
    simp
  | h :: t, p, hn => by
    have hn' : p.length + t.length + 1 ≤ 35184372088832 := by simpa [Nat.add_assoc] using hn
    have ih := toIntS_l0 t (p ++ [h]) (by simp; omega)
    have e1 : (p ++ [h]) ++ t = p ++ h :: t := by simp
    have e2 : (((p ++ [h]).length : Nat) : Int) = (p.length : Int) + 1 := by simp
    rw [e1, e2] at ih
    refine Ev.step (fun k => ?_) ih
    show laws_toIntS.l0 (k + 1) (p ++ h :: t) (p ++ List.replicate (h :: t).length 0) (p.length : Int) = _
    rw [laws_toIntS.l0, if_pos (by simp; omega), if_pos (by omega), if_pos (by simp; omega), rd_mid, w64 (by omega) (by omega)]
    congr 1
    simp [List.replicate_succ, List.set_append]
theorem ev_toIntS (l : List Int) (h : l.length ≤ 35184372088832) : Ev (fun k => laws_toIntS.f k l) l := by
  have z := toIntS_l0 l [] (by simpa using h)
  refine Ev.congr (fun k => ?_) z
  show laws_toIntS.f k l = _
  rw [laws_toIntS.f, if_pos (by omega), if_pos (by simpa using h)]
  simp

theorem eqIntS_l0 : ∀ (t p : List Int), p.length + t.length ≤ 35184372088832 →
    Ev (fun k => laws_eqIntS.l0 k (p ++ t) (p ++ t) (p.length : Int)) true
  | [], p, _ => by
    refine Ev.ret fun k => ?_
    rw [laws_eqIntS.l0, if_neg (by simp)]
  | h :: t, p, hn => by
    have hn' : p.length + t.length + 1 ≤ 35184372088832 := by simpa [Nat.add_assoc] using hn
    have ih := eqIntS_l0 t (p ++ [h]) (by simp; omega)
    have e1 : (p ++ [h]) ++ t = p ++ h :: t := by simp
    have e2 : (((p ++ [h]).length : Nat) : Int) = (p.length : Int) + 1 := by simp
    rw [e1, e2] at ih
    refine Ev.step (fun k => ?_) ih
    show laws_eqIntS.l0 (k + 1) (p ++ h :: t) (p ++ h :: t) (p.length : Int) = _
    rw [laws_eqIntS.l0, if_pos (by simp; omega), if_pos (by omega), if_pos (by simp; omega), rd_mid, if_pos rfl, w64 (by omega) (by omega)]
theorem ev_eqIntS (l : List Int) (h : l.length ≤ 35184372088832) : Ev (fun k => laws_eqIntS.f k l l) true := by
  have z := eqIntS_l0 l [] (by simpa using h)
  refine Ev.congr (fun k => ?_) z
  show laws_eqIntS.f k l l = _
  rw [laws_eqIntS.f, if_pos rfl]
  rfl

/-- One step of a walk along a list: what stands behind the place. -/
theorem len_snoc (p : List Int) (h : Int) : (((p ++ [h]).length : Nat) : Int) = (p.length : Int) + 1 := by simp
theorem app_snoc (p : List Int) (h : Int) (t : List Int) : (p ++ [h]) ++ t = p ++ h :: t := by simp
theorem len_mid (p : List Int) (h : Int) (t : List Int) : ((p ++ h :: t).length : Int) = (p.length : Int) + t.length + 1 := by simp; omega

/-- How many numbers are so. -/
def cnt (q : Int → Bool) : List Int → Int
  | [] => 0
  | h :: t => (if q h = true then 1 else 0) + cnt q t
theorem cnt_range (q : Int → Bool) : ∀ l : List Int, 0 ≤ cnt q l ∧ cnt q l ≤ l.length
  | [] => by simp [cnt]
  | h :: t => by
    have := cnt_range q t
    have e : ((h :: t).length : Int) = (t.length : Int) + 1 := by simp
    simp only [cnt]
    rw [e]
    split <;> omega
theorem cnt_append (q : Int → Bool) : ∀ a b : List Int, cnt q (a ++ b) = cnt q a + cnt q b
  | [], b => by simp [cnt]
  | h :: t, b => by simp only [List.cons_append, cnt, cnt_append q t b]; omega

theorem impl_countIf_l0 (q : Int → Bool) : ∀ (t p : List Int) (acc : Int), 0 ≤ acc → acc ≤ p.length → p.length + t.length ≤ 35184372088832 →
    Ev (fun k => impl_countIf.l0 q k acc (p ++ t) ((p ++ t).length : Int) (p.length : Int)) (acc + cnt q t)
  | [], p, acc, _, _, _ => by
    refine Ev.ret fun k => ?_
    rw [impl_countIf.l0, if_neg (by simp)]
    simp [cnt]
  | h :: t, p, acc, h0, h1, hn => by
    have hn' : p.length + t.length + 1 ≤ 35184372088832 := by simpa [Nat.add_assoc] using hn
    have hm := len_mid p h t
    cases c : q h with
    | true =>
      have ih := impl_countIf_l0 q t (p ++ [h]) (acc + 1) (by omega) (by rw [len_snoc]; omega) (by simp; omega)
      rw [app_snoc, len_snoc] at ih
      have e : acc + cnt q (h :: t) = acc + 1 + cnt q t := by simp only [cnt, c, if_true]; omega
      rw [e]
      refine Ev.step (fun k => ?_) ih
      show impl_countIf.l0 q (k + 1) acc (p ++ h :: t) ((p ++ h :: t).length : Int) (p.length : Int) = _
      rw [impl_countIf.l0, if_pos (by omega), if_pos (by omega), if_pos (by omega), rd_mid, c, Option.bind_some, if_pos rfl, w64 (by omega) (by omega), w64 (by omega) (by omega)]
    | false =>
      have ih := impl_countIf_l0 q t (p ++ [h]) acc h0 (by rw [len_snoc]; omega) (by simp; omega)
      rw [app_snoc, len_snoc] at ih
      have e : acc + cnt q (h :: t) = acc + cnt q t := by simp only [cnt, c]; simp
      rw [e]
      refine Ev.step (fun k => ?_) ih
      show impl_countIf.l0 q (k + 1) acc (p ++ h :: t) ((p ++ h :: t).length : Int) (p.length : Int) = _
      rw [impl_countIf.l0, if_pos (by omega), if_pos (by omega), if_pos (by omega), rd_mid, c, Option.bind_some, if_neg (by simp), w64 (by omega) (by omega)]
theorem ev_impl_countIf (q : Int → Bool) (l : List Int) (hl : l.length ≤ 35184372088832) : Ev (fun k => impl_countIf.f q k l) (cnt q l) := by
  have := impl_countIf_l0 q l [] 0 (by omega) (by simp) (by simpa using hl)
  rwa [Int.zero_add] at this

/-- The first free place from x on, of d that are left; -1 if there is none. -/
def seek (out : List Int) : Nat → Int → Int
  | 0, _ => -1
  | d + 1, x => if x ∈ out then seek out d (x + 1) else x
theorem seek_range (out : List Int) : ∀ (d : Nat) (x : Int), seek out d x = -1 ∨ x ≤ seek out d x ∧ seek out d x < x + d ∧ seek out d x ∉ out
  | 0, x => .inl rfl
  | d + 1, x => by
    simp only [seek]
    by_cases c : x ∈ out
    · rw [if_pos c]
      rcases seek_range out d (x + 1) with h | ⟨h1, h2, h3⟩
      · exact .inl h
      · exact .inr ⟨by omega, by omega, h3⟩
    · rw [if_neg c]
      exact .inr ⟨by omega, by omega, c⟩
/-- The places of cars that come behind others, -1 for those that fail. -/
def driveS (places : Int) (out : List Int) : List Int → List Int
  | [] => out
  | c :: t => driveS places (out ++ [seek out (places - c).toNat c]) t
theorem driveS_prefix (places : Int) : ∀ (t out : List Int), ∃ s, s.length = t.length ∧ driveS places out t = out ++ s
  | [], out => ⟨[], rfl, by simp [driveS]⟩
  | c :: t, out => by
    obtain ⟨s, hl, h⟩ := driveS_prefix places t (out ++ [seek out (places - c).toNat c])
    exact ⟨seek out (places - c).toNat c :: s, by simp [hl], by rw [driveS, h]; simp⟩
theorem driveS_length (places : Int) (t out : List Int) : (driveS places out t).length = out.length + t.length := by
  obtain ⟨s, hl, h⟩ := driveS_prefix places t out
  rw [h]; simp [hl]
/-- Which places are taken. -/
def Tk (places : Int) (out : List Int) (taken : List Bool) : Prop :=
  (taken.length : Int) = places ∧ ∀ j : Nat, (j : Int) < places → taken.getD j false = decide ((j : Int) ∈ out)
theorem Tk.at {places : Int} {out : List Int} {taken : List Bool} (h : Tk places out taken) (x : Int) (h0 : 0 ≤ x) (h1 : x < places) : rdOf false taken x = decide (x ∈ out) := by
  have := h.2 x.toNat (by omega)
  have e : ((x.toNat : Nat) : Int) = x := by omega
  rw [e] at this
  exact this
theorem Tk.fail {places : Int} {out : List Int} {taken : List Bool} (h : Tk places out taken) : Tk places (out ++ [-1]) taken := by
  refine ⟨h.1, fun j hj => ?_⟩
  rw [h.2 j hj]
  exact decide_eq_decide.2 (by simp)
theorem Tk.take {places : Int} {out : List Int} {taken : List Bool} (h : Tk places out taken) (x : Int) (h0 : 0 ≤ x) (h1 : x < places) : Tk places (out ++ [x]) (taken.set x.toNat true) := by
  refine ⟨by simp [h.1], fun j hj => ?_⟩
  have hl := h.1
  have hx : x.toNat < taken.length := by omega
  have hjl : j < taken.length := by omega
  have e := h.2 j hj
  rw [List.getD_eq_getElem?_getD] at e ⊢
  by_cases c : x.toNat = j
  · rw [c, List.getElem?_set_self (by omega)]
    have : (j : Int) ∈ out ++ [x] := by simp; right; omega
    simp [this]
  · rw [List.getElem?_set_ne c, e]
    refine decide_eq_decide.2 ?_
    have : (j : Int) ≠ x := by omega
    simp [this]
theorem Tk.none (places : Int) (h0 : 0 ≤ places) : Tk places [] (List.replicate places.toNat false) := by
  refine ⟨by simp; omega, fun j hj => ?_⟩
  rw [List.getD_eq_getElem?_getD, List.getElem?_replicate]
  split <;> simp

theorem impl_driveSome_l1 (places : Int) (cars : List Int) (n i : Int) (out : List Int) (taken : List Bool) (ht : Tk places out taken) (ho : out.length ≤ 1000) (r : List Int) : ∀ (d : Nat) (x : Int), x + d = places → 0 ≤ x → places ≤ 1000 →
    (∀ taken', Tk places (out ++ [seek out d x]) taken' → Ev (fun k => impl_driveSome.l0 k places taken' (out ++ [seek out d x]) cars n (wrap64 (i + 1))) r) → Ev (fun k => impl_driveSome.l1 k places taken out x cars n i) r
  | 0, x, hx, h0, hp, h => by
    refine Ev.step (fun k => ?_) (h taken ht.fail)
    show impl_driveSome.l1 (k + 1) places taken out x cars n i = _
    rw [impl_driveSome.l1, if_neg (by omega), if_pos (by omega), if_pos (by omega)]
    rfl
  | d + 1, x, hx, h0, hp, h => by
    have ha := ht.at x h0 (by omega)
    have hl := ht.1
    by_cases c : x ∈ out
    · have ih := impl_driveSome_l1 places cars n i out taken ht ho r d (x + 1) (by omega) (by omega) hp (by rw [seek, if_pos c] at h; exact h)
      refine Ev.step (fun k => ?_) ih
      show impl_driveSome.l1 (k + 1) places taken out x cars n i = _
      rw [impl_driveSome.l1, if_pos (by omega), if_pos (by omega), if_pos (by omega), ha, decide_eq_true c, if_pos rfl, w64 (by omega) (by omega)]
    · rw [seek, if_neg c] at h
      refine Ev.step (fun k => ?_) (h _ (ht.take x h0 (by omega)))
      show impl_driveSome.l1 (k + 1) places taken out x cars n i = _
      rw [impl_driveSome.l1, if_pos (by omega), if_pos (by omega), if_pos (by omega), ha, decide_eq_false c, if_neg (by simp), if_neg (by omega), if_pos (by omega)]
theorem impl_driveSome_l0 (places : Int) (hp : places ≤ 1000) : ∀ (t p out : List Int) (taken : List Bool), Tk places out taken → (∀ c ∈ t, 0 ≤ c ∧ c ≤ places) → p.length + t.length ≤ 500 → out.length + t.length ≤ 500 →
    Ev (fun k => impl_driveSome.l0 k places taken out (p ++ t) ((p ++ t).length : Int) (p.length : Int)) (driveS places out t)
  | [], p, out, taken, _, _, _, _ => by
    refine Ev.ret fun k => ?_
    rw [impl_driveSome.l0, if_neg (by simp)]
    rfl
  | c :: t, p, out, taken, ht, hc, hn, ho => by
    have hn' : p.length + t.length + 1 ≤ 500 := by simpa [Nat.add_assoc] using hn
    have ho' : out.length + t.length + 1 ≤ 500 := by simpa [Nat.add_assoc] using ho
    have hm := len_mid p c t
    have h0 := hc c (by simp)
    refine Ev.step (fun k => ?_) (impl_driveSome_l1 places (p ++ c :: t) ((p ++ c :: t).length : Int) (p.length : Int) out taken ht (by omega) (driveS places out (c :: t)) (places - c).toNat c (by omega) (by omega) hp fun taken' ht' => ?_)
    · show impl_driveSome.l0 (k + 1) places taken out (p ++ c :: t) ((p ++ c :: t).length : Int) (p.length : Int) = _
      rw [impl_driveSome.l0, if_pos (by omega), if_pos (by omega), if_pos (by omega), rd_mid]
    · have ih := impl_driveSome_l0 places hp t (p ++ [c]) (out ++ [seek out (places - c).toNat c]) taken' ht' (fun x hx => hc x (by simp [hx])) (by simp; omega) (by simp; omega)
      rw [app_snoc, len_snoc] at ih
      rw [w64 (by omega) (by omega)]
      exact ih
theorem ev_impl_driveSome (l : List Int) (places : Int) (h0 : 0 ≤ places) (hp : places ≤ 1000) (hl : l.length ≤ 500) (hc : ∀ c ∈ l, 0 ≤ c ∧ c ≤ places) : Ev (fun k => impl_driveSome.f k l places) (driveS places [] l) := by
  refine Ev.congr (fun k => by rw [impl_driveSome.f, if_pos h0, if_pos (by omega)]) ?_
  exact impl_driveSome_l0 places hp l [] [] _ (Tk.none places h0) hc (by simpa using hl) (by simpa using hl)

theorem spec_l1Has_l0 (x : Int) : ∀ (t p : List Int), p.length + t.length ≤ 35184372088832 →
    Ev (fun k => spec_l1Has.l0 k x (p ++ t) ((p ++ t).length : Int) (p.length : Int)) (decide (x ∈ t))
  | [], p, _ => by
    refine Ev.ret fun k => ?_
    rw [spec_l1Has.l0, if_neg (by simp)]
    simp
  | h :: t, p, hn => by
    have hn' : p.length + t.length + 1 ≤ 35184372088832 := by simpa [Nat.add_assoc] using hn
    have hm := len_mid p h t
    by_cases c : h = x
    · rw [decide_eq_true (by simp [c] : x ∈ h :: t)]
      refine Ev.ret fun k => ?_
      rw [spec_l1Has.l0, if_pos (by omega), if_pos (by omega), if_pos (by omega), rd_mid, if_pos c]
    · have ih := spec_l1Has_l0 x t (p ++ [h]) (by simp; omega)
      rw [app_snoc, len_snoc] at ih
      have e : decide (x ∈ h :: t) = decide (x ∈ t) := decide_eq_decide.2 (by simp [Ne.symm c])
      rw [e]
      refine Ev.step (fun k => ?_) ih
      show spec_l1Has.l0 (k + 1) x (p ++ h :: t) ((p ++ h :: t).length : Int) (p.length : Int) = _
      rw [spec_l1Has.l0, if_pos (by omega), if_pos (by omega), if_pos (by omega), rd_mid, if_neg c, w64 (by omega) (by omega)]
theorem ev_spec_l1Has (l : List Int) (x : Int) (hl : l.length ≤ 35184372088832) : Ev (fun k => spec_l1Has.f k l x) (decide (x ∈ l)) :=
  spec_l1Has_l0 x l [] (by simpa using hl)

theorem spec_paDrive_l1 (places : Int) (cars : List Int) (n i : Int) (out : List Int) (ho : out.length ≤ 1000) (r : List Int) : ∀ (d : Nat) (x : Int), x + d = places → 0 ≤ x → places ≤ 1000 →
    Ev (fun k => spec_paDrive.l0 k places (out ++ [seek out d x]) cars n (wrap64 (i + 1))) r → Ev (fun k => spec_paDrive.l1 k places out x cars n i) r
  | 0, x, hx, h0, hp, h => by
    refine Ev.step (fun k => ?_) h
    show spec_paDrive.l1 (k + 1) places out x cars n i = _
    rw [spec_paDrive.l1, if_neg (by omega), if_pos (by omega), if_pos (by omega)]
    rfl
  | d + 1, x, hx, h0, hp, h => by
    by_cases c : x ∈ out
    · have ih := spec_paDrive_l1 places cars n i out ho r d (x + 1) (by omega) (by omega) hp (by rw [seek, if_pos c] at h; exact h)
      refine Ev.step (f := fun k => (spec_l1Has.f k out x).bind fun t => if t = true then spec_paDrive.l1 k places out (wrap64 (x + 1)) cars n i else if x ≥ places then if out.length < 17592186044416 then spec_paDrive.l0 k places (out ++ [-1]) cars n (wrap64 (i + 1)) else none else if out.length < 17592186044416 then spec_paDrive.l0 k places (out ++ [x]) cars n (wrap64 (i + 1)) else none) (fun k => ?_) ?_
      · rw [spec_paDrive.l1, if_pos (by omega)]
      · refine Ev.bind (ev_spec_l1Has out x (by omega)) ?_
        rw [decide_eq_true c, w64 (by omega) (by omega)]
        exact ih
    · refine Ev.step (f := fun k => (spec_l1Has.f k out x).bind fun t => if t = true then spec_paDrive.l1 k places out (wrap64 (x + 1)) cars n i else if x ≥ places then if out.length < 17592186044416 then spec_paDrive.l0 k places (out ++ [-1]) cars n (wrap64 (i + 1)) else none else if out.length < 17592186044416 then spec_paDrive.l0 k places (out ++ [x]) cars n (wrap64 (i + 1)) else none) (fun k => ?_) ?_
      · rw [spec_paDrive.l1, if_pos (by omega)]
      · refine Ev.bind (ev_spec_l1Has out x (by omega)) ?_
        rw [decide_eq_false c]
        rw [seek, if_neg c] at h
        refine Ev.congr (fun k => ?_) h
        show (if false = true then _ else _) = _
        rw [if_neg (by simp), if_neg (by omega), if_pos (by omega)]
theorem spec_paDrive_l0 (places : Int) (hp : places ≤ 1000) : ∀ (t p out : List Int), (∀ c ∈ t, 0 ≤ c ∧ c ≤ places) → p.length + t.length ≤ 500 → out.length + t.length ≤ 500 →
    Ev (fun k => spec_paDrive.l0 k places out (p ++ t) ((p ++ t).length : Int) (p.length : Int)) (driveS places out t)
  | [], p, out, _, _, _ => by
    refine Ev.ret fun k => ?_
    rw [spec_paDrive.l0, if_neg (by simp)]
    rfl
  | c :: t, p, out, hc, hn, ho => by
    have hn' : p.length + t.length + 1 ≤ 500 := by simpa [Nat.add_assoc] using hn
    have ho' : out.length + t.length + 1 ≤ 500 := by simpa [Nat.add_assoc] using ho
    have hm := len_mid p c t
    have h0 := hc c (by simp)
    have ih := spec_paDrive_l0 places hp t (p ++ [c]) (out ++ [seek out (places - c).toNat c]) (fun x hx => hc x (by simp [hx])) (by simp; omega) (by simp; omega)
    rw [app_snoc, len_snoc] at ih
    refine Ev.step (fun k => ?_) (spec_paDrive_l1 places (p ++ c :: t) ((p ++ c :: t).length : Int) (p.length : Int) out (by omega) _ (places - c).toNat c (by omega) (by omega) hp ?_)
    · show spec_paDrive.l0 (k + 1) places out (p ++ c :: t) ((p ++ c :: t).length : Int) (p.length : Int) = _
      rw [spec_paDrive.l0, if_pos (by omega), if_pos (by omega), if_pos (by omega), rd_mid]
    · rw [w64 (by omega) (by omega)]
      exact ih
theorem ev_spec_paDrive (l : List Int) (places : Int) (hp : places ≤ 1000) (hl : l.length ≤ 500) (hc : ∀ c ∈ l, 0 ≤ c ∧ c ≤ places) : Ev (fun k => spec_paDrive.f k l places) (driveS places [] l) :=
  spec_paDrive_l0 places hp l [] [] hc (by simpa using hl) (by simpa using hl)

/-- All numbers lie from lo to hi. -/
def inAll (lo hi : Int) (l : List Int) : Bool := l.all fun n => decide (lo ≤ n) && decide (n ≤ hi)
theorem inAll_iff (lo hi : Int) (l : List Int) : inAll lo hi l = true ↔ ∀ x ∈ l, lo ≤ x ∧ x ≤ hi := by
  simp [inAll, List.all_eq_true]
theorem inAll_cons (lo hi x : Int) (l : List Int) : inAll lo hi (x :: l) = ((decide (lo ≤ x) && decide (x ≤ hi)) && inAll lo hi l) := by
  simp [inAll]

/-- Favourites for a street with so many places. -/
def fav (l : List Int) (places : Int) : Bool := (decide (1 ≤ places) && decide (places ≤ 12)) && (decide (l.length ≤ 8) && inAll 0 (places - 1) l)
theorem fav_iff (l : List Int) (places : Int) : fav l places = true ↔ (1 ≤ places ∧ places ≤ 12) ∧ l.length ≤ 8 ∧ ∀ x ∈ l, 0 ≤ x ∧ x ≤ places - 1 := by
  simp only [fav, Bool.and_eq_true, decide_eq_true_eq, inAll_iff]

theorem slices_IndexFunc_l0 (q : Int → Bool) : ∀ (t p : List Int), p.length + t.length ≤ 35184372088832 →
    ∃ r : Int, decide (r ≥ 0) = t.any q ∧ Ev (fun k => slices_IndexFunc_int_int.l0 q k (p ++ t) ((p ++ t).length : Int) (p.length : Int)) r
  | [], p, _ => by
    refine ⟨-1, by simp, Ev.ret fun k => ?_⟩
    rw [slices_IndexFunc_int_int.l0, if_neg (by simp)]
  | h :: t, p, hn => by
    have hn' : p.length + t.length + 1 ≤ 35184372088832 := by simpa [Nat.add_assoc] using hn
    have hm := len_mid p h t
    cases c : q h with
    | true =>
      refine ⟨p.length, by simp [c], Ev.ret fun k => ?_⟩
      rw [slices_IndexFunc_int_int.l0, if_pos (by omega), if_pos (by omega), if_pos (by omega), rd_mid, c, Option.bind_some, if_pos rfl]
    | false =>
      obtain ⟨r, hr, ih⟩ := slices_IndexFunc_l0 q t (p ++ [h]) (by simp; omega)
      rw [app_snoc, len_snoc] at ih
      refine ⟨r, by simpa [c] using hr, Ev.step (fun k => ?_) ih⟩
      show slices_IndexFunc_int_int.l0 q (k + 1) (p ++ h :: t) ((p ++ h :: t).length : Int) (p.length : Int) = _
      rw [slices_IndexFunc_int_int.l0, if_pos (by omega), if_pos (by omega), if_pos (by omega), rd_mid, c, Option.bind_some, if_neg (by simp), w64 (by omega) (by omega)]
theorem ev_containsFunc (q : Int → Bool) (l : List Int) (hl : l.length ≤ 35184372088832) : Ev (fun k => slices_ContainsFunc_int_int.f q k l) (l.any q) := by
  obtain ⟨r, hr, h⟩ := slices_IndexFunc_l0 q l [] (by simpa using hl)
  rw [← hr]
  exact Ev.congr (fun k => rfl) (Ev.bind h (Ev.now _))

theorem ev_impl_between (a b c : Int) : impl_between.f a b c = some (decide (b ≤ a) && decide (a ≤ c)) := by
  unfold impl_between.f
  by_cases h : a ≥ b
  · rw [if_pos h]; simp [show b ≤ a from h]
  · rw [if_neg h]; simp [show ¬ b ≤ a from h]

theorem ev_impl_areBetween (l : List Int) (lo hi : Int) (hl : l.length ≤ 35184372088832) : Ev (fun k => impl_areBetween.f k l lo hi) (inAll lo hi l) := by
  have e : (!(l.any (impl_areBetween_1.p lo hi))) = inAll lo hi l := by
    have hp : ∀ n, impl_areBetween_1.p lo hi n = !(decide (lo ≤ n) && decide (n ≤ hi)) := fun n => by
      simp [impl_areBetween_1.p, ev_impl_between]
    unfold inAll
    induction l with
    | nil => rfl
    | cons x t ih =>
      rw [List.any_cons, List.all_cons, Bool.not_or, ih (by simp at hl; omega), hp, Bool.not_not]
  rw [← e]
  exact Ev.congr (fun k => rfl) (Ev.bind (ev_containsFunc (impl_areBetween_1.p lo hi) l hl) (Ev.now _))

theorem ev_impl_AreFavourites (l : List Int) (places : Int) : Ev (fun k => impl_AreFavourites.f k l places) (fav l places) := by
  cases c : decide (1 ≤ places) && decide (places ≤ 12) with
  | false =>
    refine Ev.congr (fun k => ?_) (Ev.now _)
    show impl_AreFavourites.f k l places = _
    rw [impl_AreFavourites.f, ev_impl_between, c]
    simp [fav, c]
  | true =>
    have cc : 1 ≤ places ∧ places ≤ 12 := by simpa using c
    by_cases d : l.length ≤ 8
    · have e : fav l places = inAll 0 (places - 1) l := by simp [fav, d, cc]
      rw [e]
      refine Ev.congr (fun k => by rw [impl_AreFavourites.f, ev_impl_between, c, Option.bind_some, if_pos rfl, if_pos (by omega), w64 (by omega) (by omega)]) ?_
      exact Ev.bind (ev_impl_areBetween l _ _ (by omega)) (Ev.now _)
    · refine Ev.congr (fun k => ?_) (Ev.now _)
      show impl_AreFavourites.f k l places = _
      rw [impl_AreFavourites.f, ev_impl_between, c, Option.bind_some, if_pos rfl, if_neg (by omega)]
      simp [fav, d]

theorem ev_spec_l1In (a b c : Int) : spec_l1In.f a b c = some (decide (b ≤ a) && decide (a ≤ c)) := by
  unfold spec_l1In.f
  by_cases h : a ≥ b
  · rw [if_pos h]; simp [show b ≤ a from h]
  · rw [if_neg h]; simp [show ¬ b ≤ a from h]

theorem spec_l1All_l0 (lo hi : Int) : ∀ (t p : List Int), p.length + t.length ≤ 35184372088832 →
    Ev (fun k => spec_l1All.l0 k lo hi (p ++ t) ((p ++ t).length : Int) (p.length : Int)) (inAll lo hi t)
  | [], p, _ => by
    refine Ev.ret fun k => ?_
    rw [spec_l1All.l0, if_neg (by simp)]
    rfl
  | h :: t, p, hn => by
    have hn' : p.length + t.length + 1 ≤ 35184372088832 := by simpa [Nat.add_assoc] using hn
    have hm := len_mid p h t
    rw [inAll_cons]
    cases c : decide (lo ≤ h) && decide (h ≤ hi) with
    | true =>
      have ih := spec_l1All_l0 lo hi t (p ++ [h]) (by simp; omega)
      rw [app_snoc, len_snoc] at ih
      rw [Bool.true_and]
      refine Ev.step (fun k => ?_) ih
      show spec_l1All.l0 (k + 1) lo hi (p ++ h :: t) ((p ++ h :: t).length : Int) (p.length : Int) = _
      rw [spec_l1All.l0, if_pos (by omega), if_pos (by omega), if_pos (by omega), rd_mid, ev_spec_l1In, c, Option.bind_some, if_pos rfl, w64 (by omega) (by omega)]
    | false =>
      rw [Bool.false_and]
      refine Ev.ret fun k => ?_
      rw [spec_l1All.l0, if_pos (by omega), if_pos (by omega), if_pos (by omega), rd_mid, ev_spec_l1In, c]
      rfl
theorem ev_spec_l1All (l : List Int) (lo hi : Int) (hl : l.length ≤ 35184372088832) : Ev (fun k => spec_l1All.f k l lo hi) (inAll lo hi l) :=
  spec_l1All_l0 lo hi l [] (by simpa using hl)

theorem ev_spec_paGood (l : List Int) (places : Int) : Ev (fun k => spec_paGood.f k l places) (fav l places) := by
  have hs : spec_paStreet.f places = some (decide (1 ≤ places) && decide (places ≤ 12)) := by
    unfold spec_paStreet.f
    rw [ev_spec_l1In]
    rfl
  cases c : decide (1 ≤ places) && decide (places ≤ 12) with
  | false =>
    refine Ev.congr (fun k => ?_) (Ev.now _)
    show spec_paGood.f k l places = _
    rw [spec_paGood.f, hs, c]
    simp [fav, c]
  | true =>
    have cc : 1 ≤ places ∧ places ≤ 12 := by simpa using c
    by_cases d : l.length ≤ 8
    · have e : fav l places = inAll 0 (places - 1) l := by simp [fav, d, cc]
      rw [e]
      refine Ev.congr (fun k => by rw [spec_paGood.f, hs, c, Option.bind_some, if_pos rfl, if_pos (by omega), w64 (by omega) (by omega)]) ?_
      exact Ev.bind (ev_spec_l1All l _ _ (by omega)) (Ev.now _)
    · refine Ev.congr (fun k => ?_) (Ev.now _)
      show spec_paGood.f k l places = _
      rw [spec_paGood.f, hs, c, Option.bind_some, if_pos rfl, if_neg (by omega)]
      simp [fav, d]

theorem spec_loDefect_l0 : ∀ (t p : List Int) (acc : Int), 0 ≤ acc → acc ≤ p.length → p.length + t.length ≤ 35184372088832 →
    Ev (fun k => spec_loDefect.l0 k acc (p ++ t) ((p ++ t).length : Int) (p.length : Int)) (acc + cnt impl_defect_1.p t)
  | [], p, acc, _, _, _ => by
    refine Ev.ret fun k => ?_
    rw [spec_loDefect.l0, if_neg (by simp)]
    simp [cnt]
  | h :: t, p, acc, h0, h1, hn => by
    have hn' : p.length + t.length + 1 ≤ 35184372088832 := by simpa [Nat.add_assoc] using hn
    have hm := len_mid p h t
    by_cases c : h < 0
    · have ih := spec_loDefect_l0 t (p ++ [h]) (acc + 1) (by omega) (by rw [len_snoc]; omega) (by simp; omega)
      rw [app_snoc, len_snoc] at ih
      have e : acc + cnt impl_defect_1.p (h :: t) = acc + 1 + cnt impl_defect_1.p t := by simp only [cnt, impl_defect_1.p, c, decide_true, if_true]; omega
      rw [e]
      refine Ev.step (fun k => ?_) ih
      show spec_loDefect.l0 (k + 1) acc (p ++ h :: t) ((p ++ h :: t).length : Int) (p.length : Int) = _
      rw [spec_loDefect.l0, if_pos (by omega), if_pos (by omega), if_pos (by omega), rd_mid, if_pos c, w64 (by omega) (by omega), w64 (by omega) (by omega)]
    · have ih := spec_loDefect_l0 t (p ++ [h]) acc h0 (by rw [len_snoc]; omega) (by simp; omega)
      rw [app_snoc, len_snoc] at ih
      have e : acc + cnt impl_defect_1.p (h :: t) = acc + cnt impl_defect_1.p t := by simp only [cnt, impl_defect_1.p, c]; simp
      rw [e]
      refine Ev.step (fun k => ?_) ih
      show spec_loDefect.l0 (k + 1) acc (p ++ h :: t) ((p ++ h :: t).length : Int) (p.length : Int) = _
      rw [spec_loDefect.l0, if_pos (by omega), if_pos (by omega), if_pos (by omega), rd_mid, if_neg c, w64 (by omega) (by omega)]
theorem defectOf_both (l : List Int) (a : Int) : ∃ r : Int × Bool, Ev (fun k => spec_DefectOf.f k l a) r ∧ Ev (fun k => impl_DefectOf.f k l a) r := by
  cases c : fav l a with
  | false =>
    refine ⟨(0, false), ?_, ?_⟩
    · refine Ev.congr (fun k => rfl) (Ev.bind (ev_spec_paGood l a) ?_)
      rw [c]; exact Ev.now _
    · refine Ev.congr (fun k => rfl) (Ev.bind (ev_impl_AreFavourites l a) ?_)
      rw [c]; exact Ev.now _
  | true =>
    obtain ⟨⟨h1, h2⟩, h3, h4⟩ := (fav_iff l a).1 c
    have hc : ∀ c ∈ l, 0 ≤ c ∧ c ≤ a := fun x hx => by have := h4 x hx; omega
    have hd : (driveS a [] l).length ≤ 35184372088832 := by rw [driveS_length]; simp; omega
    refine ⟨(cnt impl_defect_1.p (driveS a [] l), true), ?_, ?_⟩
    · refine Ev.congr (fun k => rfl) (Ev.bind (ev_spec_paGood l a) ?_)
      rw [c]
      refine Ev.bind (a := cnt impl_defect_1.p (driveS a [] l)) ?_ (Ev.now _)
      refine Ev.congr (fun k => rfl) (Ev.bind (ev_spec_paDrive l a (by omega) (by omega) hc) ?_)
      have := spec_loDefect_l0 (driveS a [] l) [] 0 (by omega) (by simp) (by simpa using hd)
      rwa [Int.zero_add] at this
    · refine Ev.congr (fun k => rfl) (Ev.bind (ev_impl_AreFavourites l a) ?_)
      rw [c]
      refine Ev.bind (a := cnt impl_defect_1.p (driveS a [] l)) ?_ (Ev.now _)
      refine Ev.congr (fun k => rfl) (Ev.bind (ev_impl_driveSome l a (by omega) (by omega) (by omega) hc) ?_)
      exact Ev.bind (ev_impl_countIf impl_defect_1.p (driveS a [] l) hd) (Ev.now _)

theorem FnExactDefectOf : laws_FnExactDefectOf.Pure := by
  intro l0 i0 _ _ _ _
  by_cases c0 : (l0.length : Int) > 1048576
  · refine ⟨0, ?_⟩
    rw [laws_FnExactDefectOf.f, if_pos c0]
  have hl0 : l0.length ≤ 35184372088832 := by omega
  obtain ⟨r, hs, hi⟩ := defectOf_both l0 i0
  refine Ev.rounds ?_
  refine Ev.congr (fun k => by rw [laws_FnExactDefectOf.f, if_neg c0]) ?_
  refine Ev.bind (ev_toIntS l0 hl0) ?_
  refine Ev.bind (hs) ?_
  refine Ev.bind (ev_toIntS l0 hl0) ?_
  refine Ev.bind (hi) ?_
  refine Ev.congr (fun k => by rw [if_pos rfl, bne_self_eq_false]) ?_
  refine Ev.step (fun k => by rw [laws_FnExactDefectOf.j0, if_neg (by simp)]) ?_
  refine Ev.bind (ev_toIntS l0 hl0) ?_
  refine Ev.bind (ev_eqIntS l0 hl0) ?_
  refine Ev.congr (fun k => by rw [if_pos rfl]) ?_
  exact Ev.now true

end Go.Proofs.Ytkmojdkkiolalaa.Pure
