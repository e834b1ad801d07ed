/- DoParkBack of the program and of the reference agree on every list and numbers, and the argument stays. -/
import Derived.Test.YtljggaekcojpnaaWSized
import Derived.Test.YtljggaekcojpnaaPFnExactDoParkBackx
namespace Go.Proofs.Ytljggaekcojpnaa.PrintWords
open Go.ChangeShapes Go.WideShapes
/-- The word by the name that the printed row asks for. -/
theorem sized_ints {H : Type} {enc : TypeId × Value → H} {P : Program} {W : World} {base : Nat} {spare : Nat → Bool} {held : Bool} {t e : TypeId} {k : IntKind} {a : Option Addr} {len cap : Nat} {d : DataW H} {ps : List MemPlace} {ts : List TypeId} {ds : List (DataW H)} {j : Nat}
    (hsz : (DataW.weightsEach P ts ds).all (· ≤ reachBytes) = true) (ht : ts[j]? = some t) (hd : ds[j]? = some d) (hu : P.underlying t = some (.slice e)) (he : P.underlying e = some (.int k)) (hc : P.cellsOf e = 1) {B : Nat} (hB : P.bytesOf e = B)
    (h : DataW.Trod enc P W base spare held t (.slice a len cap) d ps) : len * B ≤ 140737488351232 :=
  Go.Proofs.YtljggaekcojpnaaW.PrintWords.sized_ints hsz ht hd hu he hc hB h
end Go.Proofs.Ytljggaekcojpnaa.PrintWords
namespace Go.Proofs.Ytljggaekcojpnaa.Pure
open Go.RowKit Go.Proofs.Ytljggaekcojpnaa.PFnExactDoParkBack Go.Proofs.YtljggaekcojpnaaW.PrintWords Go.Proofs.YtljggaekcojpnaaW.PrintLast
set_option linter.unusedVariables false
set_option linter.unusedSimpArgs false

theorem w64 {x : Int} (h0 : -9223372036854775808 ≤ x) (h1 : x ≤ 9223372036854775807) : wrap64 x = x := by
  unfold wrap64
  omega
theorem rd_mid (p : List Int) (h : Int) (t : List Int) : rd (p ++ h :: t) (p.length : Int) = h := by
  unfold rd
  simp
theorem rd_nat (l : List Int) (i : Nat) : rd l (i : Int) = l.getD i 0 := by
  unfold rd
  simp
theorem Ev.ret {α : Type} {g : Nat → Option α} {r : α} (h : ∀ k, g (k + 1) = some r) : Ev g r :=
  Ev.step (f := fun _ => some r) h (Ev.now r)

theorem toIntS_l0 : ∀ (t p : List Int), p.length + t.length ≤ 35184372088832 →
    Ev (fun k => laws_toIntS.l0 k (p ++ t) (p ++ List.replicate t.length 0) (p.length : Int)) (p ++ t)
  | [], p, _ => by
    refine Ev.ret fun k => ?_
    rw [laws_toIntS.l0, if_neg (by simp)]
    simp
  | h :: t, p, hn => by
    have hn' : p.length + t.length + 1 ≤ 35184372088832 := by simpa [Nat.add_assoc] using hn
    have ih := toIntS_l0 t (p ++ [h]) (by simp; omega)
    have e1 : (p ++ [h]) ++ t = p ++ h :: t := by simp
    have e2 : (((p ++ [h]).length : Nat) : Int) = (p.length : Int) + 1 := by simp
    rw [e1, e2] at ih
    refine Ev.step (fun k => ?_) ih
    show laws_toIntS.l0 (k + 1) (p ++ h :: t) (p ++ List.replicate (h :: t).length 0) (p.length : Int) = _
    rw [laws_toIntS.l0, if_pos (by simp; omega), if_pos (by omega), if_pos (by simp; omega), rd_mid, w64 (by omega) (by omega)]
    congr 1
    simp [List.replicate_succ, List.set_append]
theorem ev_toIntS (l : List Int) (h : l.length ≤ 35184372088832) : Ev (fun k => laws_toIntS.f k l) l := by
  have z := toIntS_l0 l [] (by simpa using h)
  refine Ev.congr (fun k => ?_) z
  show laws_toIntS.f k l = _
  rw [laws_toIntS.f, if_pos (by omega), if_pos (by simpa using h)]
  simp

theorem eqIntS_l0 : ∀ (t p : List Int), p.length + t.length ≤ 35184372088832 →
    Ev (fun k => laws_eqIntS.l0 k (p ++ t) (p ++ t) (p.length : Int)) true
  | [], p, _ => by
    refine Ev.ret fun k => ?_
    rw [laws_eqIntS.l0, if_neg (by simp)]
  | h :: t, p, hn => by
    have hn' : p.length + t.length + 1 ≤ 35184372088832 := by simpa [Nat.add_assoc] using hn
    have ih := eqIntS_l0 t (p ++ [h]) (by simp; omega)
    have e1 : (p ++ [h]) ++ t = p ++ h :: t := by simp
    have e2 : (((p ++ [h]).length : Nat) : Int) = (p.length : Int) + 1 := by simp
    rw [e1, e2] at ih
    refine Ev.step (fun k => ?_) ih
    show laws_eqIntS.l0 (k + 1) (p ++ h :: t) (p ++ h :: t) (p.length : Int) = _
    rw [laws_eqIntS.l0, if_pos (by simp; omega), if_pos (by omega), if_pos (by simp; omega), rd_mid, if_pos rfl, w64 (by omega) (by omega)]
theorem ev_eqIntS (l : List Int) (h : l.length ≤ 35184372088832) : Ev (fun k => laws_eqIntS.f k l l) true := by
  have z := eqIntS_l0 l [] (by simpa using h)
  refine Ev.congr (fun k => ?_) z
  show laws_eqIntS.f k l l = _
  rw [laws_eqIntS.f, if_pos rfl]
  rfl

/-- One step of a walk along a list: what stands behind the place. -/
theorem len_snoc (p : List Int) (h : Int) : (((p ++ [h]).length : Nat) : Int) = (p.length : Int) + 1 := by simp
theorem app_snoc (p : List Int) (h : Int) (t : List Int) : (p ++ [h]) ++ t = p ++ h :: t := by simp
theorem len_mid (p : List Int) (h : Int) (t : List Int) : ((p ++ h :: t).length : Int) = (p.length : Int) + t.length + 1 := by simp; omega

/-- The first free place from x on, of d that are left; -1 if there is none. -/
def seek (out : List Int) : Nat → Int → Int
  | 0, _ => -1
  | d + 1, x => if x ∈ out then seek out d (x + 1) else x
theorem seek_range (out : List Int) : ∀ (d : Nat) (x : Int), seek out d x = -1 ∨ x ≤ seek out d x ∧ seek out d x < x + d ∧ seek out d x ∉ out
  | 0, x => .inl rfl
  | d + 1, x => by
    simp only [seek]
    by_cases c : x ∈ out
    · rw [if_pos c]
      rcases seek_range out d (x + 1) with h | ⟨h1, h2, h3⟩
      · exact .inl h
      · exact .inr ⟨by omega, by omega, h3⟩
    · rw [if_neg c]
      exact .inr ⟨by omega, by omega, c⟩
/-- The places of cars that come behind others, -1 for those that fail. -/
def driveS (places : Int) (out : List Int) : List Int → List Int
  | [] => out
  | c :: t => driveS places (out ++ [seek out (places - c).toNat c]) t
theorem driveS_prefix (places : Int) : ∀ (t out : List Int), ∃ s, s.length = t.length ∧ driveS places out t = out ++ s
  | [], out => ⟨[], rfl, by simp [driveS]⟩
  | c :: t, out => by
    obtain ⟨s, hl, h⟩ := driveS_prefix places t (out ++ [seek out (places - c).toNat c])
    exact ⟨seek out (places - c).toNat c :: s, by simp [hl], by rw [driveS, h]; simp⟩
theorem driveS_length (places : Int) (t out : List Int) : (driveS places out t).length = out.length + t.length := by
  obtain ⟨s, hl, h⟩ := driveS_prefix places t out
  rw [h]; simp [hl]
/-- Which places are taken. -/
def Tk (places : Int) (out : List Int) (taken : List Bool) : Prop :=
  (taken.length : Int) = places ∧ ∀ j : Nat, (j : Int) < places → taken.getD j false = decide ((j : Int) ∈ out)
theorem Tk.at {places : Int} {out : List Int} {taken : List Bool} (h : Tk places out taken) (x : Int) (h0 : 0 ≤ x) (h1 : x < places) : rdOf false taken x = decide (x ∈ out) := by
  have := h.2 x.toNat (by omega)
  have e : ((x.toNat : Nat) : Int) = x := by omega
  rw [e] at this
  exact this
theorem Tk.fail {places : Int} {out : List Int} {taken : List Bool} (h : Tk places out taken) : Tk places (out ++ [-1]) taken := by
  refine ⟨h.1, fun j hj => ?_⟩
  rw [h.2 j hj]
  exact decide_eq_decide.2 (by simp)
theorem Tk.take {places : Int} {out : List Int} {taken : List Bool} (h : Tk places out taken) (x : Int) (h0 : 0 ≤ x) (h1 : x < places) : Tk places (out ++ [x]) (taken.set x.toNat true) := by
  refine ⟨by simp [h.1], fun j hj => ?_⟩
  have hl := h.1
  have hx : x.toNat < taken.length := by omega
  have hjl : j < taken.length := by omega
  have e := h.2 j hj
  rw [List.getD_eq_getElem?_getD] at e ⊢
  by_cases c : x.toNat = j
  · rw [c, List.getElem?_set_self (by omega)]
    have : (j : Int) ∈ out ++ [x] := by simp; right; omega
    simp [this]
  · rw [List.getElem?_set_ne c, e]
    refine decide_eq_decide.2 ?_
    have : (j : Int) ≠ x := by omega
    simp [this]
theorem Tk.none (places : Int) (h0 : 0 ≤ places) : Tk places [] (List.replicate places.toNat false) := by
  refine ⟨by simp; omega, fun j hj => ?_⟩
  rw [List.getD_eq_getElem?_getD, List.getElem?_replicate]
  split <;> simp

/-- The first free place from y on backwards, of n that are looked at; -1 if there is none. -/
def lookBack (out : List Int) : Nat → Int → Int
  | 0, _ => -1
  | n + 1, y => if y < 0 then -1 else if y ∈ out then lookBack out n (y - 1) else y
theorem lookBack_range (out : List Int) : ∀ (n : Nat) (y : Int), lookBack out n y = -1 ∨ 0 ≤ lookBack out n y ∧ lookBack out n y ≤ y ∧ lookBack out n y ∉ out
  | 0, y => .inl rfl
  | n + 1, y => by
    simp only [lookBack]
    by_cases c : y < 0
    · rw [if_pos c]; exact .inl rfl
    · rw [if_neg c]
      by_cases d : y ∈ out
      · rw [if_pos d]
        rcases lookBack_range out n (y - 1) with h | ⟨h1, h2, h3⟩
        · exact .inl h
        · exact .inr ⟨h1, by omega, h3⟩
      · rw [if_neg d]
        exact .inr ⟨by omega, by omega, d⟩
/-- The place of a car that looks back. -/
def backOne (places back : Int) (out : List Int) (x : Int) : Int :=
  if lookBack out (back.toNat + 1) x = -1 then seek out (places - x).toNat x else lookBack out (back.toNat + 1) x
theorem backOne_range (places back : Int) (out : List Int) (x : Int) (h0 : 0 ≤ x) (h1 : x < places) : backOne places back out x = -1 ∨ 0 ≤ backOne places back out x ∧ backOne places back out x < places := by
  unfold backOne
  split
  · rcases seek_range out (places - x).toNat x with h | ⟨h2, h3, _⟩
    · exact .inl h
    · exact .inr ⟨by omega, by omega⟩
  · rcases lookBack_range out (back.toNat + 1) x with h | ⟨h2, h3, _⟩
    · exact .inl h
    · exact .inr ⟨h2, by omega⟩
/-- The places of cars that look back and come behind others. -/
def backS (places back : Int) (out : List Int) : List Int → List Int
  | [] => out
  | c :: t => backS places back (out ++ [backOne places back out c]) t
theorem backS_prefix (places back : Int) : ∀ (t out : List Int), ∃ s, s.length = t.length ∧ backS places back out t = out ++ s
  | [], out => ⟨[], rfl, by simp [backS]⟩
  | c :: t, out => by
    obtain ⟨s, hl, h⟩ := backS_prefix places back t (out ++ [backOne places back out c])
    exact ⟨backOne places back out c :: s, by simp [hl], by rw [backS, h]; simp⟩
theorem backS_length (places back : Int) (t out : List Int) : (backS places back out t).length = out.length + t.length := by
  obtain ⟨s, hl, h⟩ := backS_prefix places back t out
  rw [h]; simp [hl]

/-- What a drive hands back. -/
def orNone (l : List Int) : List Int × Bool := if (-1 : Int) ∈ l then ([], false) else (l, true)
theorem orNone_length (l : List Int) : (orNone l).1.length ≤ l.length := by
  unfold orNone
  split
  · simp
  · exact Nat.le_refl _

/-- What stands behind a car: it has failed, or it stands. -/
def BackGoes (places back : Int) (out : List Int) (w : Int) (cars : List Int) (n i : Int) (r : List Int × Bool) : Prop :=
  (w = -1 → r = ([], false)) ∧ (w ≠ -1 → ∀ taken', Tk places (out ++ [w]) taken' → Ev (fun k => impl_driveBack.l0 k places back taken' (out ++ [w]) cars n (wrap64 (i + 1))) r)
theorem impl_driveBack_l2 (places back : Int) (taken : List Bool) (out : List Int) (ht : Tk places out taken) (cars : List Int) (n i : Int) (ho : out.length ≤ 1000) (hp : places ≤ 1000) (r : List Int × Bool) : ∀ (d : Nat) (x : Int), x + d = places → 0 ≤ x →
    BackGoes places back out (seek out d x) cars n i r → Ev (fun k => impl_driveBack.l2 k places back taken out x cars n i) r
  | 0, x, hx, h0, h => by
    obtain rfl := h.1 rfl
    refine Ev.ret fun k => ?_
    rw [impl_driveBack.l2, if_neg (by omega), if_pos (by omega)]
  | d + 1, x, hx, h0, h => by
    have ha := ht.at x h0 (by omega)
    have hl := ht.1
    by_cases c : x ∈ out
    · rw [seek, if_pos c] at h
      refine Ev.step (fun k => ?_) (impl_driveBack_l2 places back taken out ht cars n i ho hp r d (x + 1) (by omega) (by omega) h)
      show impl_driveBack.l2 (k + 1) places back taken out x cars n i = _
      rw [impl_driveBack.l2, if_pos (by omega), if_pos (by omega), if_pos (by omega), ha, decide_eq_true c, if_pos rfl, w64 (by omega) (by omega)]
    · rw [seek, if_neg c] at h
      refine Ev.step (fun k => ?_) (h.2 (by omega) _ (ht.take x h0 (by omega)))
      show impl_driveBack.l2 (k + 1) places back taken out x cars n i = _
      rw [impl_driveBack.l2, if_pos (by omega), if_pos (by omega), if_pos (by omega), ha, decide_eq_false c, if_neg (by simp), if_neg (by omega), if_pos (by omega)]
theorem impl_driveBack_l1 (places back : Int) (taken : List Bool) (out : List Int) (ht : Tk places out taken) (x : Int) (cars : List Int) (n i : Int) (ho : out.length ≤ 1000) (hp : places ≤ 1000) (hx : 0 ≤ x) (hx2 : x < places) (hb0 : 0 ≤ back) (hb : back ≤ 100) (r : List Int × Bool) :
    ∀ (m : Nat) (y : Int), y ≤ x → y + 1 = x - back + m →
      BackGoes places back out (if lookBack out m y = -1 then seek out (places - x).toNat x else lookBack out m y) cars n i r → Ev (fun k => impl_driveBack.l1 k places back taken out x y cars n i) r
  | 0, y, hy, hm, h => by
    have h2 := impl_driveBack_l2 places back taken out ht cars n i ho hp r (places - x).toNat x (by omega) hx (by simpa [lookBack] using h)
    have h3 : Ev (fun k => impl_driveBack.j3 k places back taken out x y cars n i true) r := by
      refine Ev.step (fun k => ?_) h2
      show impl_driveBack.j3 (k + 1) places back taken out x y cars n i true = _
      rw [impl_driveBack.j3, if_pos rfl]
    have h4 : Ev (fun k => impl_driveBack.j2 k places back taken out x y cars n i) r := by
      refine Ev.step (fun k => ?_) h3
      show impl_driveBack.j2 (k + 1) places back taken out x y cars n i = _
      rw [impl_driveBack.j2, w64 (by omega) (by omega)]
      by_cases c : y < 0
      · rw [if_pos c]
      · rw [if_neg c, decide_eq_true (by omega)]
    refine Ev.step (fun k => ?_) h4
    show impl_driveBack.l1 (k + 1) places back taken out x y cars n i = _
    rw [impl_driveBack.l1, w64 (x := x - back) (by omega) (by omega)]
    by_cases c : y ≥ 0
    · rw [if_pos c, if_neg (by omega)]
    · rw [if_neg c]
  | m + 1, y, hy, hm, h => by
    by_cases c : y < 0
    · have h2 := impl_driveBack_l2 places back taken out ht cars n i ho hp r (places - x).toNat x (by omega) hx (by simpa [lookBack, c] using h)
      have h3 : Ev (fun k => impl_driveBack.j3 k places back taken out x y cars n i true) r := by
        refine Ev.step (fun k => ?_) h2
        show impl_driveBack.j3 (k + 1) places back taken out x y cars n i true = _
        rw [impl_driveBack.j3, if_pos rfl]
      have h4 : Ev (fun k => impl_driveBack.j2 k places back taken out x y cars n i) r := by
        refine Ev.step (fun k => ?_) h3
        show impl_driveBack.j2 (k + 1) places back taken out x y cars n i = _
        rw [impl_driveBack.j2, if_pos c]
      refine Ev.step (fun k => ?_) h4
      show impl_driveBack.l1 (k + 1) places back taken out x y cars n i = _
      rw [impl_driveBack.l1, if_neg (by omega)]
    · have ha := ht.at y (by omega) (by omega)
      have hl := ht.1
      by_cases d : y ∈ out
      · rw [lookBack, if_neg c, if_pos d] at h
        refine Ev.step (fun k => ?_) (impl_driveBack_l1 places back taken out ht x cars n i ho hp hx hx2 hb0 hb r m (y - 1) (by omega) (by omega) h)
        show impl_driveBack.l1 (k + 1) places back taken out x y cars n i = _
        rw [impl_driveBack.l1, w64 (x := x - back) (by omega) (by omega), if_pos (by omega), if_pos (by omega), if_pos (by omega), if_pos (by omega), ha, decide_eq_true d, if_pos rfl, w64 (by omega) (by omega)]
      · rw [lookBack, if_neg c, if_neg d, if_neg (by omega)] at h
        have h3 : Ev (fun k => impl_driveBack.j3 k places back taken out x y cars n i false) r := by
          refine Ev.step (fun k => ?_) (h.2 (by omega) _ (ht.take y (by omega) (by omega)))
          show impl_driveBack.j3 (k + 1) places back taken out x y cars n i false = _
          rw [impl_driveBack.j3, if_neg (by simp), if_neg (by omega), if_pos (by omega), if_pos (by omega), if_pos (by omega)]
        have h4 : Ev (fun k => impl_driveBack.j2 k places back taken out x y cars n i) r := by
          refine Ev.step (fun k => ?_) h3
          show impl_driveBack.j2 (k + 1) places back taken out x y cars n i = _
          rw [impl_driveBack.j2, w64 (by omega) (by omega), if_neg c, decide_eq_false (by omega)]
        refine Ev.step (fun k => ?_) h4
        show impl_driveBack.l1 (k + 1) places back taken out x y cars n i = _
        rw [impl_driveBack.l1, w64 (x := x - back) (by omega) (by omega), if_pos (by omega), if_pos (by omega), if_pos (by omega), if_pos (by omega), ha, decide_eq_false d, if_neg (by simp)]
theorem impl_driveBack_l0 (places back : Int) (hp : places ≤ 1000) (hb0 : 0 ≤ back) (hb : back ≤ 100) : ∀ (t p out : List Int) (taken : List Bool), Tk places out taken → (-1 : Int) ∉ out → (∀ c ∈ t, 0 ≤ c ∧ c < places) → p.length + t.length ≤ 500 → out.length + t.length ≤ 500 →
    Ev (fun k => impl_driveBack.l0 k places back taken out (p ++ t) ((p ++ t).length : Int) (p.length : Int)) (orNone (backS places back out t))
  | [], p, out, taken, _, hnot, _, _, _ => by
    refine Ev.ret fun k => ?_
    rw [impl_driveBack.l0, if_neg (by simp)]
    show some (out, true) = some (orNone out)
    rw [orNone, if_neg hnot]
  | c :: t, p, out, taken, ht, hnot, hc, hn, ho => by
    have hn' : p.length + t.length + 1 ≤ 500 := by simpa [Nat.add_assoc] using hn
    have ho' : out.length + t.length + 1 ≤ 500 := by simpa [Nat.add_assoc] using ho
    have hm := len_mid p c t
    have h0 := hc c (by simp)
    refine Ev.step (fun k => ?_) (impl_driveBack_l1 places back taken out ht c (p ++ c :: t) ((p ++ c :: t).length : Int) (p.length : Int) (by omega) hp h0.1 h0.2 hb0 hb (orNone (backS places back out (c :: t))) (back.toNat + 1) c (by omega) (by omega) ⟨fun e => ?_, fun e taken' ht' => ?_⟩)
    · show impl_driveBack.l0 (k + 1) places back taken out (p ++ c :: t) ((p ++ c :: t).length : Int) (p.length : Int) = _
      rw [impl_driveBack.l0, if_pos (by omega), if_pos (by omega), if_pos (by omega), rd_mid]
    · have e2 : backOne places back out c = -1 := e
      obtain ⟨s, _, hs⟩ := backS_prefix places back t (out ++ [-1])
      simp only [backS, e2, hs]
      unfold orNone
      rw [if_pos (by simp)]
    · have e2 : backOne places back out c ≠ -1 := e
      have ih := impl_driveBack_l0 places back hp hb0 hb t (p ++ [c]) (out ++ [backOne places back out c]) taken' ht' (by simp [hnot]; exact fun h => e2 h.symm) (fun x hx => hc x (by simp [hx])) (by simp; omega) (by simp; omega)
      rw [app_snoc, len_snoc] at ih
      rw [w64 (by omega) (by omega)]
      exact ih
theorem ev_impl_driveBack (l : List Int) (places back : Int) (hp0 : 0 ≤ places) (hp : places ≤ 1000) (hb0 : 0 ≤ back) (hb : back ≤ 100) (hl : l.length ≤ 500) (hc : ∀ c ∈ l, 0 ≤ c ∧ c < places) : Ev (fun k => impl_driveBack.f k l places back) (orNone (backS places back [] l)) := by
  refine Ev.congr (fun k => by rw [impl_driveBack.f, if_pos hp0, if_pos (by omega)]) ?_
  exact impl_driveBack_l0 places back hp hb0 hb l [] [] _ (Tk.none places hp0) (by simp) hc (by simpa using hl) (by simpa using hl)

theorem spec_l1Has_l0 (x : Int) : ∀ (t p : List Int), p.length + t.length ≤ 35184372088832 →
    Ev (fun k => spec_l1Has.l0 k x (p ++ t) ((p ++ t).length : Int) (p.length : Int)) (decide (x ∈ t))
  | [], p, _ => by
    refine Ev.ret fun k => ?_
    rw [spec_l1Has.l0, if_neg (by simp)]
    simp
  | h :: t, p, hn => by
    have hn' : p.length + t.length + 1 ≤ 35184372088832 := by simpa [Nat.add_assoc] using hn
    have hm := len_mid p h t
    by_cases c : h = x
    · rw [decide_eq_true (by simp [c] : x ∈ h :: t)]
      refine Ev.ret fun k => ?_
      rw [spec_l1Has.l0, if_pos (by omega), if_pos (by omega), if_pos (by omega), rd_mid, if_pos c]
    · have ih := spec_l1Has_l0 x t (p ++ [h]) (by simp; omega)
      rw [app_snoc, len_snoc] at ih
      have e : decide (x ∈ h :: t) = decide (x ∈ t) := decide_eq_decide.2 (by simp [Ne.symm c])
      rw [e]
      refine Ev.step (fun k => ?_) ih
      show spec_l1Has.l0 (k + 1) x (p ++ h :: t) ((p ++ h :: t).length : Int) (p.length : Int) = _
      rw [spec_l1Has.l0, if_pos (by omega), if_pos (by omega), if_pos (by omega), rd_mid, if_neg c, w64 (by omega) (by omega)]
theorem ev_spec_l1Has (l : List Int) (x : Int) (hl : l.length ≤ 35184372088832) : Ev (fun k => spec_l1Has.f k l x) (decide (x ∈ l)) :=
  spec_l1Has_l0 x l [] (by simpa using hl)

theorem spec_loBack_l2_done (places back : Int) (out : List Int) (at_ x : Int) (cars : List Int) (n i : Int) (ho : out.length ≤ 1000) (h0 : 0 ≤ at_) (r : List Int)
    (h : Ev (fun k => spec_loBack.l0 k places back (out ++ [at_]) cars n (wrap64 (i + 1))) r) : Ev (fun k => spec_loBack.l2 k places back out at_ x cars n i) r := by
  have hj : Ev (fun k => spec_loBack.j4 k places back out at_ x cars n i false) r := by
    refine Ev.step (fun k => ?_) h
    show spec_loBack.j4 (k + 1) places back out at_ x cars n i false = _
    rw [spec_loBack.j4, if_neg (by simp), if_pos (by omega)]
  refine Ev.step (fun k => ?_) hj
  show spec_loBack.l2 (k + 1) places back out at_ x cars n i = _
  rw [spec_loBack.l2]
  by_cases c : x < places
  · rw [if_pos c, decide_eq_false (by omega)]
  · rw [if_neg c]
theorem spec_loBack_l2 (places back : Int) (out : List Int) (cars : List Int) (n i : Int) (ho : out.length ≤ 1000) (hp : places ≤ 1000) (r : List Int) : ∀ (d : Nat) (x : Int), x + d = places → 0 ≤ x →
    Ev (fun k => spec_loBack.l0 k places back (out ++ [seek out d x]) cars n (wrap64 (i + 1))) r → Ev (fun k => spec_loBack.l2 k places back out (-1) x cars n i) r
  | 0, x, hx, h0, h => by
    have hj : Ev (fun k => spec_loBack.j4 k places back out (-1) x cars n i false) r := by
      refine Ev.step (fun k => ?_) h
      show spec_loBack.j4 (k + 1) places back out (-1) x cars n i false = _
      rw [spec_loBack.j4, if_neg (by simp), if_pos (by omega)]
      rfl
    refine Ev.step (fun k => ?_) hj
    show spec_loBack.l2 (k + 1) places back out (-1) x cars n i = _
    rw [spec_loBack.l2, if_neg (by omega)]
  | d + 1, x, hx, h0, h => by
    have hj : Ev (fun k => spec_loBack.j4 k places back out (-1) x cars n i true) r := by
      refine Ev.step (fun k => by rw [spec_loBack.j4, if_pos rfl]) ?_
      refine Ev.bind (ev_spec_l1Has out x (by omega)) ?_
      by_cases c : x ∈ out
      · rw [decide_eq_true c, w64 (by omega) (by omega)]
        rw [seek, if_pos c] at h
        exact spec_loBack_l2 places back out cars n i ho hp r d (x + 1) (by omega) (by omega) h
      · rw [decide_eq_false c, w64 (by omega) (by omega)]
        rw [seek, if_neg c] at h
        exact spec_loBack_l2_done places back out x (x + 1) cars n i ho h0 r h
    refine Ev.step (fun k => ?_) hj
    show spec_loBack.l2 (k + 1) places back out (-1) x cars n i = _
    rw [spec_loBack.l2, if_pos (by omega), decide_eq_true (by omega)]
theorem spec_loBack_l1_done (places back : Int) (out : List Int) (x at_ j : Int) (cars : List Int) (n i : Int) (h0 : 0 ≤ at_) (hx : 0 ≤ x) (hx2 : x ≤ 1000) (hj0 : 0 ≤ j) (hj1 : j ≤ 1000) (r : List Int)
    (h : Ev (fun k => spec_loBack.l2 k places back out at_ x cars n i) r) : Ev (fun k => spec_loBack.l1 k places back out x at_ j cars n i) r := by
  have hj : Ev (fun k => spec_loBack.j2 k places back out x at_ j cars n i false) r := by
    refine Ev.step (fun k => ?_) h
    show spec_loBack.j2 (k + 1) places back out x at_ j cars n i false = _
    rw [spec_loBack.j2, if_neg (by simp)]
  refine Ev.step (fun k => ?_) hj
  show spec_loBack.l1 (k + 1) places back out x at_ j cars n i = _
  rw [spec_loBack.l1, decide_eq_false (by omega : ¬ at_ < 0)]
  split
  · split <;> rfl
  · rfl
theorem spec_loBack_l1 (places back : Int) (out : List Int) (x : Int) (cars : List Int) (n i : Int) (ho : out.length ≤ 1000) (hx : 0 ≤ x) (hx2 : x < places) (hp : places ≤ 1000) (hb : back ≤ 100) (r : List Int)
    (hs : ∀ at_, Ev (fun k => spec_loBack.l0 k places back (out ++ [if at_ = -1 then seek out (places - x).toNat x else at_]) cars n (wrap64 (i + 1))) r → (at_ = -1 ∨ 0 ≤ at_) → Ev (fun k => spec_loBack.l2 k places back out at_ x cars n i) r) :
    ∀ (m : Nat) (j : Int), 0 ≤ j → j + m = back + 1 →
      Ev (fun k => spec_loBack.l0 k places back (out ++ [if lookBack out m (x - j) = -1 then seek out (places - x).toNat x else lookBack out m (x - j)]) cars n (wrap64 (i + 1))) r →
      Ev (fun k => spec_loBack.l1 k places back out x (-1) j cars n i) r
  | 0, j, hj, hm, h => by
    have hj : Ev (fun k => spec_loBack.j2 k places back out x (-1) j cars n i false) r := by
      refine Ev.step (fun k => ?_) (hs (-1) (by simpa [lookBack] using h) (.inl rfl))
      show spec_loBack.j2 (k + 1) places back out x (-1) j cars n i false = _
      rw [spec_loBack.j2, if_neg (by simp)]
    refine Ev.step (fun k => ?_) hj
    show spec_loBack.l1 (k + 1) places back out x (-1) j cars n i = _
    rw [spec_loBack.l1, if_neg (by omega)]
  | m + 1, j, hj, hm, h => by
    by_cases c : x - j < 0
    · have hj : Ev (fun k => spec_loBack.j2 k places back out x (-1) j cars n i false) r := by
        refine Ev.step (fun k => ?_) (hs (-1) (by simpa [lookBack, c] using h) (.inl rfl))
        show spec_loBack.j2 (k + 1) places back out x (-1) j cars n i false = _
        rw [spec_loBack.j2, if_neg (by simp)]
      refine Ev.step (fun k => ?_) hj
      show spec_loBack.l1 (k + 1) places back out x (-1) j cars n i = _
      rw [spec_loBack.l1, if_pos (by omega), w64 (by omega) (by omega), if_neg (by omega)]
    · have hj : Ev (fun k => spec_loBack.j2 k places back out x (-1) j cars n i true) r := by
        refine Ev.step (fun k => by rw [spec_loBack.j2, if_pos rfl]) ?_
        rw [w64 (x := x - j) (by omega) (by omega), w64 (x := j + 1) (by omega) (by omega)]
        refine Ev.bind (ev_spec_l1Has out (x - j) (by omega)) ?_
        by_cases d : x - j ∈ out
        · rw [decide_eq_true d]
          rw [lookBack, if_neg c, if_pos d, show x - j - 1 = x - (j + 1) by omega] at h
          exact spec_loBack_l1 places back out x cars n i ho hx hx2 hp hb r hs m (j + 1) (by omega) (by omega) h
        · rw [decide_eq_false d]
          rw [lookBack, if_neg c, if_neg d] at h
          exact spec_loBack_l1_done places back out x (x - j) (j + 1) cars n i (by omega) hx (by omega) (by omega) (by omega) r (hs (x - j) h (.inr (by omega)))
      refine Ev.step (fun k => ?_) hj
      show spec_loBack.l1 (k + 1) places back out x (-1) j cars n i = _
      rw [spec_loBack.l1, if_pos (by omega), w64 (by omega) (by omega), if_pos (by omega), decide_eq_true (by omega)]
theorem spec_loBack_l0 (places back : Int) (hp : places ≤ 1000) (hb0 : 0 ≤ back) (hb : back ≤ 100) : ∀ (t p out : List Int), (∀ c ∈ t, 0 ≤ c ∧ c < places) → p.length + t.length ≤ 500 → out.length + t.length ≤ 500 →
    Ev (fun k => spec_loBack.l0 k places back out (p ++ t) ((p ++ t).length : Int) (p.length : Int)) (backS places back out t)
  | [], p, out, _, _, _ => by
    refine Ev.ret fun k => ?_
    rw [spec_loBack.l0, if_neg (by simp)]
    rfl
  | c :: t, p, out, hc, hn, ho => by
    have hn' : p.length + t.length + 1 ≤ 500 := by simpa [Nat.add_assoc] using hn
    have ho' : out.length + t.length + 1 ≤ 500 := by simpa [Nat.add_assoc] using ho
    have hm := len_mid p c t
    have h0 := hc c (by simp)
    have ih := spec_loBack_l0 places back hp hb0 hb t (p ++ [c]) (out ++ [backOne places back out c]) (fun x hx => hc x (by simp [hx])) (by simp; omega) (by simp; omega)
    rw [app_snoc, len_snoc] at ih
    refine Ev.step (fun k => ?_) (spec_loBack_l1 places back out c (p ++ c :: t) ((p ++ c :: t).length : Int) (p.length : Int) (by omega) h0.1 h0.2 hp hb (backS places back out (c :: t)) (fun at_ h hat => ?_) (back.toNat + 1) 0 (by omega) (by omega) ?_)
    · show spec_loBack.l0 (k + 1) places back out (p ++ c :: t) ((p ++ c :: t).length : Int) (p.length : Int) = _
      rw [spec_loBack.l0, if_pos (by omega), if_pos (by omega), if_pos (by omega), rd_mid]
    · rcases hat with rfl | hat
      · rw [if_pos rfl] at h
        exact spec_loBack_l2 places back out _ _ _ (by omega) hp _ (places - c).toNat c (by omega) h0.1 h
      · rw [if_neg (by omega)] at h
        exact spec_loBack_l2_done places back out at_ c _ _ _ (by omega) hat _ h
    · rw [w64 (by omega) (by omega), Int.sub_zero]
      exact ih
theorem ev_spec_loBack (l : List Int) (places back : Int) (hp : places ≤ 1000) (hb0 : 0 ≤ back) (hb : back ≤ 100) (hl : l.length ≤ 500) (hc : ∀ c ∈ l, 0 ≤ c ∧ c < places) : Ev (fun k => spec_loBack.f k l places back) (backS places back [] l) :=
  spec_loBack_l0 places back hp hb0 hb l [] [] hc (by simpa using hl) (by simpa using hl)

/-- All numbers lie from lo to hi. -/
def inAll (lo hi : Int) (l : List Int) : Bool := l.all fun n => decide (lo ≤ n) && decide (n ≤ hi)
theorem inAll_iff (lo hi : Int) (l : List Int) : inAll lo hi l = true ↔ ∀ x ∈ l, lo ≤ x ∧ x ≤ hi := by
  simp [inAll, List.all_eq_true]
theorem inAll_cons (lo hi x : Int) (l : List Int) : inAll lo hi (x :: l) = ((decide (lo ≤ x) && decide (x ≤ hi)) && inAll lo hi l) := by
  simp [inAll]

/-- Favourites for a street with so many places. -/
def fav (l : List Int) (places : Int) : Bool := (decide (1 ≤ places) && decide (places ≤ 12)) && (decide (l.length ≤ 8) && inAll 0 (places - 1) l)
theorem fav_iff (l : List Int) (places : Int) : fav l places = true ↔ (1 ≤ places ∧ places ≤ 12) ∧ l.length ≤ 8 ∧ ∀ x ∈ l, 0 ≤ x ∧ x ≤ places - 1 := by
  simp only [fav, Bool.and_eq_true, decide_eq_true_eq, inAll_iff]

theorem slices_IndexFunc_l0 (q : Int → Bool) : ∀ (t p : List Int), p.length + t.length ≤ 35184372088832 →
    ∃ r : Int, decide (r ≥ 0) = t.any q ∧ Ev (fun k => slices_IndexFunc_int_int.l0 q k (p ++ t) ((p ++ t).length : Int) (p.length : Int)) r
  | [], p, _ => by
    refine ⟨-1, by simp, Ev.ret fun k => ?_⟩
    rw [slices_IndexFunc_int_int.l0, if_neg (by simp)]
  | h :: t, p, hn => by
    have hn' : p.length + t.length + 1 ≤ 35184372088832 := by simpa [Nat.add_assoc] using hn
    have hm := len_mid p h t
    cases c : q h with
    | true =>
      refine ⟨p.length, by simp [c], Ev.ret fun k => ?_⟩
      rw [slices_IndexFunc_int_int.l0, if_pos (by omega), if_pos (by omega), if_pos (by omega), rd_mid, c, Option.bind_some, if_pos rfl]
    | false =>
      obtain ⟨r, hr, ih⟩ := slices_IndexFunc_l0 q t (p ++ [h]) (by simp; omega)
      rw [app_snoc, len_snoc] at ih
      refine ⟨r, by simpa [c] using hr, Ev.step (fun k => ?_) ih⟩
      show slices_IndexFunc_int_int.l0 q (k + 1) (p ++ h :: t) ((p ++ h :: t).length : Int) (p.length : Int) = _
      rw [slices_IndexFunc_int_int.l0, if_pos (by omega), if_pos (by omega), if_pos (by omega), rd_mid, c, Option.bind_some, if_neg (by simp), w64 (by omega) (by omega)]
theorem ev_containsFunc (q : Int → Bool) (l : List Int) (hl : l.length ≤ 35184372088832) : Ev (fun k => slices_ContainsFunc_int_int.f q k l) (l.any q) := by
  obtain ⟨r, hr, h⟩ := slices_IndexFunc_l0 q l [] (by simpa using hl)
  rw [← hr]
  exact Ev.congr (fun k => rfl) (Ev.bind h (Ev.now _))

theorem ev_impl_between (a b c : Int) : impl_between.f a b c = some (decide (b ≤ a) && decide (a ≤ c)) := by
  unfold impl_between.f
  by_cases h : a ≥ b
  · rw [if_pos h]; simp [show b ≤ a from h]
  · rw [if_neg h]; simp [show ¬ b ≤ a from h]

theorem ev_impl_areBetween (l : List Int) (lo hi : Int) (hl : l.length ≤ 35184372088832) : Ev (fun k => impl_areBetween.f k l lo hi) (inAll lo hi l) := by
  have e : (!(l.any (impl_areBetween_1.p lo hi))) = inAll lo hi l := by
    have hp : ∀ n, impl_areBetween_1.p lo hi n = !(decide (lo ≤ n) && decide (n ≤ hi)) := fun n => by
      simp [impl_areBetween_1.p, ev_impl_between]
    unfold inAll
    induction l with
    | nil => rfl
    | cons x t ih =>
      rw [List.any_cons, List.all_cons, Bool.not_or, ih (by simp at hl; omega), hp, Bool.not_not]
  rw [← e]
  exact Ev.congr (fun k => rfl) (Ev.bind (ev_containsFunc (impl_areBetween_1.p lo hi) l hl) (Ev.now _))

theorem ev_impl_AreFavourites (l : List Int) (places : Int) : Ev (fun k => impl_AreFavourites.f k l places) (fav l places) := by
  cases c : decide (1 ≤ places) && decide (places ≤ 12) with
  | false =>
    refine Ev.congr (fun k => ?_) (Ev.now _)
    show impl_AreFavourites.f k l places = _
    rw [impl_AreFavourites.f, ev_impl_between, c]
    simp [fav, c]
  | true =>
    have cc : 1 ≤ places ∧ places ≤ 12 := by simpa using c
    by_cases d : l.length ≤ 8
    · have e : fav l places = inAll 0 (places - 1) l := by simp [fav, d, cc]
      rw [e]
      refine Ev.congr (fun k => by rw [impl_AreFavourites.f, ev_impl_between, c, Option.bind_some, if_pos rfl, if_pos (by omega), w64 (by omega) (by omega)]) ?_
      exact Ev.bind (ev_impl_areBetween l _ _ (by omega)) (Ev.now _)
    · refine Ev.congr (fun k => ?_) (Ev.now _)
      show impl_AreFavourites.f k l places = _
      rw [impl_AreFavourites.f, ev_impl_between, c, Option.bind_some, if_pos rfl, if_neg (by omega)]
      simp [fav, d]

theorem ev_spec_l1In (a b c : Int) : spec_l1In.f a b c = some (decide (b ≤ a) && decide (a ≤ c)) := by
  unfold spec_l1In.f
  by_cases h : a ≥ b
  · rw [if_pos h]; simp [show b ≤ a from h]
  · rw [if_neg h]; simp [show ¬ b ≤ a from h]

theorem spec_l1All_l0 (lo hi : Int) : ∀ (t p : List Int), p.length + t.length ≤ 35184372088832 →
    Ev (fun k => spec_l1All.l0 k lo hi (p ++ t) ((p ++ t).length : Int) (p.length : Int)) (inAll lo hi t)
  | [], p, _ => by
    refine Ev.ret fun k => ?_
    rw [spec_l1All.l0, if_neg (by simp)]
    rfl
  | h :: t, p, hn => by
    have hn' : p.length + t.length + 1 ≤ 35184372088832 := by simpa [Nat.add_assoc] using hn
    have hm := len_mid p h t
    rw [inAll_cons]
    cases c : decide (lo ≤ h) && decide (h ≤ hi) with
    | true =>
      have ih := spec_l1All_l0 lo hi t (p ++ [h]) (by simp; omega)
      rw [app_snoc, len_snoc] at ih
      rw [Bool.true_and]
      refine Ev.step (fun k => ?_) ih
      show spec_l1All.l0 (k + 1) lo hi (p ++ h :: t) ((p ++ h :: t).length : Int) (p.length : Int) = _
      rw [spec_l1All.l0, if_pos (by omega), if_pos (by omega), if_pos (by omega), rd_mid, ev_spec_l1In, c, Option.bind_some, if_pos rfl, w64 (by omega) (by omega)]
    | false =>
      rw [Bool.false_and]
      refine Ev.ret fun k => ?_
      rw [spec_l1All.l0, if_pos (by omega), if_pos (by omega), if_pos (by omega), rd_mid, ev_spec_l1In, c]
      rfl
theorem ev_spec_l1All (l : List Int) (lo hi : Int) (hl : l.length ≤ 35184372088832) : Ev (fun k => spec_l1All.f k l lo hi) (inAll lo hi l) :=
  spec_l1All_l0 lo hi l [] (by simpa using hl)

theorem ev_spec_paGood (l : List Int) (places : Int) : Ev (fun k => spec_paGood.f k l places) (fav l places) := by
  have hs : spec_paStreet.f places = some (decide (1 ≤ places) && decide (places ≤ 12)) := by
    unfold spec_paStreet.f
    rw [ev_spec_l1In]
    rfl
  cases c : decide (1 ≤ places) && decide (places ≤ 12) with
  | false =>
    refine Ev.congr (fun k => ?_) (Ev.now _)
    show spec_paGood.f k l places = _
    rw [spec_paGood.f, hs, c]
    simp [fav, c]
  | true =>
    have cc : 1 ≤ places ∧ places ≤ 12 := by simpa using c
    by_cases d : l.length ≤ 8
    · have e : fav l places = inAll 0 (places - 1) l := by simp [fav, d, cc]
      rw [e]
      refine Ev.congr (fun k => by rw [spec_paGood.f, hs, c, Option.bind_some, if_pos rfl, if_pos (by omega), w64 (by omega) (by omega)]) ?_
      exact Ev.bind (ev_spec_l1All l _ _ (by omega)) (Ev.now _)
    · refine Ev.congr (fun k => ?_) (Ev.now _)
      show spec_paGood.f k l places = _
      rw [spec_paGood.f, hs, c, Option.bind_some, if_pos rfl, if_neg (by omega)]
      simp [fav, d]

theorem ev_spec_loBacks (b : Int) : spec_loBacks.f b = some (decide (0 ≤ b) && decide (b ≤ 8)) := by
  unfold spec_loBacks.f
  rw [ev_spec_l1In]
  rfl

theorem ev_impl_isBack (b : Int) : impl_isBack.f b = some (decide (0 ≤ b) && decide (b ≤ 8)) := by
  unfold impl_isBack.f
  rw [ev_impl_between]
  rfl

theorem doParkBack_both (l : List Int) (a b : Int) : ∃ r : Bool × Bool, Ev (fun k => spec_DoParkBack.f k l a b) r ∧ Ev (fun k => impl_DoParkBack.f k l a b) r := by
  cases c : fav l a with
  | false =>
    refine ⟨(false, false), ?_, ?_⟩
    · refine Ev.congr (fun k => rfl) (Ev.bind (ev_spec_paGood l a) ?_)
      rw [c]
      exact Ev.ret fun k => by rw [if_neg (by simp), spec_DoParkBack.j0, if_pos rfl]
    · refine Ev.congr (fun k => rfl) (Ev.bind (ev_impl_AreFavourites l a) ?_)
      rw [c]; exact Ev.now _
  | true =>
    obtain ⟨⟨h1, h2⟩, h3, h4⟩ := (fav_iff l a).1 c
    cases d : decide (0 ≤ b) && decide (b ≤ 8) with
    | false =>
      refine ⟨(false, false), ?_, ?_⟩
      · refine Ev.congr (fun k => rfl) (Ev.bind (ev_spec_paGood l a) ?_)
        rw [c]
        refine Ev.congr (fun k => by rw [if_pos rfl, ev_spec_loBacks, d, Option.bind_some]) ?_
        exact Ev.ret fun k => by rw [spec_DoParkBack.j0, if_pos (by simp)]
      · refine Ev.congr (fun k => rfl) (Ev.bind (ev_impl_AreFavourites l a) ?_)
        rw [c]
        refine Ev.congr (fun k => by rw [if_pos rfl, ev_impl_isBack, d, Option.bind_some, if_neg (by simp)]) (Ev.now _)
    | true =>
      have dd : 0 ≤ b ∧ b ≤ 8 := by simpa using d
      have hc : ∀ c ∈ l, 0 ≤ c ∧ c < a := fun x hx => by have := h4 x hx; omega
      have hs := ev_spec_loBack l a b (by omega) dd.1 (by omega) (by omega) hc
      have hi := ev_impl_driveBack l a b (by omega) (by omega) dd.1 (by omega) (by omega) hc
      have hh := ev_spec_l1Has (backS a b [] l) (-1) (by rw [backS_length]; simp; omega)
      refine ⟨(!decide ((-1 : Int) ∈ backS a b [] l), true), ?_, ?_⟩
      · refine Ev.congr (fun k => rfl) (Ev.bind (ev_spec_paGood l a) ?_)
        rw [c]
        refine Ev.congr (fun k => by rw [if_pos rfl, ev_spec_loBacks, d, Option.bind_some]) ?_
        refine Ev.step (fun k => by rw [spec_DoParkBack.j0, if_neg (by simp)]) ?_
        exact Ev.bind hs (Ev.bind hh (Ev.now _))
      · refine Ev.congr (fun k => rfl) (Ev.bind (ev_impl_AreFavourites l a) ?_)
        rw [c]
        refine Ev.congr (fun k => by rw [if_pos rfl, ev_impl_isBack, d, Option.bind_some, if_pos rfl]) ?_
        refine Ev.bind hi ?_
        unfold orNone
        by_cases e : (-1 : Int) ∈ backS a b [] l
        · rw [decide_eq_true e, if_pos e]; exact Ev.now _
        · rw [decide_eq_false e, if_neg e]; exact Ev.now _

theorem FnExactDoParkBack : laws_FnExactDoParkBack.Pure := by
  intro l0 i0 i1 _ _ _ _ _
  by_cases c0 : (l0.length : Int) > 1048576
  · refine ⟨0, ?_⟩
    rw [laws_FnExactDoParkBack.f, if_pos c0]
  have hl0 : l0.length ≤ 35184372088832 := by omega
  obtain ⟨r, hs, hi⟩ := doParkBack_both l0 i0 i1
  refine Ev.rounds ?_
  refine Ev.congr (fun k => by rw [laws_FnExactDoParkBack.f, if_neg c0]) ?_
  refine Ev.bind (ev_toIntS l0 hl0) ?_
  refine Ev.bind (hs) ?_
  refine Ev.bind (ev_toIntS l0 hl0) ?_
  refine Ev.bind (hi) ?_
  refine Ev.congr (fun k => by rw [bne_self_eq_false, bne_self_eq_false, if_neg (by simp)]) ?_
  refine Ev.step (fun k => by rw [laws_FnExactDoParkBack.j0, if_neg (by simp)]) ?_
  refine Ev.bind (ev_toIntS l0 hl0) ?_
  refine Ev.bind (ev_eqIntS l0 hl0) ?_
  refine Ev.congr (fun k => by rw [if_pos rfl]) ?_
  exact Ev.now true

end Go.Proofs.Ytljggaekcojpnaa.Pure
