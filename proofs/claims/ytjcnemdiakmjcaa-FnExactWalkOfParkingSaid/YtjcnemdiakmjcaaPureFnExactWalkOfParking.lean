/- WalkOfParking of the program and of the reference agree on every list, the argument stays, and nothing is shared. -/
import Derived.Test.YtjcnemdiakmjcaaWSized
import Derived.Test.YtjcnemdiakmjcaaPFnExactWalkOfParkingx
namespace Go.Proofs.Ytjcnemdiakmjcaa.PrintWords
open Go.ChangeShapes Go.WideShapes
/-- The word by the name that the printed row asks for. -/
theorem sized_ints {H : Type} {enc : TypeId × Value → H} {P : Program} {W : World} {base : Nat} {spare : Nat → Bool} {held : Bool} {t e : TypeId} {k : IntKind} {a : Option Addr} {len cap : Nat} {d : DataW H} {ps : List MemPlace} {ts : List TypeId} {ds : List (DataW H)} {j : Nat}
    (hsz : (DataW.weightsEach P ts ds).all (· ≤ reachBytes) = true) (ht : ts[j]? = some t) (hd : ds[j]? = some d) (hu : P.underlying t = some (.slice e)) (he : P.underlying e = some (.int k)) (hc : P.cellsOf e = 1) {B : Nat} (hB : P.bytesOf e = B)
    (h : DataW.Trod enc P W base spare held t (.slice a len cap) d ps) : len * B ≤ 140737488351232 :=
  Go.Proofs.YtjcnemdiakmjcaaW.PrintWords.sized_ints hsz ht hd hu he hc hB h
end Go.Proofs.Ytjcnemdiakmjcaa.PrintWords
namespace Go.Proofs.Ytjcnemdiakmjcaa.Pure
open Go.RowKit Go.Proofs.Ytjcnemdiakmjcaa.PFnExactWalkOfParking Go.Proofs.YtjcnemdiakmjcaaW.PrintWords Go.Proofs.YtjcnemdiakmjcaaW.PrintLast
set_option linter.unusedVariables false
set_option linter.unusedSimpArgs false

theorem w64 {x : Int} (h0 : -9223372036854775808 ≤ x) (h1 : x ≤ 9223372036854775807) : wrap64 x = x := by
  unfold wrap64
  omega
theorem rd_mid (p : List Int) (h : Int) (t : List Int) : rd (p ++ h :: t) (p.length : Int) = h := by
  unfold rd
  simp
theorem rd_nat (l : List Int) (i : Nat) : rd l (i : Int) = l.getD i 0 := by
  unfold rd
  simp
theorem Ev.ret {α : Type} {g : Nat → Option α} {r : α} (h : ∀ k, g (k + 1) = some r) : Ev g r :=
  Ev.step (f := fun _ => some r) h (Ev.now r)

theorem toIntS_l0 : ∀ (t p : List Int), p.length + t.length ≤ 35184372088832 →
    Ev (fun k => laws_toIntS.l0 k (p ++ t) (p ++ List.replicate t.length 0) (p.length : Int)) (p ++ t)
  | [], p, _ => by
    refine Ev.ret fun k => ?_
    rw [laws_toIntS.l0, if_neg (by simp)]
    simp
  | h :: t, p, hn => by
    have hn' : p.length + t.length + 1 ≤ 35184372088832 := by simpa [Nat.add_assoc] using hn
    have ih := toIntS_l0 t (p ++ [h]) (by simp; omega)
    have e1 : (p ++ [h]) ++ t = p ++ h :: t := by simp
    have e2 : (((p ++ [h]).length : Nat) : Int) = (p.length : Int) + 1 := by simp
    rw [e1, e2] at ih
    refine Ev.step (fun k => ?_) ih
    show laws_toIntS.l0 (k + 1) (p ++ h :: t) (p ++ List.replicate (h :: t).length 0) (p.length : Int) = _
    rw [laws_toIntS.l0, if_pos (by simp; omega), if_pos (by omega), if_pos (by simp; omega), rd_mid, w64 (by omega) (by omega)]
    congr 1
    simp [List.replicate_succ, List.set_append]
theorem ev_toIntS (l : List Int) (h : l.length ≤ 35184372088832) : Ev (fun k => laws_toIntS.f k l) l := by
  have z := toIntS_l0 l [] (by simpa using h)
  refine Ev.congr (fun k => ?_) z
  show laws_toIntS.f k l = _
  rw [laws_toIntS.f, if_pos (by omega), if_pos (by simpa using h)]
  simp

theorem eqIntS_l0 : ∀ (t p : List Int), p.length + t.length ≤ 35184372088832 →
    Ev (fun k => laws_eqIntS.l0 k (p ++ t) (p ++ t) (p.length : Int)) true
  | [], p, _ => by
    refine Ev.ret fun k => ?_
    rw [laws_eqIntS.l0, if_neg (by simp)]
  | h :: t, p, hn => by
    have hn' : p.length + t.length + 1 ≤ 35184372088832 := by simpa [Nat.add_assoc] using hn
    have ih := eqIntS_l0 t (p ++ [h]) (by simp; omega)
    have e1 : (p ++ [h]) ++ t = p ++ h :: t := by simp
    have e2 : (((p ++ [h]).length : Nat) : Int) = (p.length : Int) + 1 := by simp
    rw [e1, e2] at ih
    refine Ev.step (fun k => ?_) ih
    show laws_eqIntS.l0 (k + 1) (p ++ h :: t) (p ++ h :: t) (p.length : Int) = _
    rw [laws_eqIntS.l0, if_pos (by simp; omega), if_pos (by omega), if_pos (by simp; omega), rd_mid, if_pos rfl, w64 (by omega) (by omega)]
theorem ev_eqIntS (l : List Int) (h : l.length ≤ 35184372088832) : Ev (fun k => laws_eqIntS.f k l l) true := by
  have z := eqIntS_l0 l [] (by simpa using h)
  refine Ev.congr (fun k => ?_) z
  show laws_eqIntS.f k l l = _
  rw [laws_eqIntS.f, if_pos rfl]
  rfl

/-- n numbers from one on. -/
def marks (k : Int) : Nat → List Int
  | 0 => []
  | n + 1 => k :: marks (k + 1) n
theorem marks_length : ∀ (n : Nat) (k : Int), (marks k n).length = n
  | 0, _ => rfl
  | n + 1, k => by simp [marks, marks_length n]
theorem markIntS_l0 : ∀ (t p : List Int) (k : Int), 0 ≤ k → k + t.length ≤ 4611686018427387904 → p.length + t.length ≤ 35184372088832 →
    Ev (fun n => laws_markIntS.l0 n (p ++ t) k (p.length : Int)) (k + t.length, p ++ marks k t.length)
  | [], p, k, _, _, _ => by
    refine Ev.ret fun n => ?_
    rw [laws_markIntS.l0, if_neg (by simp)]
    simp [marks]
  | h :: t, p, k, h0, hk, hn => by
    have hn' : p.length + t.length + 1 ≤ 35184372088832 := by simpa [Nat.add_assoc] using hn
    have hk' : k + (t.length : Int) + 1 ≤ 4611686018427387904 := by simp at hk; omega
    have ih := markIntS_l0 t (p ++ [k]) (k + 1) (by omega) (by omega) (by simp; omega)
    have e1 : (p ++ [k]) ++ t = p ++ k :: t := by simp
    have e2 : (((p ++ [k]).length : Nat) : Int) = (p.length : Int) + 1 := by simp
    rw [e1, e2] at ih
    have e3 : ((k + ((h :: t).length : Int), p ++ marks k (h :: t).length) : Int × List Int) = (k + 1 + (t.length : Int), p ++ [k] ++ marks (k + 1) t.length) := by
      simp [marks]; omega
    rw [e3]
    refine Ev.step (fun n => ?_) ih
    show laws_markIntS.l0 (n + 1) (p ++ h :: t) k (p.length : Int) = _
    rw [laws_markIntS.l0, if_pos (by simp; omega), if_pos (by omega), w64 (by omega) (by omega), w64 (by omega) (by omega)]
    congr 1
    simp [List.set_append]
theorem ev_markIntS (l : List Int) (k : Int) (h0 : 0 ≤ k) (hk : k ≤ 4000000000000000000) (hl : l.length ≤ 35184372088832) : Ev (fun n => laws_markIntS.f n l k) (k + l.length, marks k l.length) :=
  markIntS_l0 l [] k h0 (by omega) (by simpa using hl)
theorem heldIntS_l0 : ∀ (m : Nat) (p : List Int) (k : Int), 0 ≤ k → k + m ≤ 4611686018427387904 → p.length + m ≤ 35184372088832 →
    Ev (fun n => laws_heldIntS.l0 n (p ++ marks k m) k (p.length : Int)) (k + m)
  | 0, p, k, _, _, _ => by
    refine Ev.ret fun n => ?_
    rw [laws_heldIntS.l0, if_neg (by simp [marks])]
    simp
  | m + 1, p, k, h0, hk, hn => by
    have ih := heldIntS_l0 m (p ++ [k]) (k + 1) (by omega) (by omega) (by simp; omega)
    have e1 : (p ++ [k]) ++ marks (k + 1) m = p ++ k :: marks (k + 1) m := by simp
    have e2 : (((p ++ [k]).length : Nat) : Int) = (p.length : Int) + 1 := by simp
    rw [e1, e2] at ih
    have e3 : k + ((m + 1 : Nat) : Int) = k + 1 + (m : Int) := by omega
    rw [e3]
    refine Ev.step (fun n => ?_) ih
    show laws_heldIntS.l0 (n + 1) (p ++ k :: marks (k + 1) m) k (p.length : Int) = _
    rw [laws_heldIntS.l0, if_pos (by simp; omega), if_pos (by omega), rd_mid, if_pos rfl, w64 (by omega) (by omega), w64 (by omega) (by omega)]
theorem ev_heldIntS (k : Int) (m : Nat) (h0 : 0 ≤ k) (hk : k ≤ 4000000000000000000) (hm : m ≤ 35184372088832) : Ev (fun n => laws_heldIntS.f n (marks k m) k) (k + m) :=
  heldIntS_l0 m [] k h0 (by omega) (by simpa using hm)

theorem ev_eqWalk (a b : List Int) (ha : a.length ≤ 35184372088832) (hb : b.length ≤ 35184372088832) : Ev (fun k => laws_eqWalk.f k a b a b) true :=
  Ev.congr (fun k => rfl) (Ev.bind (ev_eqIntS a ha) (Ev.congr (fun k => if_pos rfl) (Ev.bind (ev_eqIntS b hb) (Ev.congr (fun k => if_pos rfl) (Ev.now true)))))
theorem ev_markWalk (a b : List Int) (ha : a.length ≤ 35184372088832) (hb : b.length ≤ 35184372088832) :
    Ev (fun k => laws_markWalk.f k a b 1) ((1 + (a.length : Int)) + (b.length : Int), marks 1 a.length, marks (1 + (a.length : Int)) b.length) :=
  Ev.congr (fun k => rfl) (Ev.bind (ev_markIntS a 1 (by omega) (by omega) ha) (Ev.bind (ev_markIntS b (1 + (a.length : Int)) (by omega) (by omega) hb) (Ev.now _)))
theorem ev_heldWalk (a b : List Int) (ha : a.length ≤ 35184372088832) (hb : b.length ≤ 35184372088832) :
    Ev (fun k => laws_heldWalk.f k (marks 1 a.length) (marks (1 + (a.length : Int)) b.length) 1) ((1 + (a.length : Int)) + (b.length : Int)) := by
  refine Ev.congr (fun k => rfl) (Ev.bind (ev_heldIntS 1 a.length (by omega) (by omega) ha) ?_)
  refine Ev.congr (fun k => by rw [if_neg (by omega)]) ?_
  refine Ev.bind (ev_heldIntS (1 + (a.length : Int)) b.length (by omega) (by omega) hb) ?_
  exact Ev.congr (fun k => by rw [if_neg (by omega)]) (Ev.now _)

/-- One step of a walk along a list: what stands behind the place. -/
theorem len_snoc (p : List Int) (h : Int) : (((p ++ [h]).length : Nat) : Int) = (p.length : Int) + 1 := by simp
theorem app_snoc (p : List Int) (h : Int) (t : List Int) : (p ++ [h]) ++ t = p ++ h :: t := by simp
theorem len_mid (p : List Int) (h : Int) (t : List Int) : ((p ++ h :: t).length : Int) = (p.length : Int) + t.length + 1 := by simp; omega

/-- The first free place from x on, of d that are left; -1 if there is none. -/
def seek (out : List Int) : Nat → Int → Int
  | 0, _ => -1
  | d + 1, x => if x ∈ out then seek out d (x + 1) else x
theorem seek_range (out : List Int) : ∀ (d : Nat) (x : Int), seek out d x = -1 ∨ x ≤ seek out d x ∧ seek out d x < x + d ∧ seek out d x ∉ out
  | 0, x => .inl rfl
  | d + 1, x => by
    simp only [seek]
    by_cases c : x ∈ out
    · rw [if_pos c]
      rcases seek_range out d (x + 1) with h | ⟨h1, h2, h3⟩
      · exact .inl h
      · exact .inr ⟨by omega, by omega, h3⟩
    · rw [if_neg c]
      exact .inr ⟨by omega, by omega, c⟩
/-- The places of cars that come behind others, -1 for those that fail. -/
def driveS (places : Int) (out : List Int) : List Int → List Int
  | [] => out
  | c :: t => driveS places (out ++ [seek out (places - c).toNat c]) t
theorem driveS_prefix (places : Int) : ∀ (t out : List Int), ∃ s, s.length = t.length ∧ driveS places out t = out ++ s
  | [], out => ⟨[], rfl, by simp [driveS]⟩
  | c :: t, out => by
    obtain ⟨s, hl, h⟩ := driveS_prefix places t (out ++ [seek out (places - c).toNat c])
    exact ⟨seek out (places - c).toNat c :: s, by simp [hl], by rw [driveS, h]; simp⟩
theorem driveS_length (places : Int) (t out : List Int) : (driveS places out t).length = out.length + t.length := by
  obtain ⟨s, hl, h⟩ := driveS_prefix places t out
  rw [h]; simp [hl]
/-- Which places are taken. -/
def Tk (places : Int) (out : List Int) (taken : List Bool) : Prop :=
  (taken.length : Int) = places ∧ ∀ j : Nat, (j : Int) < places → taken.getD j false = decide ((j : Int) ∈ out)
theorem Tk.at {places : Int} {out : List Int} {taken : List Bool} (h : Tk places out taken) (x : Int) (h0 : 0 ≤ x) (h1 : x < places) : rdOf false taken x = decide (x ∈ out) := by
  have := h.2 x.toNat (by omega)
  have e : ((x.toNat : Nat) : Int) = x := by omega
  rw [e] at this
  exact this
theorem Tk.fail {places : Int} {out : List Int} {taken : List Bool} (h : Tk places out taken) : Tk places (out ++ [-1]) taken := by
  refine ⟨h.1, fun j hj => ?_⟩
  rw [h.2 j hj]
  exact decide_eq_decide.2 (by simp)
theorem Tk.take {places : Int} {out : List Int} {taken : List Bool} (h : Tk places out taken) (x : Int) (h0 : 0 ≤ x) (h1 : x < places) : Tk places (out ++ [x]) (taken.set x.toNat true) := by
  refine ⟨by simp [h.1], fun j hj => ?_⟩
  have hl := h.1
  have hx : x.toNat < taken.length := by omega
  have hjl : j < taken.length := by omega
  have e := h.2 j hj
  rw [List.getD_eq_getElem?_getD] at e ⊢
  by_cases c : x.toNat = j
  · rw [c, List.getElem?_set_self (by omega)]
    have : (j : Int) ∈ out ++ [x] := by simp; right; omega
    simp [this]
  · rw [List.getElem?_set_ne c, e]
    refine decide_eq_decide.2 ?_
    have : (j : Int) ≠ x := by omega
    simp [this]
theorem Tk.none (places : Int) (h0 : 0 ≤ places) : Tk places [] (List.replicate places.toNat false) := by
  refine ⟨by simp; omega, fun j hj => ?_⟩
  rw [List.getD_eq_getElem?_getD, List.getElem?_replicate]
  split <;> simp

/-- All numbers lie from lo to hi. -/
def inAll (lo hi : Int) (l : List Int) : Bool := l.all fun n => decide (lo ≤ n) && decide (n ≤ hi)
theorem inAll_iff (lo hi : Int) (l : List Int) : inAll lo hi l = true ↔ ∀ x ∈ l, lo ≤ x ∧ x ≤ hi := by
  simp [inAll, List.all_eq_true]
theorem inAll_cons (lo hi x : Int) (l : List Int) : inAll lo hi (x :: l) = ((decide (lo ≤ x) && decide (x ≤ hi)) && inAll lo hi l) := by
  simp [inAll]

/-- A parking function. -/
def pf (l : List Int) : Bool := decide (l.length ≤ 8) && (inAll 0 ((l.length : Int) - 1) l && !(decide ((-1 : Int) ∈ driveS l.length [] l)))
theorem pf_iff (l : List Int) : pf l = true ↔ l.length ≤ 8 ∧ (∀ x ∈ l, 0 ≤ x ∧ x ≤ (l.length : Int) - 1) ∧ (-1 : Int) ∉ driveS l.length [] l := by
  simp only [pf, Bool.and_eq_true, decide_eq_true_eq, inAll_iff, Bool.not_eq_true', decide_eq_false_iff_not]
/-- A favourite at or behind the end fails. -/
theorem driveS_over (places : Int) : ∀ (t out : List Int), (∃ c ∈ t, places ≤ c) → (-1 : Int) ∈ driveS places out t
  | [], out, h => by obtain ⟨c, hc, _⟩ := h; cases hc
  | c :: t, out, h => by
    rw [driveS]
    by_cases d : places ≤ c
    · rw [show (places - c).toNat = 0 by omega]
      obtain ⟨s, _, hs⟩ := driveS_prefix places t (out ++ [seek out 0 c])
      rw [hs]
      simp [seek]
    · refine driveS_over places t _ ?_
      obtain ⟨x, hx, h1⟩ := h
      rcases List.mem_cons.1 hx with rfl | h2
      · exact absurd h1 d
      · exact ⟨x, h2, h1⟩

theorem spec_l1Has_l0 (x : Int) : ∀ (t p : List Int), p.length + t.length ≤ 35184372088832 →
    Ev (fun k => spec_l1Has.l0 k x (p ++ t) ((p ++ t).length : Int) (p.length : Int)) (decide (x ∈ t))
  | [], p, _ => by
    refine Ev.ret fun k => ?_
    rw [spec_l1Has.l0, if_neg (by simp)]
    simp
  | h :: t, p, hn => by
    have hn' : p.length + t.length + 1 ≤ 35184372088832 := by simpa [Nat.add_assoc] using hn
    have hm := len_mid p h t
    by_cases c : h = x
    · rw [decide_eq_true (by simp [c] : x ∈ h :: t)]
      refine Ev.ret fun k => ?_
      rw [spec_l1Has.l0, if_pos (by omega), if_pos (by omega), if_pos (by omega), rd_mid, if_pos c]
    · have ih := spec_l1Has_l0 x t (p ++ [h]) (by simp; omega)
      rw [app_snoc, len_snoc] at ih
      have e : decide (x ∈ h :: t) = decide (x ∈ t) := decide_eq_decide.2 (by simp [Ne.symm c])
      rw [e]
      refine Ev.step (fun k => ?_) ih
      show spec_l1Has.l0 (k + 1) x (p ++ h :: t) ((p ++ h :: t).length : Int) (p.length : Int) = _
      rw [spec_l1Has.l0, if_pos (by omega), if_pos (by omega), if_pos (by omega), rd_mid, if_neg c, w64 (by omega) (by omega)]
theorem ev_spec_l1Has (l : List Int) (x : Int) (hl : l.length ≤ 35184372088832) : Ev (fun k => spec_l1Has.f k l x) (decide (x ∈ l)) :=
  spec_l1Has_l0 x l [] (by simpa using hl)

theorem spec_paDrive_l1 (places : Int) (cars : List Int) (n i : Int) (out : List Int) (ho : out.length ≤ 1000) (r : List Int) : ∀ (d : Nat) (x : Int), x + d = places → 0 ≤ x → places ≤ 1000 →
    Ev (fun k => spec_paDrive.l0 k places (out ++ [seek out d x]) cars n (wrap64 (i + 1))) r → Ev (fun k => spec_paDrive.l1 k places out x cars n i) r
  | 0, x, hx, h0, hp, h => by
    refine Ev.step (fun k => ?_) h
    show spec_paDrive.l1 (k + 1) places out x cars n i = _
    rw [spec_paDrive.l1, if_neg (by omega), if_pos (by omega), if_pos (by omega)]
    rfl
  | d + 1, x, hx, h0, hp, h => by
    by_cases c : x ∈ out
    · have ih := spec_paDrive_l1 places cars n i out ho r d (x + 1) (by omega) (by omega) hp (by rw [seek, if_pos c] at h; exact h)
      refine Ev.step (f := fun k => (spec_l1Has.f k out x).bind fun t => if t = true then spec_paDrive.l1 k places out (wrap64 (x + 1)) cars n i else if x ≥ places then if out.length < 17592186044416 then spec_paDrive.l0 k places (out ++ [-1]) cars n (wrap64 (i + 1)) else none else if out.length < 17592186044416 then spec_paDrive.l0 k places (out ++ [x]) cars n (wrap64 (i + 1)) else none) (fun k => ?_) ?_
      · rw [spec_paDrive.l1, if_pos (by omega)]
      · refine Ev.bind (ev_spec_l1Has out x (by omega)) ?_
        rw [decide_eq_true c, w64 (by omega) (by omega)]
        exact ih
    · refine Ev.step (f := fun k => (spec_l1Has.f k out x).bind fun t => if t = true then spec_paDrive.l1 k places out (wrap64 (x + 1)) cars n i else if x ≥ places then if out.length < 17592186044416 then spec_paDrive.l0 k places (out ++ [-1]) cars n (wrap64 (i + 1)) else none else if out.length < 17592186044416 then spec_paDrive.l0 k places (out ++ [x]) cars n (wrap64 (i + 1)) else none) (fun k => ?_) ?_
      · rw [spec_paDrive.l1, if_pos (by omega)]
      · refine Ev.bind (ev_spec_l1Has out x (by omega)) ?_
        rw [decide_eq_false c]
        rw [seek, if_neg c] at h
        refine Ev.congr (fun k => ?_) h
        show (if false = true then _ else _) = _
        rw [if_neg (by simp), if_neg (by omega), if_pos (by omega)]
theorem spec_paDrive_l0 (places : Int) (hp : places ≤ 1000) : ∀ (t p out : List Int), (∀ c ∈ t, 0 ≤ c ∧ c ≤ places) → p.length + t.length ≤ 500 → out.length + t.length ≤ 500 →
    Ev (fun k => spec_paDrive.l0 k places out (p ++ t) ((p ++ t).length : Int) (p.length : Int)) (driveS places out t)
  | [], p, out, _, _, _ => by
    refine Ev.ret fun k => ?_
    rw [spec_paDrive.l0, if_neg (by simp)]
    rfl
  | c :: t, p, out, hc, hn, ho => by
    have hn' : p.length + t.length + 1 ≤ 500 := by simpa [Nat.add_assoc] using hn
    have ho' : out.length + t.length + 1 ≤ 500 := by simpa [Nat.add_assoc] using ho
    have hm := len_mid p c t
    have h0 := hc c (by simp)
    have ih := spec_paDrive_l0 places hp t (p ++ [c]) (out ++ [seek out (places - c).toNat c]) (fun x hx => hc x (by simp [hx])) (by simp; omega) (by simp; omega)
    rw [app_snoc, len_snoc] at ih
    refine Ev.step (fun k => ?_) (spec_paDrive_l1 places (p ++ c :: t) ((p ++ c :: t).length : Int) (p.length : Int) out (by omega) _ (places - c).toNat c (by omega) (by omega) hp ?_)
    · show spec_paDrive.l0 (k + 1) places out (p ++ c :: t) ((p ++ c :: t).length : Int) (p.length : Int) = _
      rw [spec_paDrive.l0, if_pos (by omega), if_pos (by omega), if_pos (by omega), rd_mid]
    · rw [w64 (by omega) (by omega)]
      exact ih
theorem ev_spec_paDrive (l : List Int) (places : Int) (hp : places ≤ 1000) (hl : l.length ≤ 500) (hc : ∀ c ∈ l, 0 ≤ c ∧ c ≤ places) : Ev (fun k => spec_paDrive.f k l places) (driveS places [] l) :=
  spec_paDrive_l0 places hp l [] [] hc (by simpa using hl) (by simpa using hl)

theorem ev_spec_l1In (a b c : Int) : spec_l1In.f a b c = some (decide (b ≤ a) && decide (a ≤ c)) := by
  unfold spec_l1In.f
  by_cases h : a ≥ b
  · rw [if_pos h]; simp [show b ≤ a from h]
  · rw [if_neg h]; simp [show ¬ b ≤ a from h]

theorem spec_l1All_l0 (lo hi : Int) : ∀ (t p : List Int), p.length + t.length ≤ 35184372088832 →
    Ev (fun k => spec_l1All.l0 k lo hi (p ++ t) ((p ++ t).length : Int) (p.length : Int)) (inAll lo hi t)
  | [], p, _ => by
    refine Ev.ret fun k => ?_
    rw [spec_l1All.l0, if_neg (by simp)]
    rfl
  | h :: t, p, hn => by
    have hn' : p.length + t.length + 1 ≤ 35184372088832 := by simpa [Nat.add_assoc] using hn
    have hm := len_mid p h t
    rw [inAll_cons]
    cases c : decide (lo ≤ h) && decide (h ≤ hi) with
    | true =>
      have ih := spec_l1All_l0 lo hi t (p ++ [h]) (by simp; omega)
      rw [app_snoc, len_snoc] at ih
      rw [Bool.true_and]
      refine Ev.step (fun k => ?_) ih
      show spec_l1All.l0 (k + 1) lo hi (p ++ h :: t) ((p ++ h :: t).length : Int) (p.length : Int) = _
      rw [spec_l1All.l0, if_pos (by omega), if_pos (by omega), if_pos (by omega), rd_mid, ev_spec_l1In, c, Option.bind_some, if_pos rfl, w64 (by omega) (by omega)]
    | false =>
      rw [Bool.false_and]
      refine Ev.ret fun k => ?_
      rw [spec_l1All.l0, if_pos (by omega), if_pos (by omega), if_pos (by omega), rd_mid, ev_spec_l1In, c]
      rfl
theorem ev_spec_l1All (l : List Int) (lo hi : Int) (hl : l.length ≤ 35184372088832) : Ev (fun k => spec_l1All.f k l lo hi) (inAll lo hi l) :=
  spec_l1All_l0 lo hi l [] (by simpa using hl)

theorem ev_spec_paParking (l : List Int) (hl : l.length ≤ 35184372088832) : Ev (fun k => spec_paParking.f k l) (pf l) := by
  by_cases c8 : l.length ≤ 8
  · refine Ev.congr (fun k => by rw [spec_paParking.f, if_pos (by omega), w64 (by omega) (by omega)]) ?_
    refine Ev.bind (ev_spec_l1All l 0 ((l.length : Int) - 1) hl) ?_
    cases c : inAll 0 ((l.length : Int) - 1) l with
    | false =>
      have e : pf l = false := by simp [pf, c]
      rw [e]
      exact Ev.congr (fun k => by rw [if_neg (by simp)]) (Ev.now false)
    | true =>
      have hp := (inAll_iff _ _ _).1 c
      have e : pf l = !(decide ((-1 : Int) ∈ driveS l.length [] l)) := by simp [pf, c, c8]
      rw [e]
      refine Ev.congr (fun k => by rw [if_pos rfl]) ?_
      refine Ev.bind (a := !(decide ((-1 : Int) ∈ driveS l.length [] l))) ?_ (Ev.now _)
      refine Ev.congr (fun k => rfl) (Ev.bind (ev_spec_paDrive l l.length (by omega) (by omega) (fun x hx => by have := hp x hx; omega)) ?_)
      exact Ev.bind (ev_spec_l1Has _ (-1) (by rw [driveS_length]; simp; omega)) (Ev.now _)
  · have e : pf l = false := by simp [pf, c8]
    rw [e]
    exact Ev.congr (fun k => by rw [spec_paParking.f, if_neg (by omega)]) (Ev.now false)

/-- What a drive hands back. -/
def orNone (l : List Int) : List Int × Bool := if (-1 : Int) ∈ l then ([], false) else (l, true)
theorem orNone_length (l : List Int) : (orNone l).1.length ≤ l.length := by
  unfold orNone
  split
  · simp
  · exact Nat.le_refl _

/-- What stands behind a car: it has failed, or it stands. -/
def DriveGoes (places : Int) (out : List Int) (w : Int) (cars : List Int) (n i : Int) (r : List Int × Bool) : Prop :=
  (w = -1 → r = ([], false)) ∧ (w ≠ -1 → ∀ taken', Tk places (out ++ [w]) taken' → Ev (fun k => impl_drive.l0 k places taken' (out ++ [w]) cars n (wrap64 (i + 1))) r)
theorem impl_drive_l1 (places : Int) (taken : List Bool) (out : List Int) (ht : Tk places out taken) (cars : List Int) (n i : Int) (ho : out.length ≤ 1000) (hp : places ≤ 1000) (r : List Int × Bool) : ∀ (d : Nat) (x : Int), (places - x).toNat = d → 0 ≤ x →
    DriveGoes places out (seek out d x) cars n i r → Ev (fun k => impl_drive.l1 k places taken out x cars n i) r
  | 0, x, hx, h0, h => by
    obtain rfl := h.1 rfl
    refine Ev.ret fun k => ?_
    rw [impl_drive.l1, if_neg (by omega), if_pos (by omega)]
  | d + 1, x, hx, h0, h => by
    have ha := ht.at x h0 (by omega)
    have hl := ht.1
    by_cases c : x ∈ out
    · rw [seek, if_pos c] at h
      refine Ev.step (fun k => ?_) (impl_drive_l1 places taken out ht cars n i ho hp r d (x + 1) (by omega) (by omega) h)
      show impl_drive.l1 (k + 1) places taken out x cars n i = _
      rw [impl_drive.l1, if_pos (by omega), if_pos (by omega), if_pos (by omega), ha, decide_eq_true c, if_pos rfl, w64 (by omega) (by omega)]
    · rw [seek, if_neg c] at h
      refine Ev.step (fun k => ?_) (h.2 (by omega) _ (ht.take x h0 (by omega)))
      show impl_drive.l1 (k + 1) places taken out x cars n i = _
      rw [impl_drive.l1, if_pos (by omega), if_pos (by omega), if_pos (by omega), ha, decide_eq_false c, if_neg (by simp), if_neg (by omega), if_pos (by omega)]
theorem impl_drive_l0 (places : Int) (hp : places ≤ 1000) : ∀ (t p out : List Int) (taken : List Bool), Tk places out taken → (-1 : Int) ∉ out → (∀ c ∈ t, 0 ≤ c) → p.length + t.length ≤ 500 → out.length + t.length ≤ 500 →
    Ev (fun k => impl_drive.l0 k places taken out (p ++ t) ((p ++ t).length : Int) (p.length : Int)) (orNone (driveS places out t))
  | [], p, out, taken, _, hnot, _, _, _ => by
    refine Ev.ret fun k => ?_
    rw [impl_drive.l0, if_neg (by simp)]
    show some (out, true) = some (orNone out)
    rw [orNone, if_neg hnot]
  | c :: t, p, out, taken, ht, hnot, hc, hn, ho => by
    have hn' : p.length + t.length + 1 ≤ 500 := by simpa [Nat.add_assoc] using hn
    have ho' : out.length + t.length + 1 ≤ 500 := by simpa [Nat.add_assoc] using ho
    have hm := len_mid p c t
    have h0 := hc c (by simp)
    refine Ev.step (fun k => ?_) (impl_drive_l1 places taken out ht (p ++ c :: t) ((p ++ c :: t).length : Int) (p.length : Int) (by omega) hp (orNone (driveS places out (c :: t))) (places - c).toNat c rfl h0 ⟨fun e => ?_, fun e taken' ht' => ?_⟩)
    · show impl_drive.l0 (k + 1) places taken out (p ++ c :: t) ((p ++ c :: t).length : Int) (p.length : Int) = _
      rw [impl_drive.l0, if_pos (by omega), if_pos (by omega), if_pos (by omega), rd_mid]
    · obtain ⟨s, _, hs⟩ := driveS_prefix places t (out ++ [-1])
      simp only [driveS, e, hs]
      unfold orNone
      rw [if_pos (by simp)]
    · have ih := impl_drive_l0 places hp t (p ++ [c]) (out ++ [seek out (places - c).toNat c]) taken' ht' (by simp [hnot]; exact fun h => e h.symm) (fun x hx => hc x (by simp [hx])) (by simp; omega) (by simp; omega)
      rw [app_snoc, len_snoc] at ih
      rw [w64 (by omega) (by omega)]
      exact ih
theorem ev_impl_drive (l : List Int) (places : Int) (hp0 : 0 ≤ places) (hp : places ≤ 1000) (hl : l.length ≤ 500) (hc : ∀ c ∈ l, 0 ≤ c) : Ev (fun k => impl_drive.f k l places) (orNone (driveS places [] l)) := by
  refine Ev.congr (fun k => by rw [impl_drive.f, if_pos hp0, if_pos (by omega)]) ?_
  exact impl_drive_l0 places hp l [] [] _ (Tk.none places hp0) (by simp) hc (by simpa using hl) (by simpa using hl)

theorem slices_IndexFunc_l0 (q : Int → Bool) : ∀ (t p : List Int), p.length + t.length ≤ 35184372088832 →
    ∃ r : Int, decide (r ≥ 0) = t.any q ∧ Ev (fun k => slices_IndexFunc_int_int.l0 q k (p ++ t) ((p ++ t).length : Int) (p.length : Int)) r
  | [], p, _ => by
    refine ⟨-1, by simp, Ev.ret fun k => ?_⟩
    rw [slices_IndexFunc_int_int.l0, if_neg (by simp)]
  | h :: t, p, hn => by
    have hn' : p.length + t.length + 1 ≤ 35184372088832 := by simpa [Nat.add_assoc] using hn
    have hm := len_mid p h t
    cases c : q h with
    | true =>
      refine ⟨p.length, by simp [c], Ev.ret fun k => ?_⟩
      rw [slices_IndexFunc_int_int.l0, if_pos (by omega), if_pos (by omega), if_pos (by omega), rd_mid, c, Option.bind_some, if_pos rfl]
    | false =>
      obtain ⟨r, hr, ih⟩ := slices_IndexFunc_l0 q t (p ++ [h]) (by simp; omega)
      rw [app_snoc, len_snoc] at ih
      refine ⟨r, by simpa [c] using hr, Ev.step (fun k => ?_) ih⟩
      show slices_IndexFunc_int_int.l0 q (k + 1) (p ++ h :: t) ((p ++ h :: t).length : Int) (p.length : Int) = _
      rw [slices_IndexFunc_int_int.l0, if_pos (by omega), if_pos (by omega), if_pos (by omega), rd_mid, c, Option.bind_some, if_neg (by simp), w64 (by omega) (by omega)]
theorem ev_containsFunc (q : Int → Bool) (l : List Int) (hl : l.length ≤ 35184372088832) : Ev (fun k => slices_ContainsFunc_int_int.f q k l) (l.any q) := by
  obtain ⟨r, hr, h⟩ := slices_IndexFunc_l0 q l [] (by simpa using hl)
  rw [← hr]
  exact Ev.congr (fun k => rfl) (Ev.bind h (Ev.now _))

theorem ev_impl_between (a b c : Int) : impl_between.f a b c = some (decide (b ≤ a) && decide (a ≤ c)) := by
  unfold impl_between.f
  by_cases h : a ≥ b
  · rw [if_pos h]; simp [show b ≤ a from h]
  · rw [if_neg h]; simp [show ¬ b ≤ a from h]

theorem ev_impl_areBetween (l : List Int) (lo hi : Int) (hl : l.length ≤ 35184372088832) : Ev (fun k => impl_areBetween.f k l lo hi) (inAll lo hi l) := by
  have e : (!(l.any (impl_areBetween_1.p lo hi))) = inAll lo hi l := by
    have hp : ∀ n, impl_areBetween_1.p lo hi n = !(decide (lo ≤ n) && decide (n ≤ hi)) := fun n => by
      simp [impl_areBetween_1.p, ev_impl_between]
    unfold inAll
    induction l with
    | nil => rfl
    | cons x t ih =>
      rw [List.any_cons, List.all_cons, Bool.not_or, ih (by simp at hl; omega), hp, Bool.not_not]
  rw [← e]
  exact Ev.congr (fun k => rfl) (Ev.bind (ev_containsFunc (impl_areBetween_1.p lo hi) l hl) (Ev.now _))

theorem ev_impl_areCars (l : List Int) (hl : l.length ≤ 35184372088832) : Ev (fun k => impl_areCars.f k l) (decide (l.length ≤ 8) && inAll 0 99 l) := by
  by_cases c8 : l.length ≤ 8
  · rw [decide_eq_true c8, Bool.true_and]
    refine Ev.congr (fun k => by rw [impl_areCars.f, if_pos (by omega)]) ?_
    exact Ev.bind (ev_impl_areBetween l 0 99 hl) (Ev.now _)
  · rw [decide_eq_false c8, Bool.false_and]
    exact Ev.congr (fun k => by rw [impl_areCars.f, if_neg (by omega)]) (Ev.now false)
theorem ev_impl_isParking (l : List Int) (hl : l.length ≤ 35184372088832) : Ev (fun k => impl_isParking.f k l) (pf l) := by
  refine Ev.congr (fun k => rfl) (Ev.bind (ev_impl_areCars l hl) ?_)
  cases c : decide (l.length ≤ 8) && inAll 0 99 l with
  | false =>
    have e : pf l = false := by
      cases d : pf l with
      | false => rfl
      | true =>
        obtain ⟨h1, h2, _⟩ := (pf_iff l).1 d
        rw [decide_eq_true h1, Bool.true_and] at c
        have : inAll 0 99 l = true := (inAll_iff _ _ _).2 fun x hx => by have := h2 x hx; omega
        rw [this] at c; cases c
    rw [e]
    exact Ev.congr (fun k => by rw [if_neg (by simp)]) (Ev.now false)
  | true =>
    have cc : l.length ≤ 8 ∧ inAll 0 99 l = true := by simpa only [Bool.and_eq_true, decide_eq_true_eq] using c
    have hx := (inAll_iff _ _ _).1 cc.2
    refine Ev.congr (fun k => by rw [if_pos rfl]) ?_
    refine Ev.bind (ev_impl_drive l l.length (by omega) (by omega) (by omega) (fun x h => (hx x h).1)) ?_
    have e : (orNone (driveS l.length [] l)).2 = pf l := by
      unfold orNone
      by_cases d : (-1 : Int) ∈ driveS l.length [] l
      · rw [if_pos d]
        symm
        simp [pf, d]
      · rw [if_neg d]
        symm
        rw [pf_iff]
        refine ⟨cc.1, fun x h => ⟨(hx x h).1, ?_⟩, d⟩
        have : ¬ (l.length : Int) ≤ x := fun h1 => d (driveS_over _ _ _ ⟨x, h, h1⟩)
        omega
    rw [← e]
    exact Ev.now _

/-- How many numbers are so. -/
def cnt (q : Int → Bool) : List Int → Int
  | [] => 0
  | h :: t => (if q h = true then 1 else 0) + cnt q t
theorem cnt_range (q : Int → Bool) : ∀ l : List Int, 0 ≤ cnt q l ∧ cnt q l ≤ l.length
  | [] => by simp [cnt]
  | h :: t => by
    have := cnt_range q t
    have e : ((h :: t).length : Int) = (t.length : Int) + 1 := by simp
    simp only [cnt]
    rw [e]
    split <;> omega
theorem cnt_append (q : Int → Bool) : ∀ a b : List Int, cnt q (a ++ b) = cnt q a + cnt q b
  | [], b => by simp [cnt]
  | h :: t, b => by simp only [List.cons_append, cnt, cnt_append q t b]; omega

/-- The places of the numbers that are so. -/
def places (q : Int → Bool) : List Int → Int → List Int
  | [], _ => []
  | h :: t, i => if q h = true then i :: places q t (i + 1) else places q t (i + 1)
theorem places_length (q : Int → Bool) : ∀ (l : List Int) (i : Int), ((places q l i).length : Int) = cnt q l
  | [], i => by simp [places, cnt]
  | h :: t, i => by
    rw [places, cnt]
    have := places_length q t (i + 1)
    split
    · simp; omega
    · omega
theorem places_mem (q : Int → Bool) (x : Int) : ∀ (l : List Int) (i : Int), x ∈ places q l i ↔ ∃ j : Nat, ∃ v, l[j]? = some v ∧ q v = true ∧ x = i + j
  | [], i => by simp [places]
  | h :: t, i => by
    rw [places]
    have ih := places_mem q x t (i + 1)
    constructor
    · intro hx
      have : x = i ∧ q h = true ∨ x ∈ places q t (i + 1) := by
        split at hx
        · rename_i c
          rcases List.mem_cons.1 hx with h1 | h1
          · exact .inl ⟨h1, c⟩
          · exact .inr h1
        · exact .inr hx
      rcases this with ⟨h1, h2⟩ | h1
      · exact ⟨0, h, by simp, h2, by omega⟩
      · obtain ⟨j, v, h2, h3, h4⟩ := ih.1 h1
        exact ⟨j + 1, v, by simpa using h2, h3, by omega⟩
    · rintro ⟨j, v, h2, h3, h4⟩
      cases j with
      | zero =>
        have e : h = v := by simpa using h2
        rw [e, if_pos h3]
        exact List.mem_cons.2 (.inl (by omega))
      | succ j =>
        have h1 : x ∈ places q t (i + 1) := ih.2 ⟨j, v, by simpa using h2, h3, by omega⟩
        split
        · exact List.mem_cons_of_mem _ h1
        · exact h1
theorem places_rising (q : Int → Bool) : ∀ (l : List Int) (i : Int), (places q l i).Pairwise (· < ·)
  | [], i => by simp [places]
  | h :: t, i => by
    rw [places]
    split
    · rw [List.pairwise_cons]
      refine ⟨fun x hx => ?_, places_rising q t (i + 1)⟩
      obtain ⟨j, v, _, _, e⟩ := (places_mem q x t (i + 1)).1 hx
      omega
    · exact places_rising q t (i + 1)

theorem impl_indices_l0 (q : Int → Bool) : ∀ (t p out : List Int), p.length + t.length ≤ 1000000 → out.length ≤ p.length →
    Ev (fun k => impl_indices.l0 q k out (p ++ t) ((p ++ t).length : Int) (p.length : Int)) (out ++ places q t p.length)
  | [], p, out, _, _ => by
    refine Ev.ret fun k => ?_
    rw [impl_indices.l0, if_neg (by simp)]
    simp [places]
  | h :: t, p, out, hn, ho => by
    have hn' : p.length + t.length + 1 ≤ 1000000 := by simpa [Nat.add_assoc] using hn
    have hm := len_mid p h t
    cases c : q h with
    | true =>
      have ih := impl_indices_l0 q t (p ++ [h]) (out ++ [(p.length : Int)]) (by simp; omega) (by simp; omega)
      rw [app_snoc, len_snoc] at ih
      have e : out ++ places q (h :: t) p.length = out ++ [(p.length : Int)] ++ places q t (p.length + 1) := by rw [places, if_pos c]; simp
      rw [e]
      refine Ev.step (fun k => ?_) ih
      show impl_indices.l0 q (k + 1) out (p ++ h :: t) ((p ++ h :: t).length : Int) (p.length : Int) = _
      rw [impl_indices.l0, if_pos (by omega), if_pos (by omega), if_pos (by omega), rd_mid, c, Option.bind_some, if_pos rfl, if_pos (by omega), w64 (by omega) (by omega)]
    | false =>
      have ih := impl_indices_l0 q t (p ++ [h]) out (by simp; omega) (by simp; omega)
      rw [app_snoc, len_snoc] at ih
      have e : out ++ places q (h :: t) p.length = out ++ places q t (p.length + 1) := by rw [places, if_neg (by simp [c])]
      rw [e]
      refine Ev.step (fun k => ?_) ih
      show impl_indices.l0 q (k + 1) out (p ++ h :: t) ((p ++ h :: t).length : Int) (p.length : Int) = _
      rw [impl_indices.l0, if_pos (by omega), if_pos (by omega), if_pos (by omega), rd_mid, c, Option.bind_some, if_neg (by simp), w64 (by omega) (by omega)]
theorem ev_impl_indices (q : Int → Bool) (l : List Int) (hl : l.length ≤ 1000000) : Ev (fun k => impl_indices.f q k l) (places q l 0) := by
  have := impl_indices_l0 q l [] [] (by simpa using hl) (by simp)
  exact this

/-- A walk with more labels at one favourite. -/
def wadd (f : Int) : List Int → List Int → List Int → List Int × List Int
  | [], H, L => (H, L)
  | c :: t, H, L => wadd f t (H ++ [(L.length : Int) - f]) (L ++ [c])
theorem wadd_length (f : Int) : ∀ (t H L : List Int), (wadd f t H L).1.length = H.length + t.length ∧ (wadd f t H L).2.length = L.length + t.length
  | [], H, L => by simp [wadd]
  | c :: t, H, L => by
    have ih := wadd_length f t (H ++ [(L.length : Int) - f]) (L ++ [c])
    simp only [wadd, List.length_append, List.length_cons, List.length_nil] at ih ⊢
    omega
/-- The cars with one favourite. -/
def cars (l : List Int) (k : Int) : List Int := places (fun x => decide (x = k)) l 0
theorem cars_length (l : List Int) (k : Int) : (cars l k).length ≤ l.length := by
  have a := places_length (fun x => decide (x = k)) l 0
  have b := (cnt_range (fun x => decide (x = k)) l).2
  unfold cars
  omega
/-- The walk from one favourite on. -/
def walkS (l : List Int) : Nat → Nat → List Int → List Int → List Int × List Int
  | 0, _, H, L => (H, L)
  | d + 1, k, H, L => walkS l d (k + 1) (wadd k (cars l k) H L).1 (wadd k (cars l k) H L).2
theorem walkS_length (l : List Int) : ∀ (d k : Nat) (H L : List Int), (walkS l d k H L).1.length ≤ H.length + l.length * d ∧ (walkS l d k H L).2.length ≤ L.length + l.length * d
  | 0, k, H, L => by simp [walkS]
  | d + 1, k, H, L => by
    have ih := walkS_length l d (k + 1) (wadd k (cars l k) H L).1 (wadd k (cars l k) H L).2
    have h1 := wadd_length k (cars l k) H L
    have h2 := cars_length l k
    rw [Nat.mul_add, Nat.mul_one]
    rw [walkS]
    omega

theorem spec_waOf_l1 (l : List Int) (f : Nat) (hf : f ≤ 1000) (r : List Int × List Int) : ∀ (t p H L : List Int), p.length + t.length ≤ 100 → H.length ≤ 1000 + p.length → L.length ≤ 1000 + p.length →
    Ev (fun k => spec_waOf.l0 k l (l.length : Int) ((f : Int) + 1) (wadd f (places (fun x => decide (x = (f : Int))) t p.length) H L).1 (wadd f (places (fun x => decide (x = (f : Int))) t p.length) H L).2) r →
    Ev (fun k => spec_waOf.l1 k l (f : Int) (l.length : Int) (f : Int) (p ++ t) ((p ++ t).length : Int) (p.length : Int) H L) r
  | [], p, H, L, hn, h1, h2, h => by
    refine Ev.step (fun k => ?_) h
    show spec_waOf.l1 (k + 1) l (f : Int) (l.length : Int) (f : Int) (p ++ []) ((p ++ []).length : Int) (p.length : Int) H L = _
    rw [spec_waOf.l1, if_neg (by simp), w64 (by omega) (by omega)]
    rfl
  | x :: t, p, H, L, hn, h1, h2, h => by
    have hn' : p.length + t.length + 1 ≤ 100 := by simpa [Nat.add_assoc] using hn
    have hm := len_mid p x t
    by_cases c : x = (f : Int)
    · rw [places, if_pos (by simpa using c), wadd] at h
      have ih := spec_waOf_l1 l f hf r t (p ++ [x]) (H ++ [(L.length : Int) - f]) (L ++ [(p.length : Int)]) (by simp; omega) (by simp; omega) (by simp; omega)
      rw [app_snoc p x t, len_snoc p x] at ih
      refine Ev.step (fun k => ?_) (ih h)
      show spec_waOf.l1 (k + 1) l (f : Int) (l.length : Int) (f : Int) (p ++ x :: t) ((p ++ x :: t).length : Int) (p.length : Int) H L = _
      rw [spec_waOf.l1, if_pos (by omega), if_pos (by omega), if_pos (by omega), rd_mid, if_pos c.symm, if_pos (by omega), if_pos (by omega), w64 (by omega) (by omega), w64 (by omega) (by omega)]
    · rw [places, if_neg (by simpa using c)] at h
      have ih := spec_waOf_l1 l f hf r t (p ++ [x]) H L (by simp; omega) (by simp; omega) (by simp; omega)
      rw [app_snoc p x t, len_snoc p x] at ih
      refine Ev.step (fun k => ?_) (ih h)
      show spec_waOf.l1 (k + 1) l (f : Int) (l.length : Int) (f : Int) (p ++ x :: t) ((p ++ x :: t).length : Int) (p.length : Int) H L = _
      rw [spec_waOf.l1, if_pos (by omega), if_pos (by omega), if_pos (by omega), rd_mid, if_neg (fun e => c e.symm), w64 (by omega) (by omega)]
theorem spec_waOf_l0 (l : List Int) (hl : l.length ≤ 8) : ∀ (d k : Nat) (H L : List Int), k + d = l.length → H.length ≤ 10 * k → L.length ≤ 10 * k →
    Ev (fun kk => spec_waOf.l0 kk l (l.length : Int) (k : Int) H L) (walkS l d k H L)
  | 0, k, H, L, hk, h1, h2 => by
    refine Ev.ret fun kk => ?_
    rw [spec_waOf.l0, if_neg (by omega)]
    rfl
  | d + 1, k, H, L, hk, h1, h2 => by
    have h3 := wadd_length k (cars l k) H L
    have h4 := cars_length l k
    have ih := spec_waOf_l0 l hl d (k + 1) (wadd k (cars l k) H L).1 (wadd k (cars l k) H L).2 (by omega) (by omega) (by omega)
    rw [show ((k + 1 : Nat) : Int) = (k : Int) + 1 by omega] at ih
    refine Ev.step (f := fun kk => spec_waOf.l1 kk l (k : Int) (l.length : Int) (k : Int) l (l.length : Int) 0 H L) (fun kk => ?_) ?_
    · rw [spec_waOf.l0, if_pos (by omega)]
    · exact spec_waOf_l1 l k (by omega) _ l [] H L (by simp; omega) (by simp; omega) (by simp; omega) ih
theorem ev_spec_waOf (l : List Int) (hl : l.length ≤ 8) : Ev (fun k => spec_waOf.f k l) (walkS l l.length 0 [] []) :=
  spec_waOf_l0 l hl l.length 0 [] [] (by omega) (by simp) (by simp)

theorem impl_walkOf_l1 (l : List Int) (f : Nat) (hf : f ≤ 1000) (r : List Int × List Int) : ∀ (t p H L : List Int), p.length + t.length ≤ 100 → H.length ≤ 1000 + p.length → H.length = L.length →
    Ev (fun k => impl_walkOf.l0 k l (l.length : Int) ((f : Int) + 1) (wadd f t H L).1 (wadd f t H L).2) r →
    Ev (fun k => impl_walkOf.l1 k l (l.length : Int) (f : Int) (p ++ t) ((p ++ t).length : Int) (p.length : Int) H L (f : Int)) r
  | [], p, H, L, hn, h1, h2, h => by
    refine Ev.step (fun k => ?_) h
    show impl_walkOf.l1 (k + 1) l (l.length : Int) (f : Int) (p ++ []) ((p ++ []).length : Int) (p.length : Int) H L (f : Int) = _
    rw [impl_walkOf.l1, if_neg (by simp), w64 (by omega) (by omega)]
    rfl
  | x :: t, p, H, L, hn, h1, h2, h => by
    have hn' : p.length + t.length + 1 ≤ 100 := by simpa [Nat.add_assoc] using hn
    have hm := len_mid p x t
    rw [wadd] at h
    have ih := impl_walkOf_l1 l f hf r t (p ++ [x]) (H ++ [(L.length : Int) - f]) (L ++ [x]) (by simp; omega) (by simp; omega) (by simp; omega)
    rw [app_snoc p x t, len_snoc p x] at ih
    refine Ev.step (fun k => ?_) (ih h)
    show impl_walkOf.l1 (k + 1) l (l.length : Int) (f : Int) (p ++ x :: t) ((p ++ x :: t).length : Int) (p.length : Int) H L (f : Int) = _
    rw [impl_walkOf.l1, if_pos (by omega), if_pos (by omega), if_pos (by omega), rd_mid, if_pos (by omega), if_pos (by omega), w64 (by omega) (by omega), w64 (by omega) (by omega), h2]
theorem impl_walkOf_l0 (l : List Int) (hl : l.length ≤ 8) : ∀ (d k : Nat) (H L : List Int), k + d = l.length → H.length ≤ 10 * k → H.length = L.length →
    Ev (fun kk => impl_walkOf.l0 kk l (l.length : Int) (k : Int) H L) (walkS l d k H L)
  | 0, k, H, L, hk, h1, h2 => by
    refine Ev.ret fun kk => ?_
    rw [impl_walkOf.l0, if_neg (by omega)]
    rfl
  | d + 1, k, H, L, hk, h1, h2 => by
    have h3 := wadd_length k (cars l k) H L
    have h4 := cars_length l k
    have ih := impl_walkOf_l0 l hl d (k + 1) (wadd k (cars l k) H L).1 (wadd k (cars l k) H L).2 (by omega) (by omega) (by omega)
    rw [show ((k + 1 : Nat) : Int) = (k : Int) + 1 by omega] at ih
    have hidx : Ev (fun kk => impl_walkOf_1.f kk l (k : Int)) (cars l k) := ev_impl_indices (impl_walkOf_1.p (k : Int)) l (by omega)
    refine Ev.step (f := fun kk => (impl_walkOf_1.f kk l (k : Int)).bind fun t => impl_walkOf.l1 kk l (l.length : Int) (k : Int) t (t.length : Int) 0 H L (k : Int)) (fun kk => ?_) (Ev.bind hidx ?_)
    · rw [impl_walkOf.l0, if_pos (by omega)]
    · exact impl_walkOf_l1 l k (by omega) _ (cars l k) [] H L (by simp; omega) (by simp; omega) h2 ih
theorem ev_impl_walkOf (l : List Int) (hl : l.length ≤ 8) : Ev (fun k => impl_walkOf.f k l) (walkS l l.length 0 [] []) :=
  impl_walkOf_l0 l hl l.length 0 [] [] (by omega) (by simp) rfl

theorem walkOfParking_both (l : List Int) (hl : l.length ≤ 35184372088832) : ∃ r : List Int × List Int × Bool, r.1.length ≤ 35184372088832 ∧ r.2.1.length ≤ 35184372088832 ∧ Ev (fun k => spec_WalkOfParking.f k l) r ∧ Ev (fun k => impl_WalkOfParking.f k l) r := by
  cases c : pf l with
  | false =>
    refine ⟨([], [], false), by simp, by simp, ?_, ?_⟩
    · refine Ev.congr (fun k => rfl) (Ev.bind (ev_spec_paParking l hl) ?_)
      rw [c]; exact Ev.now _
    · refine Ev.congr (fun k => rfl) (Ev.bind (ev_impl_isParking l hl) ?_)
      rw [c]; exact Ev.now _
  | true =>
    obtain ⟨h8, h2, _⟩ := (pf_iff l).1 c
    have hw := walkS_length l l.length 0 [] []
    have hq : l.length * l.length ≤ 8 * 8 := Nat.mul_le_mul h8 h8
    simp only [List.length_nil] at hw
    refine ⟨((walkS l l.length 0 [] []).1, (walkS l l.length 0 [] []).2, true), by show (walkS l l.length 0 [] []).1.length ≤ _; omega, by show (walkS l l.length 0 [] []).2.length ≤ _; omega, ?_, ?_⟩
    · refine Ev.congr (fun k => rfl) (Ev.bind (ev_spec_paParking l hl) ?_)
      rw [c]
      refine Ev.congr (fun k => by rw [if_pos rfl]) ?_
      exact Ev.bind (ev_spec_waOf l h8) (Ev.now _)
    · refine Ev.congr (fun k => rfl) (Ev.bind (ev_impl_isParking l hl) ?_)
      rw [c]
      refine Ev.congr (fun k => by rw [if_pos rfl]) ?_
      exact Ev.bind (ev_impl_walkOf l h8) (Ev.now _)

theorem FnExactWalkOfParking : laws_FnExactWalkOfParking.Pure := by
  intro l0 _ _ _
  by_cases c0 : (l0.length : Int) > 1048576
  · refine ⟨0, ?_⟩
    rw [laws_FnExactWalkOfParking.f, if_pos c0]
  have hl0 : l0.length ≤ 35184372088832 := by omega
  obtain ⟨r, hr1, hr2, hs, hi⟩ := walkOfParking_both l0 hl0
  refine Ev.rounds ?_
  refine Ev.congr (fun k => by rw [laws_FnExactWalkOfParking.f, if_neg c0]) ?_
  refine Ev.bind (ev_toIntS l0 hl0) ?_
  refine Ev.bind (hs) ?_
  refine Ev.bind (ev_toIntS l0 hl0) ?_
  refine Ev.bind (hi) ?_
  refine Ev.bind (ev_eqWalk r.1 r.2.1 hr1 hr2) ?_
  refine Ev.congr (fun k => by rw [if_pos rfl, bne_self_eq_false]) ?_
  refine Ev.step (fun k => by rw [laws_FnExactWalkOfParking.j0, if_neg (by simp)]) ?_
  refine Ev.bind (ev_toIntS l0 hl0) ?_
  refine Ev.bind (ev_eqIntS l0 hl0) ?_
  refine Ev.congr (fun k => by rw [if_pos rfl]) ?_
  refine Ev.bind (ev_markIntS l0 (1) (by omega) (by omega) hl0) ?_
  refine Ev.congr (fun k => by rw [if_neg (by omega)]) ?_
  refine Ev.bind (ev_eqWalk r.1 r.2.1 hr1 hr2) ?_
  refine Ev.congr (fun k => by rw [if_pos rfl, bne_self_eq_false]) ?_
  refine Ev.step (fun k => by rw [laws_FnExactWalkOfParking.j1, if_neg (by simp)]) ?_
  refine Ev.bind (ev_markWalk r.1 r.2.1 hr1 hr2) ?_
  refine Ev.bind (ev_heldWalk r.1 r.2.1 hr1 hr2) ?_
  refine Ev.congr (fun k => by rw [if_neg (by omega), if_pos rfl]) ?_
  refine Ev.bind (ev_toIntS l0 hl0) ?_
  refine Ev.bind (hi) ?_
  refine Ev.bind (ev_eqWalk r.1 r.2.1 hr1 hr2) ?_
  refine Ev.congr (fun k => by rw [if_pos rfl, bne_self_eq_false]) ?_
  refine Ev.step (fun k => by rw [laws_FnExactWalkOfParking.j2, if_neg (by simp)]) ?_
  refine Ev.bind (ev_heldWalk r.1 r.2.1 hr1 hr2) ?_
  refine Ev.congr (fun k => by rw [if_neg (by omega), if_pos rfl]) ?_
  exact Ev.now true

end Go.Proofs.Ytjcnemdiakmjcaa.Pure
