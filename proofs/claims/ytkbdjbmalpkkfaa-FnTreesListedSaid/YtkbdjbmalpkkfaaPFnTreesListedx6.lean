-- Written by a program of this session for this claim (its own turn of the print).
import Derived.Test.YtkbdjbmalpkkfaaPFnTreesListedx0
import Derived.Test.YtkbdjbmalpkkfaaPFnTreesListedx1
import Derived.Test.YtkbdjbmalpkkfaaPFnTreesListedx5
namespace Go.Proofs.Ytkbdjbmalpkkfaa.PFnTreesListed
open Go.RowKit Go.Proofs.YtkbdjbmalpkkfaaW.PrintWords Go.Proofs.YtkbdjbmalpkkfaaW.PrintLast Go.Proofs.YtkbdjbmalpkkfaaW.PrintMore
attribute [local go_sem] max2_int min2_int max_two min_two max_three min_three max_four min_four   -- for this text's walks alone
set_option linter.unusedVariables false
set_option linter.unusedSimpArgs false

/-! ### impl_allTrees: function 88, all lists by impl.all (116) and a closure (118) that collects (proved by hand) -/
section
/-- What the closure collects, and the variable that it lies in. -/
structure impl_allTrees.AT (w W : World) (B g0 c : Nat) (vo : Value) (rows : List (List Int)) : Prop where
  bel : Below w.heap.size w W
  box : W.heap[B]? = some (.cells #[vo] 28 (0, 0))
  out : Kd.S (Kd.slice 3 (Kd.int .i64)) 24 W w.heap.size (fun k => k = g0 ∨ c ≤ k) vo rows
  hB : w.heap.size ≤ B
  hBc : B < c
  hBg : B ≠ g0
  hgc : g0 < c
  cW : c ≤ W.heap.size
theorem impl_allTrees.AT.below {w W W' : World} {B g0 c : Nat} {vo : Value} {rows : List (List Int)} (h : impl_allTrees.AT w W B g0 c vo rows) (hb : Below W.heap.size W W') : impl_allTrees.AT w W' B g0 c vo rows :=
  ⟨h.bel.trans (hb.mono h.bel.size), blk_below h.box hb, Kd.S_below h.out hb, h.hB, h.hBc, h.hBg, h.hgc, Nat.le_trans h.cW hb.size⟩
set_option maxHeartbeats 8000000 in
set_option maxRecDepth 100000 in
theorem impl_allTrees.one (k : Nat) (A0 : Option Addr) (c0 : Nat) (l0 row : List Int) (w W : World) (B g0 c : Nat) (vo : Value) (rows : List (List Int)) (hT : impl_allTrees.AT w W B g0 c vo rows) (hr0 : Kd.C (Kd.int .i64) W A0 l0.length l0) (hc0 : l0.length ≤ c0) (hn : rows.length ≤ 100000) (h : impl_treeOfPrufer.f k l0 = some row) :
    Calls Try.prog 118 #[.slice A0 l0.length c0, .pointer (some ⟨B, 0, none⟩)] W fun e W' => e = .returned (.tuple #[]) ∧ (∃ vo', impl_allTrees.AT w W' B g0 c vo' (rows ++ [row])) ∧ Kept W W' (fun k => k = B ∨ k = g0 ∨ c ≤ k) := by
  obtain ⟨Ao, co, rfl⟩ := Kd.S_slice hT.out
  have HT := Aside0.mk (hT.below (below_drew (Below.refl _ W)))
  have HR := Aside0.mk (Kd.C_drew hr0)
  have HC := Aside0.mk hc0
  have HF := Aside0.mk h
  have HK := Aside0.mk (show Kept W W.drew (fun k => k = B ∨ k = g0 ∨ c ≤ k) from (Kept.refl W _).drew)
  clear hT hr0 hc0 h
  go_enter Try.func118, Try.ntmps118
  go_upto_region 0 with (fail)
  refine start_ (n := 6) (S := fun w' => w'.cell? ⟨B, 0, none⟩ = some (.slice Ao rows.length co)) (ds := [5]) #[false, false, false, false, false, false] (by kernel_rfl) rfl rfl ((blk_cell HT.out.box 0).trans rfl) (fun hHeld => ?_)
  generalize W.drew = w1 at HT HR HK hHeld ⊢
  refine take_ (i := 0) (N := some 3) (v := ?_) (a' := ?_) #[true, false, false, false, false, false] rfl rfl (by kernel_rfl) (fun _ _ _ h => h) (Or.inl ⟨by rfl, ?_⟩) hHeld ?_ ?_
  rotate_left
  · rintro w' s0
    go_simp
    with_reducible rfl
  rotate_left
  · simp only [Act.put, List.setIfInBounds_toArray, List.set_cons_zero, List.set_cons_succ, i64_w, i32_w]
    rfl
  refine pure_ (i := 1) (N := some 4) (v := ?_) (a' := ?_) #[true, true, false, false, false, false] rfl rfl (by kernel_rfl) (fun _ _ _ h => h) (Or.inl ⟨by rfl, ?_⟩) ?_ ?_
  rotate_left
  · intro w'
    go_simp
    with_reducible rfl
  rotate_left
  · simp only [Act.put, List.setIfInBounds_toArray, List.set_cons_zero, List.set_cons_succ, i64_w, i32_w]
    rfl
  refine one_ (i := 2) (N := some 5) #[true, true, true, false, false, false] rfl rfl (by kernel_rfl) (by decide) (fun K hK => ?_)
  refine goes_ Try.func119 (by kernel_rfl) rfl #[.slice A0 l0.length c0] (by rfl) rfl rfl (by (try simp only [List.map_toArray, List.map_cons, List.map_nil]); first | done | rfl) ?_
  refine (impl_treeOfPrufer.calls k A0 c0 l0 row _ HR.out HC.out HF.out).mono ?_
  rintro e w2 ⟨v5, rfl, hR, hb⟩
  refine ⟨_, rfl, ?_⟩
  obtain ⟨A5, c5, rfl⟩ := Kd.R_slice hR
  have HT2 := Aside0.mk (And.intro HT.out (And.intro hR hb))
  have HK2 := Aside0.mk (HK.out.below hb)
  refine hK.out _ _ ((blk_cell (HT.out.below hb).box 0).trans rfl) (fun hHeld => ?_)
  clear hK K HT HK hR hb HR
  refine norm_ (a' := ?_) ?_ ?_
  rotate_left
  · show Act.put _ (some 5) _ = _
    simp only [Act.put, List.setIfInBounds_toArray, List.set_cons_zero, List.set_cons_succ, i64_w, i32_w]
    rfl
  refine one_ (i := 3) (N := some 6) #[true, true, true, true, false, false] rfl rfl (by kernel_rfl) (by decide) (fun K hK => ?_)
  go_simp
  have hT2 := HT2.out.1.below HT2.out.2.2
  have hbx := hT2.box
  have hown : ∀ k_, (Value.slice Ao rows.length co).ownBlock = some k_ → k_ = g0 ∨ c ≤ k_ := (Kd.S_R hT2.out).1
  have hneB : some B ≠ (Value.slice Ao rows.length co).ownBlock := fun e_ => by
    have h1 := hown B e_.symm
    have h2 := hT2.hBg
    have h3 := hT2.hBc
    omega
  have HX := Aside0.mk (And.intro hT2 (And.intro hbx (And.intro hown hneB)))
  refine hK.out _ _ ((blk_cell (blk_alloc hbx _) 0).trans rfl) (fun hHeld => ?_)
  clear hK K hT2 hbx hown hneB
  refine one_ (i := 4) (N := some 7) #[true, true, true, true, true, false] rfl rfl (by kernel_rfl) (by decide) (fun K hK => ?_)
  refine Kd.S_append_step (Kd.slice 3 (Kd.int .i64)) (w0 := w) w.heap.size rfl (.tmp 3) (.tmp 6) 28 24 (.slice none 0 0) 24 rfl Try.underlying28 info24 rfl (by decide) (by omega) (.slice Ao rows.length co) rows row [.slice A5 row.length c5] (fun k_ => k_ = g0 ∨ c ≤ k_) (fun k_ => some k_ = (.slice A5 row.length c5 : Value).ownBlock) rfl rfl ?aP ?aK ?aF ?aO ?aB ?aS ?aL ?_
  case aP => exact Kd.M_row (Kd.R_tight rfl (Kd.R_lower HT2.out.2.1 HT2.out.1.bel.size))
  case aK => exact fun k_ hk => have h1 := Kd.R_base HT2.out.2.1 k_ hk.symm; ⟨.inr (Nat.le_trans HT2.out.1.cW h1), fun e_ => Nat.not_le.2 (Kd.S_lt HT2.out.1.out k_ e_.symm) h1⟩
  case aF => exact fun k_ hk => .inr (Nat.le_trans HX.out.1.cW hk)
  case aO => exact Kd.S_below (Kd.S_mono (Kd.S_bound HT2.out.1.out) (fun k_ hk => ⟨hk.1, fun e_ => Nat.not_le.2 hk.2.2.1 (Kd.R_base HT2.out.2.1 k_ e_.symm)⟩)) HT2.out.2.2
  case aB => exact HX.out.1.bel
  case aS => exact HX.out.1.bel.size
  case aL => omega
  intro v7 w3 ho hb3 hg hat
  obtain ⟨A7, c7, rfl⟩ := Kd.S_slice ho
  rw [show (rows ++ [row]).length = rows.length + 1 by simp] at ho
  have hbx3 : w3.heap[B]? = some (.cells #[.slice Ao rows.length co] 28 (0, 0)) := (hg.block B (blk_lt HX.out.2.1) HX.out.2.2.2).trans HX.out.2.1
  have HY := Aside0.mk (And.intro ho (And.intro hb3 (And.intro hg hbx3)))
  refine hK.out _ _ ((blk_cell hbx3 0).trans rfl) (fun hHeld => ?_)
  clear hK K ho hb3 hg hat
  have hbf := blk_frozen hbx3 0
  refine norm_ (a' := ?_) ?_ ?_
  rotate_left
  · show Act.put _ (some 7) _ = _
    simp only [Act.put, List.setIfInBounds_toArray, List.set_cons_zero, List.set_cons_succ, i64_w, i32_w]
    rfl
  refine last_ (i := 5) (N := none) #[true, true, true, true, true, true] rfl rfl (by kernel_rfl) (by decide) (fun K hK => ?_)
  go_simp
  refine hK.out _ _ ?_
  clear hK K
  refine done_ (by kernel_rfl) ?_
  go_end0
  have hX := HX.out.1
  obtain ⟨ho, hb3, hg, hbx3⟩ := HY.out
  refine ⟨rfl, ⟨.slice A7 (rows.length + 1) c7, below_set hb3 hX.hB, Boxed.set _ hbx3, Kd.S_far (p := ⟨B, 0, none⟩) ho (fun k_ hk => ?_) _, hX.hB, hX.hBc, hX.hBg, hX.hgc, ?_⟩, ?_⟩
  · have h2 := hX.hBg
    have h3 := hX.hBc
    show k_ ≠ B
    omega
  · have := hg.size
    have := hX.cW
    simp [World.setCell]
    omega
  · exact ((HK2.out.of_grown hg (fun k_ e_ => .inl (.inr (HX.out.2.2.1 k_ e_)))).setCell (p := ⟨B, 0, none⟩) (.inl (.inl rfl)) _)
end
section
/-- The next list behind one, from place i - 1 down. -/
def impl_allTrees.nxt (low high : List Int) : Nat → List Int → Option (List Int)
  | 0, _ => none
  | i + 1, l => if rd l (i : Int) = rd high (i : Int) then impl_allTrees.nxt low high i (l.set i (rd low (i : Int))) else some (l.set i (wrap64 (rd l (i : Int) + 1)))
/-- All that is collected from one list on. -/
def impl_allTrees.run (k : Nat) (low high : List Int) : Nat → List Int → Option (List (List Int))
  | 0, _ => none
  | t + 1, cur => (impl_treeOfPrufer.f k cur).bind fun row => match impl_allTrees.nxt low high cur.length cur with
    | none => some [row]
    | some c => (impl_allTrees.run k low high t c).bind fun rest => some (row :: rest)
theorem impl_allTrees.mono_run (k : Nat) (low high : List Int) : ∀ (t : Nat) (cur : List Int), LeO (impl_allTrees.run k low high t cur) (impl_allTrees.run (k + 1) low high t cur)
  | 0, _ => LeO.refl _
  | t + 1, cur => LeO.bind (impl_treeOfPrufer.mono cur k) (fun row => by
    cases impl_allTrees.nxt low high cur.length cur with
    | none => exact LeO.refl _
    | some c => exact LeO.bind (impl_allTrees.mono_run k low high t c) (fun _ => LeO.refl _))
theorem impl_allTrees.run_length (k : Nat) (low high : List Int) : ∀ (t : Nat) (cur : List Int) (r : List (List Int)), impl_allTrees.run k low high t cur = some r → r.length ≤ t
  | 0, _, _, h => by cases h
  | t + 1, cur, r, h => by
    obtain ⟨row, _, h2⟩ := Option.bind_eq_some_iff.mp h
    split at h2
    · obtain rfl := Option.some.inj h2
      simp
    · obtain ⟨rest, h3, h4⟩ := Option.bind_eq_some_iff.mp h2
      obtain rfl := Option.some.inj h4
      have := impl_allTrees.run_length k low high t _ rest h3
      simp
      omega
theorem impl_allTrees.nxt_length (low high : List Int) : ∀ (i : Nat) (l c : List Int), impl_allTrees.nxt low high i l = some c → c.length = l.length
  | 0, _, _, h => by cases h
  | i + 1, l, c, h => by
    rw [impl_allTrees.nxt] at h
    split at h
    · have := impl_allTrees.nxt_length low high i _ c h
      rw [this, List.length_set]
    · obtain rfl := Option.some.inj h
      rw [List.length_set]
structure impl_allTrees.AL (w W : World) (B g0 a b c : Nat) (vo : Value) (rows : List (List Int)) (vl : Value) (low : List Int) (vh : Value) (high : List Int) (vs : Value) (cur : List Int) : Prop where
  at_ : impl_allTrees.AT w W B g0 c vo rows
  lo : Kd.R (Kd.int .i64) 3 W w.heap.size (fun k => a ≤ k ∧ k < b) vl low
  hi : Kd.R (Kd.int .i64) 3 W w.heap.size (fun k => a ≤ k ∧ k < b) vh high
  ls : Kd.R (Kd.int .i64) 3 W w.heap.size (fun k => b ≤ k ∧ k < c) vs cur
  hBa : B < a
  hga : g0 < a
  hab : a ≤ b
  hbc : b ≤ c
theorem impl_allTrees.AL.kept {w W W' : World} {B g0 a b c : Nat} {vo vo' vl vh vs : Value} {rows rows' : List (List Int)} {low high cur : List Int} (h : impl_allTrees.AL w W B g0 a b c vo rows vl low vh high vs cur) (hT : impl_allTrees.AT w W' B g0 c vo' rows') (hk : Kept W W' (fun k => k = B ∨ k = g0 ∨ c ≤ k)) : impl_allTrees.AL w W' B g0 a b c vo' rows' vl low vh high vs cur := by
  have h1 := h.hBa
  have h2 := h.hga
  have h3 := h.hab
  have h4 := h.hbc
  exact ⟨hT, Kd.R_kept h.lo hk (fun k hk => by omega), Kd.R_kept h.hi hk (fun k hk => by omega), Kd.R_kept h.ls hk (fun k hk => by omega), h1, h2, h3, h4⟩
theorem impl_allTrees.AL.below {w W W' : World} {B g0 a b c : Nat} {vo vl vh vs : Value} {rows : List (List Int)} {low high cur : List Int} (h : impl_allTrees.AL w W B g0 a b c vo rows vl low vh high vs cur) (hb : Below W.heap.size W W') : impl_allTrees.AL w W' B g0 a b c vo rows vl low vh high vs cur :=
  ⟨h.at_.below hb, Kd.R_below h.lo hb, Kd.R_below h.hi hb, Kd.R_below h.ls hb, h.hBa, h.hga, h.hab, h.hbc⟩
/-- A number of the list in hand is set. -/
theorem impl_allTrees.AL.set {w W : World} {B g0 a b c g n cap : Nat} {vo vl vh : Value} {rows : List (List Int)} {low high cur : List Int} (h : impl_allTrees.AL w W B g0 a b c vo rows vl low vh high (.slice (some ⟨g, 0, none⟩) n cap) cur) (i : Nat) (x : Int) : impl_allTrees.AL w (W.setCell ⟨g, i, none⟩ (.int .i64 x)) B g0 a b c vo rows vl low vh high (.slice (some ⟨g, 0, none⟩) n cap) (cur.set i x) := by
  have h1 := h.hBa
  have h2 := h.hga
  have h3 := h.hab
  have h4 := h.hbc
  have hg : b ≤ g ∧ g < c := h.ls.1 g rfl
  have hp := Kd.R_putg h.ls (i : Int) x
  rw [Int.toNat_natCast] at hp
  have ht := h.at_
  refine ⟨⟨below_set ht.bel (Kd.R_base h.ls g rfl), ?_, Kd.S_far (p := ⟨g, i, none⟩) ht.out (fun k hk => ?_) _, ht.hB, ht.hBc, ht.hBg, ht.hgc, ?_⟩, Kd.R_far (p := ⟨g, i, none⟩) h.lo (fun k hk => ?_) _, Kd.R_far (p := ⟨g, i, none⟩) h.hi (fun k hk => ?_) _, hp.1, h1, h2, h3, h4⟩
  · exact (Below.heap_setCell _ _ _ B (show B ≠ g by omega)).trans ht.box
  · show k ≠ g
    omega
  · have := ht.cW
    simp [World.setCell]
    omega
  · show k ≠ g
    omega
  · show k ≠ g
    omega
set_option maxHeartbeats 16000000 in
set_option maxRecDepth 100000 in
theorem impl_allTrees.all (k : Nat) (w W : World) (B g0 a : Nat) (vo : Value) (Al : Option Addr) (cl : Nat) (low : List Int) (Ah : Option Addr) (ch : Nat) (high : List Int) (total : List (List Int)) (t : Nat) (hrun : impl_allTrees.run k low high t low = some total) (hbel : Below w.heap.size w W) (hbox : W.heap[B]? = some (.cells #[vo] 28 (0, 0)))
    (hout : Kd.S (Kd.slice 3 (Kd.int .i64)) 24 W w.heap.size (fun k => k = g0) vo []) (hlo : Kd.R (Kd.int .i64) 3 W w.heap.size (fun k => a ≤ k) (.slice Al low.length cl) low) (hhi : Kd.R (Kd.int .i64) 3 W w.heap.size (fun k => a ≤ k) (.slice Ah high.length ch) high) (hlen : high.length = low.length) (hB : w.heap.size ≤ B) (hBa : B < a) (hga : g0 < a) (hBg : B ≠ g0) (haW : a ≤ W.heap.size) (ht : t ≤ 10000) (hll : low.length ≤ 1000) :
    Calls Try.prog 116 #[.slice Al low.length cl, .slice Ah high.length ch, .func (.func 118) #[] #[.pointer (some ⟨B, 0, none⟩)]] W fun e W' => e = .returned (.tuple #[]) ∧ ∃ vo' c, impl_allTrees.AT w W' B g0 c vo' total := by
  have hclone : slices_Clone_int_int.f low = some low := by
    unfold slices_Clone_int_int.f
    simp only [Option.bind_some]
    rw [if_pos (by simp; omega)]
    simp
  have HCL := Aside0.mk hclone
  have HS := Aside0.mk (And.intro hbel (And.intro hbox (And.intro hout (And.intro hlo hhi))))
  have HRUN := Aside0.mk hrun
  clear hclone hbel hbox hout hlo hhi hrun
  go_enter Try.func116, Try.ntmps116
  go_wp2_with (first
    | (go_at_call 94; refine (slices_Clone_int_int.calls Al cl low low _ (Kd.R_reads' HS.out.2.2.2.1).2.2 (Kd.R_reads' HS.out.2.2.2.1).2.1 HCL.out).mono ?_; rintro e W1 ⟨v9, rfl, hR, hb⟩; obtain ⟨A9, c9, rfl⟩ := Kd.R_slice hR; have T1 : Aside0 (impl_allTrees.AL w W1 B g0 a W.heap.size W1.heap.size vo [] (.slice Al low.length cl) low (.slice Ah high.length ch) high (.slice A9 low.length c9) low) := ⟨⟨HS.out.1.trans (hb.mono HS.out.1.size), blk_below HS.out.2.1 hb, Kd.S_below (Kd.S_mono HS.out.2.2.1 (fun _ hk => .inl hk)) hb, hB, by have := hb.size; omega, hBg, by have := hb.size; omega, Nat.le_refl _⟩, Kd.R_below (Kd.R_mono (Kd.R_bound HS.out.2.2.2.1) (fun _ hk => ⟨hk.1, hk.2.2.1⟩)) hb, Kd.R_below (Kd.R_mono (Kd.R_bound HS.out.2.2.2.2) (fun _ hk => ⟨hk.1, hk.2.2.1⟩)) hb, Kd.R_lower (Kd.R_mono (Kd.R_bound hR) (fun _ hk => ⟨hk.2.1, hk.2.2.1⟩)) HS.out.1.size, hBa, hga, haW, hb.size⟩; clear hR hb HS))
  obtain ⟨b, hb⟩ : ∃ b, b = W.heap.size := ⟨_, rfl⟩
  obtain ⟨c, hc⟩ : ∃ c, c = W1.heap.size := ⟨_, rfl⟩
  rw [← hb, ← hc] at T1
  clear hb hc haW
  go_loopg [] t (fun kq wr => ∃ (cur : List Int) (vo1 : Value) (rows rest : List (List Int)), Aside0 (cur.length = low.length) ∧ Aside0 (impl_allTrees.run k low high kq cur = some rest ∧ total = rows ++ rest ∧ rows.length + kq ≤ t) ∧ Aside0 (impl_allTrees.AL w wr B g0 a b c vo1 rows (.slice Al low.length cl) low (.slice Ah high.length ch) high (.slice A9 low.length c9) cur))
  case atStart => exact ⟨low, vo, [], total, ⟨rfl⟩, ⟨HRUN.out, rfl, by simp⟩, T1⟩
  case round =>
    clear T1 HRUN
    obtain ⟨cur, vo1, rows, rest, HLN, HR, HL⟩ := hrel
    cases gk with
    | zero => exact absurd HR.out.1 (by simp [impl_allTrees.run])
    | succ t1 =>
      obtain ⟨hr1, hr2, hr3⟩ := HR.out
      obtain ⟨row, hf, hM⟩ := Option.bind_eq_some_iff.mp hr1
      have cO := impl_allTrees.one k A9 c9 cur row w wr B g0 c vo1 rows HL.out.at_ (HLN.out ▸ (Kd.R_reads' HL.out.ls).2.2) (HLN.out ▸ (Kd.R_reads' HL.out.ls).2.1) (by omega) hf
      rw [HLN.out] at cO
      have HO := Aside0.mk cO
      have HM := Aside0.mk hM
      have H2 := Aside0.mk hr2
      have H3 := Aside0.mk hr3
      clear cO hM hr1 hr2 hr3 hf HR
      go_wp2_with (first | (go_at_call 118; refine HO.out.mono ?_; rintro e W2 ⟨rfl, ⟨vo2, hT2⟩, hk2⟩; have T3 := Aside0.mk (HL.out.kept hT2 hk2); clear hT2 hk2 HO HL))
      go_loopw [7] (fun v7 wr2 => ∃ (i : Nat) (cur2 : List Int), v7 = .int .i64 ((i : Int) - 1) ∧ i ≤ low.length ∧ Aside0 (cur2.length = low.length ∧ impl_allTrees.nxt low high i cur2 = impl_allTrees.nxt low high cur.length cur ∧ impl_allTrees.AL w wr2 B g0 a b c vo2 (rows ++ [row]) (.slice Al low.length cl) low (.slice Ah high.length ch) high (.slice A9 low.length c9) cur2)) (fun v7 _ => (intOf v7 + 1).toNat)
      case atStart => exact ⟨low.length, cur, rfl, Nat.le_refl _, ⟨HLN.out, by rw [HLN.out], T3.out⟩⟩
      case round =>
        clear T3
        obtain ⟨i, cur2, rfl, hil, HX⟩ := hrel
        cases i with
        | zero =>
          have hz : ((0 : Nat) : Int) - 1 = -1 := by omega
          rw [hz]
          obtain ⟨x1, x2, x3⟩ := HX.out
          have HE : Aside0 (∃ vo' c, impl_allTrees.AT w wr.drew B g0 c vo' total) := by
            have hm := HM.out
            rw [← x2] at hm
            obtain rfl := Option.some.inj hm
            exact ⟨vo2, c, by rw [H2.out]; exact x3.at_.below (below_drew (Below.refl _ wr))⟩
          clear HX x1 x2 x3
          go_wp2
          go_region
          go_wp2
          refine bodyPost_ret (results_none rfl _ _ _) rfl ?_
          exact ⟨rfl, HE.out⟩
        | succ j =>
          have hz : ((j + 1 : Nat) : Int) - 1 = (j : Int) := by omega
          rw [hz]
          obtain ⟨x1, x2, x3⟩ := HX.out
          obtain ⟨ad, rfl⟩ : ∃ ad, A9 = some ad := by
            obtain ⟨g, cap, hg, _⟩ := Kd.R_form x3.ls (by omega)
            injection hg with h1
            exact ⟨_, h1⟩
          obtain ⟨g, rfl⟩ := Kd.R_head x3.ls
          obtain ⟨a1, e1, q1⟩ := Kd.at_int (Kd.R_reads' x3.ls).2.2 (j : Int) (by omega) (by omega)
          obtain ⟨a2, rfl, q2⟩ := Kd.at_int (Kd.R_reads' x3.hi).2.2 (j : Int) (by omega) (by omega)
          obtain ⟨a3, rfl, q3⟩ := Kd.at_int (Kd.R_reads' x3.lo).2.2 (j : Int) (by omega) (by omega)
          obtain rfl := Option.some.inj e1
          rw [Int.toNat_natCast] at q1 q2 q3
          rw [add_plain] at q1
          obtain ⟨p, hp⟩ : ∃ p, p = rd cur2 (j : Int) := ⟨_, rfl⟩
          obtain ⟨q, hq⟩ : ∃ q, q = rd high (j : Int) := ⟨_, rfl⟩
          obtain ⟨l, hl⟩ : ∃ l, l = rd low (j : Int) := ⟨_, rfl⟩
          rw [← hp] at q1
          rw [← hq] at q2
          rw [← hl] at q3
          rw [impl_allTrees.nxt, ← hp, ← hq, ← hl] at x2
          have hjl : (j : Int) < (low.length : Int) := by omega
          obtain ⟨_, hfz⟩ := Kd.R_celln 0 x3.ls (j : Int) (by omega) (by omega)
          rw [Int.toNat_natCast] at hfz
          have HD := Aside0.mk (x3.below (below_drew (Below.refl _ wr)))
          have HX1 := Aside0.mk x1
          by_cases hpq : p = q
          · subst hpq
            rw [if_pos rfl] at x2
            have HX2 := Aside0.mk x2
            clear HX x1 x2 x3 hp hq
            have HLL := Aside0.mk hl
            clear hl hz
            go_wp2
            go_region
            go_wp2
            go_roundw
            case rel => exact ⟨j, cur2.set j l, rfl, by omega, ⟨by rw [List.length_set]; exact HX1.out, HX2.out, HD.out.set j l⟩⟩
            case measure => first | (simp [intOf]; done) | (simp [intOf]; omega)
          · rw [if_neg hpq] at x2
            have d1 : (p == q) = false := beq_eq_false_iff_ne.mpr hpq
            have HX2 := Aside0.mk x2
            have HPP := Aside0.mk hp
            clear HX x1 x2 x3 hp hq hl hz
            go_wp2
            go_region
            go_wp2
            have hm := HM.out
            rw [← HX2.out] at hm
            obtain ⟨rest', hr5, hr6⟩ := Option.bind_eq_some_iff.mp hm
            obtain rfl := Option.some.inj hr6
            go_roundg t1
            case measure => omega
            case rel => exact ⟨cur2.set j (wrap64 (p + 1)), vo2, rows ++ [row], rest', ⟨by rw [List.length_set]; exact HX1.out⟩, ⟨hr5, by rw [H2.out]; simp, by have := H3.out; simp; omega⟩, ⟨HD.out.set j (wrap64 (p + 1))⟩⟩
end
section
def impl_allTrees.f (k : Nat) (a0 : Int) : Option (List (List Int)) := if 1 ≤ a0 ∧ a0 ≤ 5 then impl_allTrees.run k (List.replicate (a0 - 1).toNat 0) (List.replicate (a0 - 1).toNat a0) 10000 (List.replicate (a0 - 1).toNat 0) else none
theorem impl_allTrees.mono : ∀ a0 k, LeO (impl_allTrees.f k a0) (impl_allTrees.f (k + 1) a0) := fun a0 k => by
  unfold impl_allTrees.f
  split
  · exact impl_allTrees.mono_run k _ _ _ _
  · exact LeO.refl _
set_option maxHeartbeats 8000000 in
set_option maxRecDepth 100000 in
theorem impl_allTrees.calls (k : Nat) (a0 : Int) (r : List (List Int)) (w : World) (h : impl_allTrees.f k a0 = some r) :
    Calls Try.prog 88 #[.int .i64 a0] w fun e w' => ∃ v0_ : Value, e = .returned (v0_) ∧ Kd.S (Kd.slice 3 (Kd.int .i64)) 24 w' w.heap.size (fun _ => True) v0_ r ∧ Below w.heap.size w w' := by
  unfold impl_allTrees.f at h
  split at h
  next ha =>
    obtain ⟨m, hm⟩ : ∃ m : Nat, a0 = (m : Int) + 1 := ⟨(a0 - 1).toNat, by omega⟩
    subst hm
    have e0 : ((m : Int) + 1 - 1).toNat = m := by omega
    rw [e0] at h
    have hm4 : m ≤ 4 := by omega
    have hw1 : wrap64 ((m : Int) + 1 - 1) = (m : Int) := by unfold wrap64; omega
    have HRUN := Aside0.mk h
    clear h ha
    go_enter Try.func88, Try.ntmps88
    have hrep : slices_Repeat_int_int.f [(m : Int) + 1] (m : Int) = some (List.replicate m ((m : Int) + 1)) := by
      rw [slices_Repeat_int_int.f, if_pos (by simp), if_pos (by omega), if_pos (by omega), Int.toNat_natCast]
      rfl
    have HREP := Aside0.mk hrep
    clear hrep
    go_wp2_with (first
      | ((with_reducible refine gate_dst (N := 5) rfl ?_); refine Kd.S_lit (Kd.slice 3 (Kd.int .i64)) (w0 := w) w.heap.size 24 ?hg (N := 5) ?hd (xs := ([] : List (List Int))) (inner := []) (ok := fun k_ => k_ = w.heap.size) (okp := fun k_ => k_ = w.heap.size) ?hr ?hp (fun _ hk => hk) rfl (Below.refl _ _) (Nat.le_refl _) (by simp) ?_; (case hd => rfl); (case hg => rfl); (case hr => first | (go_simp; done) | (go_simp; rfl)); (case hp => exact (Reps.none _ _)); intro v5 w1 ho1 hb1 hg_ hn1; clear hg_; obtain ⟨A5, c5, rfl⟩ := Kd.S_slice ho1; have hlt1 : w.heap.size < w1.heap.size := (by obtain ⟨b9, hb9, _⟩ := hn1; have h1 := (Kd.S_R ho1).1 b9 hb9; have h2 := Kd.S_lt ho1 b9 hb9; omega); have T1 := Aside0.mk (And.intro ho1 hb1); clear ho1 hb1 hn1)
      | ((with_reducible refine gate_dst (N := 8) rfl ?_); refine Kd.R_make (Kd.int .i64) _ 3 rfl (N := 8) rfl 24 _ _ rfl (m : Int) rfl rfl Try.underlying24 (.int .i64 0) 8 info3 rfl (by decide) (by omega) 0 (ok := fun _ => True) (okp := fun _ => True) rfl (fun _ hk => hk) trivial (by omega) (by omega) (Below.refl _ _) (Nat.le_refl _) ?_; intro v8 w2 ho2 hb2 hg_ hn_; clear hg_ hn_; rw [Int.toNat_natCast] at ho2; obtain ⟨A8, c8, rfl⟩ := Kd.R_slice ho2; have T2 : Aside0 (Below w.heap.size w w2 ∧ w2.heap[w1.heap.size]? = some (.cells #[.slice A5 0 c5] 28 (0, 0)) ∧ Kd.S (Kd.slice 3 (Kd.int .i64)) 24 w2 w.heap.size (fun k => k = w.heap.size) (.slice A5 0 c5) [] ∧ Kd.R (Kd.int .i64) 3 w2 w.heap.size (fun k => w1.heap.size + 1 ≤ k) (.slice A8 (List.replicate m (0 : Int)).length c8) (List.replicate m 0) ∧ w1.heap.size + 1 ≤ w2.heap.size) := (by have hba : Below w1.heap.size w1 (w1.alloc (.cells #[.slice A5 0 c5] 28)) := (Below.refl _ w1).alloc (Nat.le_refl _) _; have hsz : (w1.alloc (.cells #[.slice A5 0 c5] 28)).heap.size = w1.heap.size + 1 := (by simp); have hbb := hb2.size; rw [hsz] at hbb ho2; exact ⟨(T1.out.2.trans (hba.mono T1.out.2.size)).trans (hb2.mono (by rw [hsz]; omega)), blk_below (heap_alloc_new w1 _) hb2, Kd.S_below (Kd.S_below T1.out.1 hba) hb2, Kd.R_lower (Kd.R_mono (Kd.R_bound ho2) (fun _ hk => hk.2.1)) (by omega), hbb⟩); clear ho2 hb2 T1)
      | ((with_reducible refine gate_dst (N := 11) rfl ?_); refine Kd.R_lit (Kd.int .i64) _ 3 ?hg (N := 11) ?hd (xs := ([(m : Int) + 1] : List Int)) (inner := [.int .i64 ((m : Int) + 1)]) (ok := fun _ => True) (okp := fun _ => True) ?hr ?hp (fun _ hk => hk) trivial (Below.refl _ _) (Nat.le_refl _) (by simp) ?_; (case hd => rfl); (case hg => rfl); (case hr => first | (go_simp; done) | (go_simp; rfl)); (case hp => exact (Reps.one (show Kd.M (Kd.int .i64) _ _ _ ((m : Int) + 1) [.int .i64 ((m : Int) + 1)] from rfl) (Reps.none _ _))); intro v11 w3 ho3 hb3 hg_ hn_; clear hg_ hn_; obtain ⟨A11, c11, rfl⟩ := Kd.R_slice ho3; have T3 := Aside0.mk (And.intro ho3 hb3); clear ho3 hb3)
      | (go_at_call 117; refine (slices_Repeat_int_int.calls A11 c11 [(m : Int) + 1] (m : Int) (List.replicate m ((m : Int) + 1)) _ (Kd.R_reads' T3.out.1).2.2 (Kd.R_reads' T3.out.1).2.1 HREP.out).mono ?_; rintro e w4 ⟨v14, rfl, hR, hb⟩; obtain ⟨A14, c14, rfl⟩ := Kd.R_slice hR; have T4 := Aside0.mk (And.intro hR hb); clear hR hb)
      | (go_at_call 116; have b23 := T3.out.2; have b34 := T4.out.2; have b24 := b23.trans (b34.mono b23.size); have cA := impl_allTrees.all k w _ w1.heap.size w.heap.size (w1.heap.size + 1) (.slice A5 0 c5) A8 c8 (List.replicate m 0) A14 c14 (List.replicate m ((m : Int) + 1)) r 10000 HRUN.out (T2.out.1.trans (b24.mono T2.out.1.size)) (blk_below T2.out.2.1 b24) (Kd.S_below T2.out.2.2.1 b24) (Kd.R_below T2.out.2.2.2.1 b24) (Kd.R_lower (Kd.R_mono (Kd.R_bound T4.out.1) (fun _ hk => Nat.le_trans T2.out.2.2.2.2 (Nat.le_trans b23.size hk.2.1))) (Nat.le_trans T2.out.1.size b23.size)) (by simp) (by omega) (by omega) (by omega) (by omega) (Nat.le_trans T2.out.2.2.2.2 b24.size) (by omega) (by simp; omega); simp only [List.length_replicate] at cA; refine cA.mono ?_; rintro e w5 ⟨rfl, vo, cc, hT⟩; have T5 := Aside0.mk hT; have hbc := (blk_cell hT.box 0).trans (rfl : _ = some vo); obtain ⟨A5z, c5z, rfl⟩ := Kd.S_slice hT.out; clear b23 b34 b24 cA hT))
    go_ret
    exact ⟨_, rfl, Kd.S_mono T5.out.out (fun _ _ => trivial), T5.out.bel⟩
  next => cases h
end

/-! ### impl_AllTrees: function 46 -/
def impl_AllTrees.f (k : Nat) (a0 : Int) : Option ((List (List Int)) × Bool) := (impl_between.f a0 1 5).bind fun t230 => (if t230 = true then ((impl_allTrees.f k a0).bind fun t231 => (some (t231, true))) else (some (([] : List (List Int)), false)))
theorem impl_AllTrees.mono : ∀ a0 k, LeO (impl_AllTrees.f k a0) (impl_AllTrees.f (k + 1) a0) := by
 intro a0 k
 unfold impl_AllTrees.f
 repeat' first
   | (with_reducible exact impl_allTrees.mono _ _)
   | (with_reducible exact LeO.refl _)
   | (with_reducible exact LeO.none _)
   | (with_reducible refine LeO.ite ?_ ?_)
   | (with_reducible refine LeO.bind ?_ (fun _ => ?_))
   | exact LeO.none _
   | refine LeO.ite ?_ ?_
   | refine LeO.bind ?_ (fun _ => ?_)
set_option maxHeartbeats 8000000 in
set_option maxRecDepth 100000 in
theorem impl_AllTrees.calls (k : Nat) (a0 : Int) (r1 : List (List Int)) (r2 : Bool) (w : World) (h : impl_AllTrees.f k a0 = some (r1, r2)) :
  Calls Try.prog 46 #[.int .i64 a0] w fun e w' => ∃ v0_ : Value, e = .returned (.tuple #[v0_, .bool r2]) ∧ Kd.S (Kd.slice 3 (Kd.int .i64)) 24 w' w.heap.size (fun _ => True) v0_ r1 ∧ Below w.heap.size w w' := by
 have HB := Aside0.mk (Below.refl w.heap.size w)
 have H : ((impl_between.f a0 1 5).bind fun t230 => (if t230 = true then ((impl_allTrees.f k a0).bind fun t231 => (some (t231, true))) else (some (([] : List (List Int)), false)))) = some (r1, r2) := h
 clear h
 replace H := Option.bind_eq_some_iff.mp H
 obtain ⟨t230, A20, H⟩ := H
 replace H : (if t230 = true then ((impl_allTrees.f k a0).bind fun t231 => (some (t231, true))) else (some (([] : List (List Int)), false))) = some (r1, r2) := H
 have A2 := Aside0.mk A20
 clear A20
 by_cases c3 : t230 = true
 ·subst c3
  have H1 : ((impl_allTrees.f k a0).bind fun t231 => (some (t231, true))) = some (r1, r2) := by rw [if_pos rfl] at H; exact H
  clear H
  have H := H1
  clear H1
  replace H := Option.bind_eq_some_iff.mp H
  obtain ⟨t231, A40, H⟩ := H
  replace H : (some (t231, true)) = some (r1, r2) := H
  have A4 := Aside0.mk A40
  clear A40
  simp only [Option.some.injEq, Prod.mk.injEq] at H
  obtain ⟨rfl, rfl⟩ := H
  go_enter Try.func46, Try.ntmps46
  go_wp2_with (first | ((with_reducible refine gate_callee (f := 64) rfl ?_); refine goesL_ (some 5) rfl rfl Try.func64 (by kernel_rfl) rfl #[.int .i64 a0, .int .i64 1, .int .i64 5] rfl (by (try simp only [List.map_toArray, List.map_cons, List.map_nil]); first | done | rfl | (simp only [List.length_drop, List.length_take]; rfl)) ?_; (with_reducible refine (impl_between.calls a0 1 5 true _ A2.out).mono ?_); rintro e w' ⟨rfl, ⟨nd, rfl⟩⟩; refine ⟨_, rfl, ?_⟩) | ((with_reducible refine gate_callee (f := 88) rfl ?_); refine goesL_ (some 8) rfl rfl Try.func88 (by kernel_rfl) rfl #[.int .i64 a0] rfl (by (try simp only [List.map_toArray, List.map_cons, List.map_nil]); first | done | rfl | (simp only [List.length_drop, List.length_take]; rfl)) ?_; (with_reducible refine (impl_allTrees.calls k a0 t231 _ A4.out).mono ?_); rintro e w5 ⟨v232, rfl, ho0, hb⟩; refine ⟨_, rfl, ?_⟩; have n0_ := Aside0.mk (Kd.S_lower ho0 (below_size (by repeat (first | (with_reducible first | exact HB.out | apply below_alloc | apply pw_below_drewN | apply below_drew1) | exact HB.out)))); have n1_ := Aside0.mk (below_step (by repeat (first | (with_reducible first | exact HB.out | apply below_alloc | apply pw_below_drewN | apply below_drew1) | exact HB.out)) hb); clear HB; have HO233 := n0_; have HB := n1_; clear n0_ n1_; (try clear hb); (try clear hb2); (try clear hk); (try clear hi); (try clear ho0)))
  go_ret2
  exact ⟨_, by first | rfl | (simp [errW_none, errW_some] <;> rfl) | (simp [*, errW_none, errW_some] <;> rfl), by (with_reducible repeat (first | apply Kd.S_alloc | apply Kd.S_drewN | apply Kd.S_drew)); exact HO233.out, by repeat (first | (with_reducible first | exact HB.out | apply below_alloc | apply pw_below_drewN | apply below_drew1) | exact HB.out)⟩
 ·replace c3 := Bool.eq_false_iff.mpr c3
  subst c3
  have H1 : (some (([] : List (List Int)), false)) = some (r1, r2) := by rw [if_neg (show ¬ (false = true) by decide)] at H; exact H
  clear H
  have H := H1
  clear H1
  simp only [Option.some.injEq, Prod.mk.injEq] at H
  obtain ⟨rfl, rfl⟩ := H
  go_enter Try.func46, Try.ntmps46
  go_wp2_with (first | ((with_reducible refine gate_callee (f := 64) rfl ?_); refine goesL_ (some 5) rfl rfl Try.func64 (by kernel_rfl) rfl #[.int .i64 a0, .int .i64 1, .int .i64 5] rfl (by (try simp only [List.map_toArray, List.map_cons, List.map_nil]); first | done | rfl | (simp only [List.length_drop, List.length_take]; rfl)) ?_; (with_reducible refine (impl_between.calls a0 1 5 false _ A2.out).mono ?_); rintro e w' ⟨rfl, ⟨nd, rfl⟩⟩; refine ⟨_, rfl, ?_⟩))
  go_ret2
  exact ⟨_, by first | rfl | (simp [errW_none, errW_some] <;> rfl) | (simp [*, errW_none, errW_some] <;> rfl), by first | exact Kd.S_nil _ _ _ _ _ | exact Kd.N_nil _ _ _ _ _ | exact Kd.V_nil _ _ _ _ _ | exact Kd.Q_nil _ _ _ _ _ | exact Kd.R_nil _ _ _ _ _, by repeat (first | (with_reducible first | exact HB.out | apply below_alloc | apply pw_below_drewN | apply below_drew1) | exact HB.out)⟩

/-! ### spec_l1In: function 68 -/
def spec_l1In.f (a0 : Int) (a1 : Int) (a2 : Int) : Option (Bool) := if a0 ≥ a1 then (some (decide (a0 ≤ a2))) else (some false)
set_option maxHeartbeats 8000000 in
set_option maxRecDepth 100000 in
theorem spec_l1In.calls (a0 : Int) (a1 : Int) (a2 : Int) (r : Bool) (w : World) (h : spec_l1In.f a0 a1 a2 = some r) :
    Calls Try.prog 68 #[.int .i64 a0, .int .i64 a1, .int .i64 a2] w fun e w' => e = .returned (.bool r) ∧ Drawn0 w w' := by
  have H : (if a0 ≥ a1 then (some (decide (a0 ≤ a2))) else (some false)) = some r := h
  clear h
  by_cases c4 : a0 ≥ a1
  · rw [if_pos c4] at H
    have c4b0 : decide (a1 ≤ a0) = true := decide_eq_true c4
    clear c4
    obtain rfl := Option.some.inj H
    go_enter Try.func68, Try.ntmps68
    go_wp2
    go_ret
    exact ⟨by first | rfl | (simp; done) | (simp [*]; done), by repeat (first | exact Drawn0.refl _ | apply Drawn0.step)⟩
  · rw [if_neg c4] at H
    have c4b0 : decide (a1 ≤ a0) = false := decide_eq_false c4
    clear c4
    obtain rfl := Option.some.inj H
    go_enter Try.func68, Try.ntmps68
    go_wp2
    go_ret
    exact ⟨by first | rfl | (simp; done) | (simp [*]; done), by repeat (first | exact Drawn0.refl _ | apply Drawn0.step)⟩

/-! ### spec_trCount: function 90 -/
def spec_trCount.l0 : Nat → Int → Int → Int → Option (Int)
 | 0, _, _, _ => none
 | k + 1, x0, x3, x4 => if x4 < x0 then (spec_trCount.l0 k x0 (wrap64 (x3 * (wrap64 (x0 + 1)))) (wrap64 (x4 + 1))) else (some x3)
def spec_trCount.f (k : Nat) (a0 : Int) : Option (Int) := spec_trCount.l0 k a0 1 1
theorem spec_trCount.mono_l : ∀ k, (∀ y0 y1 y2, LeO (spec_trCount.l0 k y0 y1 y2) (spec_trCount.l0 (k + 1) y0 y1 y2))
 | 0 => fun _ _ _ r h => by simp [spec_trCount.l0] at h
 | k + 1 => by
  have ih0 := spec_trCount.mono_l k
  ·intro y0 y1 y2
   unfold spec_trCount.l0
   repeat' first
   | (with_reducible exact ih0 _ _ _)
   | (with_reducible exact LeO.refl _)
   | (with_reducible exact LeO.none _)
   | (with_reducible refine LeO.ite ?_ ?_)
   | (with_reducible refine LeO.bind ?_ (fun _ => ?_))
   | exact LeO.none _
   | refine LeO.ite ?_ ?_
   | refine LeO.bind ?_ (fun _ => ?_)
theorem spec_trCount.mono : ∀ a0 k, LeO (spec_trCount.f k a0) (spec_trCount.f (k + 1) a0) := by
 intro a0 k
 have ih0 := spec_trCount.mono_l k
 unfold spec_trCount.f
 repeat' first
   | (with_reducible exact ih0 _ _ _)
   | (with_reducible exact LeO.refl _)
   | (with_reducible exact LeO.none _)
   | (with_reducible refine LeO.ite ?_ ?_)
   | (with_reducible refine LeO.bind ?_ (fun _ => ?_))
   | exact LeO.none _
   | refine LeO.ite ?_ ?_
   | refine LeO.bind ?_ (fun _ => ?_)
set_option maxHeartbeats 8000000 in
set_option maxRecDepth 100000 in
theorem spec_trCount.calls (k : Nat) (a0 : Int) (r : Int) (w : World) (h : spec_trCount.f k a0 = some r) :
  Calls Try.prog 90 #[.int .i64 a0] w fun e w' => e = .returned (.int .i64 r) ∧ Drawn0 w w' := by
 have H : (spec_trCount.l0 k a0 1 1) = some r := h
 clear h
 have H' := Aside0.mk H
 clear H
 go_enter Try.func90, Try.ntmps90
 go_wp2
 go_loopg [3, 4] k (fun kq v3 v4 w' => ∃ (x3_1 : Int) (x4_1 : Int), v3 = .int .i64 x3_1 ∧ v4 = .int .i64 x4_1 ∧ Aside0 (spec_trCount.l0 kq a0 x3_1 x4_1 = some r) ∧ Aside0 (kq ≤ k) ∧ Drawn0 w w')
 case atStart => exact ⟨(1), (1), (by first | rfl | (simp; done) | (simp [*]; done)), (by first | rfl | (simp; done) | (simp [*]; done)), H', ⟨Nat.le_refl _⟩, by repeat (first | exact Drawn0.refl _ | apply Drawn0.step)⟩
 case round =>
  clear H'
  obtain ⟨x3_1, x4_1, rfl, rfl, HA, HK1, ⟨m1, rfl⟩⟩ := hrel
  cases gk with
  | zero => exact absurd HA.out (by simp [spec_trCount.l0])
  | succ k1 =>
   have H := HA.out
   clear HA
   simp only [spec_trCount.l0] at H
   by_cases c2 : x4_1 < a0
   ·rw [if_pos c2] at H
    have c2b0 : decide (x4_1 < a0) = true := decide_eq_true c2
    clear c2
    have H' := Aside0.mk H
    clear H
    go_wp2
    go_roundg k1
    case measure => have := HK1.out; omega
    case rel => exact ⟨(wrap64 (x3_1 * (wrap64 (a0 + 1)))), (wrap64 (x4_1 + 1)), (by first | rfl | (simp; done) | (simp [*]; done)), (by first | rfl | (simp; done) | (simp [*]; done)), H', ⟨by have := HK1.out; omega⟩, by repeat (first | exact Drawn0.refl _ | apply Drawn0.step)⟩
   ·rw [if_neg c2] at H
    have c2b0 : decide (x4_1 < a0) = false := decide_eq_false c2
    clear c2
    obtain rfl := Option.some.inj H
    go_wp2
    go_ret
    exact ⟨by first | rfl | (simp; done) | (simp [*]; done), by repeat (first | exact Drawn0.refl _ | apply Drawn0.step)⟩

/-! ### spec_l1Has: function 100 -/
def spec_l1Has.l0 : Nat → Int → List Int → Int → Int → Option (Bool)
 | 0, _, _, _, _ => none
 | k + 1, x1, x7, x8, x9 => if x9 < x8 then (if 0 ≤ x9 then (if x9 < (x7.length : Int) then (if (rd x7 x9) = x1 then (some true) else (spec_l1Has.l0 k x1 x7 x8 (wrap64 (x9 + 1)))) else (none)) else (none)) else (some false)
def spec_l1Has.f (k : Nat) (l0 : List Int) (a1 : Int) : Option (Bool) := spec_l1Has.l0 k a1 l0 (l0.length : Int) 0
theorem spec_l1Has.mono_l : ∀ k, (∀ y0 y1 y2 y3, LeO (spec_l1Has.l0 k y0 y1 y2 y3) (spec_l1Has.l0 (k + 1) y0 y1 y2 y3))
 | 0 => fun _ _ _ _ r h => by simp [spec_l1Has.l0] at h
 | k + 1 => by
  have ih0 := spec_l1Has.mono_l k
  ·intro y0 y1 y2 y3
   unfold spec_l1Has.l0
   repeat' first
   | (with_reducible exact ih0 _ _ _ _)
   | (with_reducible exact LeO.refl _)
   | (with_reducible exact LeO.none _)
   | (with_reducible refine LeO.ite ?_ ?_)
   | (with_reducible refine LeO.bind ?_ (fun _ => ?_))
   | exact LeO.none _
   | refine LeO.ite ?_ ?_
   | refine LeO.bind ?_ (fun _ => ?_)
theorem spec_l1Has.mono : ∀ a0 a1 k, LeO (spec_l1Has.f k a0 a1) (spec_l1Has.f (k + 1) a0 a1) := by
 intro a0 a1 k
 have ih0 := spec_l1Has.mono_l k
 unfold spec_l1Has.f
 repeat' first
   | (with_reducible exact ih0 _ _ _ _)
   | (with_reducible exact LeO.refl _)
   | (with_reducible exact LeO.none _)
   | (with_reducible refine LeO.ite ?_ ?_)
   | (with_reducible refine LeO.bind ?_ (fun _ => ?_))
   | exact LeO.none _
   | refine LeO.ite ?_ ?_
   | refine LeO.bind ?_ (fun _ => ?_)
set_option maxHeartbeats 8000000 in
set_option maxRecDepth 100000 in
theorem spec_l1Has.calls (k : Nat) (A0 : Option Addr) (c0 : Nat) (l0 : List Int) (a1 : Int) (r : Bool) (w : World) (hr0 : Kd.C (Kd.int .i64) w A0 l0.length l0) (hc0 : l0.length ≤ c0) (h : spec_l1Has.f k l0 a1 = some r) :
  Calls Try.prog 100 #[.slice A0 l0.length c0, .int .i64 a1] w fun e w' => e = .returned (.bool r) ∧ Drawn0 w w' := by
 have HR0 := Aside0.mk hr0
 have HC0 := Aside0.mk hc0
 clear hr0 hc0
 have H : (spec_l1Has.l0 k a1 l0 (l0.length : Int) 0) = some r := h
 clear h
 have H' := Aside0.mk H
 clear H
 go_enter Try.func100, Try.ntmps100
 go_wp2
 go_loopg [9] k (fun kq v9 w' => ∃ (x9_1 : Int), v9 = .int .i64 x9_1 ∧ Aside0 (spec_l1Has.l0 kq a1 l0 (l0.length : Int) x9_1 = some r) ∧ Aside0 (kq ≤ k) ∧ Drawn0 w w')
 case atStart => exact ⟨(0), (by first | rfl | (simp; done) | (simp [*]; done)), H', ⟨Nat.le_refl _⟩, by repeat (first | exact Drawn0.refl _ | apply Drawn0.step)⟩
 case round =>
  clear H'
  try clear c1
  try clear p2
  obtain ⟨x9_1, rfl, HA, HK1, ⟨m1, rfl⟩⟩ := hrel
  cases gk with
  | zero => exact absurd HA.out (by simp [spec_l1Has.l0])
  | succ k1 =>
   have H := HA.out
   clear HA
   simp only [spec_l1Has.l0] at H
   by_cases c3 : x9_1 < (l0.length : Int)
   ·rw [if_pos c3] at H
    have c3b0 : decide (x9_1 < (l0.length : Int)) = true := decide_eq_true c3
    clear c3
    by_cases c4 : 0 ≤ x9_1
    ·rw [if_pos c4] at H
     have c4b0 : decide (0 ≤ x9_1) = true := decide_eq_true c4
     clear c4
     by_cases c5 : x9_1 < (l0.length : Int)
     ·rw [if_pos c5] at H
      have c5b0 : decide (x9_1 < (l0.length : Int)) = true := decide_eq_true c5
      clear c5
      by_cases c6 : (rd l0 x9_1) = a1
      ·rw [if_pos c6] at H
       have c6b0 : ((rd l0 x9_1) == a1) = true := beq_iff_eq.mpr c6
       have c6b1 : ((rd l0 x9_1) != a1) = false := bne_eq_false_iff_eq.mpr c6
       clear c6
       obtain rfl := Option.some.inj H
       have p234 : 0 ≤ (x9_1 : Int) := of_decide_eq_true (by first | (with_reducible assumption) | assumption)
       have q234 : x9_1 < (l0.length : Int) := of_decide_eq_true (by first | (with_reducible assumption) | assumption)
       obtain ⟨ad234, e234, hx234_0⟩ := Kd.at_int HR0.out x9_1 p234 q234
       cases e234
       replace p234 := eq_true p234
       replace q234 := eq_true q234
       go_wp2
       go_ret
       exact ⟨by first | rfl | (simp; done) | (simp [*]; done), by repeat (first | exact Drawn0.refl _ | apply Drawn0.step)⟩
      ·rw [if_neg c6] at H
       have c6b0 : ((rd l0 x9_1) == a1) = false := beq_eq_false_iff_ne.mpr c6
       have c6b1 : ((rd l0 x9_1) != a1) = true := bne_iff_ne.mpr c6
       have H' := Aside0.mk H
       clear H
       have p234 : 0 ≤ (x9_1 : Int) := of_decide_eq_true (by first | (with_reducible assumption) | assumption)
       have q234 : x9_1 < (l0.length : Int) := of_decide_eq_true (by first | (with_reducible assumption) | assumption)
       obtain ⟨ad234, e234, hx234_0⟩ := Kd.at_int HR0.out x9_1 p234 q234
       cases e234
       replace p234 := eq_true p234
       replace q234 := eq_true q234
       go_wp2
       go_roundg k1
       case measure => have := HK1.out; omega
       case rel => exact ⟨(wrap64 (x9_1 + 1)), (by first | rfl | (simp; done) | (simp [*]; done)), H', ⟨by have := HK1.out; omega⟩, by repeat (first | exact Drawn0.refl _ | apply Drawn0.step)⟩
     ·rw [if_neg c5] at H
      exact absurd H (by simp)
    ·rw [if_neg c4] at H
     exact absurd H (by simp)
   ·rw [if_neg c3] at H
    have c3b0 : decide (x9_1 < (l0.length : Int)) = false := decide_eq_false c3
    clear c3
    obtain rfl := Option.some.inj H
    go_wp2
    go_ret
    exact ⟨by first | rfl | (simp; done) | (simp [*]; done), by repeat (first | exact Drawn0.refl _ | apply Drawn0.step)⟩

end Go.Proofs.Ytkbdjbmalpkkfaa.PFnTreesListed
