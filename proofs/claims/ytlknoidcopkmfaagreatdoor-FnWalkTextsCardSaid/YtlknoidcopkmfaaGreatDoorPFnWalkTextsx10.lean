-- Written by a program of this session for this claim (its own turn of the print).
import Derived.Test.YtlknoidcopkmfaaGreatDoorPFnWalkTextsx0
import Derived.Test.YtlknoidcopkmfaaGreatDoorPFnWalkTextsx6
import Derived.Test.YtlknoidcopkmfaaGreatDoorPFnWalkTextsx7
import Derived.Test.YtlknoidcopkmfaaGreatDoorPFnWalkTextsx8
import Derived.Test.YtlknoidcopkmfaaGreatDoorPFnWalkTextsx9
namespace Go.Proofs.YtlknoidcopkmfaaGreatDoor.PFnWalkTexts
open Go.RowKit Go.Proofs.YtlknoidcopkmfaaGreatDoorW.PrintWords Go.Proofs.YtlknoidcopkmfaaGreatDoorW.PrintLast Go.Proofs.YtlknoidcopkmfaaGreatDoorW.PrintMore
attribute [local go_sem] max2_int min2_int max_two min_two max_three min_three max_four min_four   -- for this text's walks alone
set_option linter.unusedVariables false
set_option linter.unusedSimpArgs false

/-! ### spec_waOf: function 96 -/
mutual
def spec_waOf.l0 : Nat → List Int → Int → Int → List Int → List Int → Option (List Int × List Int)
 | 0, _, _, _, _, _ => none
 | k + 1, x0, x9, x10, x332000, x332001 => if x10 < x9 then (spec_waOf.l1 k x0 x10 x9 x10 x0 (x0.length : Int) 0 x332000 x332001) else (some (x332000, x332001))
def spec_waOf.l1 : Nat → List Int → Int → Int → Int → List Int → Int → Int → List Int → List Int → Option (List Int × List Int)
 | 0, _, _, _, _, _, _, _, _, _ => none
 | k + 1, x0, x4, x9, x10, x13, x14, x15, x332000, x332001 => if x15 < x14 then (if 0 ≤ x15 then (if x15 < (x13.length : Int) then (if x4 = (rd x13 x15) then (if x332000.length < 17592186044416 then (if x332001.length < 17592186044416 then (spec_waOf.l1 k x0 x4 x9 x10 x13 x14 (wrap64 (x15 + 1)) (x332000 ++ [wrap64 ((x332001.length : Int) - x4)]) (x332001 ++ [x15])) else (none)) else (none)) else (spec_waOf.l1 k x0 x4 x9 x10 x13 x14 (wrap64 (x15 + 1)) x332000 x332001)) else (none)) else (none)) else (spec_waOf.l0 k x0 x9 (wrap64 (x10 + 1)) x332000 x332001)
end
def spec_waOf.f (k : Nat) (l0 : List Int) : Option (List Int × List Int) := spec_waOf.l0 k l0 (l0.length : Int) 0 ([] : List Int) ([] : List Int)
theorem spec_waOf.mono_l : ∀ k, (∀ y0 y1 y2 y3 y4, LeO (spec_waOf.l0 k y0 y1 y2 y3 y4) (spec_waOf.l0 (k + 1) y0 y1 y2 y3 y4)) ∧ (∀ y0 y1 y2 y3 y4 y5 y6 y7 y8, LeO (spec_waOf.l1 k y0 y1 y2 y3 y4 y5 y6 y7 y8) (spec_waOf.l1 (k + 1) y0 y1 y2 y3 y4 y5 y6 y7 y8))
 | 0 => ⟨fun _ _ _ _ _ r h => by simp [spec_waOf.l0] at h, fun _ _ _ _ _ _ _ _ _ r h => by simp [spec_waOf.l1] at h⟩
 | k + 1 => by
  obtain ⟨ih0, ih1⟩ := spec_waOf.mono_l k
  refine ⟨?_, ?_⟩
  all_goals intros
  all_goals (first | unfold spec_waOf.l0 | unfold spec_waOf.l1)
  all_goals (repeat' first | (with_reducible first | exact ih0 _ _ _ _ _ | exact ih1 _ _ _ _ _ _ _ _ _ | exact LeO.refl _ | exact LeO.none _ | refine LeO.ite ?_ ?_ | refine LeO.bind ?_ (fun _ => ?_)) | exact LeO.none _ | refine LeO.ite ?_ ?_ | refine LeO.bind ?_ (fun _ => ?_))
theorem spec_waOf.mono : ∀ a0 k, LeO (spec_waOf.f k a0) (spec_waOf.f (k + 1) a0) := by
 intro a0 k
 obtain ⟨ih0, ih1⟩ := spec_waOf.mono_l k
 unfold spec_waOf.f
 repeat' first | (with_reducible first | exact ih0 _ _ _ _ _ | exact ih1 _ _ _ _ _ _ _ _ _ | exact LeO.refl _ | exact LeO.none _ | refine LeO.ite ?_ ?_ | refine LeO.bind ?_ (fun _ => ?_)) | exact LeO.none _ | refine LeO.ite ?_ ?_ | refine LeO.bind ?_ (fun _ => ?_)
set_option maxHeartbeats 8000000 in
set_option maxRecDepth 100000 in
theorem spec_waOf.calls (k : Nat) (A0 : Option Addr) (c0 : Nat) (l0 : List Int) (r1 : List Int) (r2 : List Int) (w : World) (hr0 : Kd.C (Kd.int .i64) w A0 l0.length l0) (hc0 : l0.length ≤ c0) (h : spec_waOf.f k l0 = some (r1, r2)) :
  Calls Tryz.prog 96 #[.slice A0 l0.length c0] w fun e w' => ∃ v0_ v1_ : Value, e = .returned (.agg #[v0_, v1_]) ∧ Kd.R (Kd.int .i64) 3 w' w.heap.size (fun k_ => some k_ ≠ (v1_ : Value).ownBlock) v0_ r1 ∧ Kd.R (Kd.int .i64) 3 w' w.heap.size (fun k_ => some k_ ≠ (v0_ : Value).ownBlock) v1_ r2 ∧ Below w.heap.size w w' := by
 have hu24 := Tryz.underlying24
 have HR0 := Aside0.mk hr0
 have HC0 := Aside0.mk hc0
 clear hr0 hc0
 have HB := Aside0.mk (Below.refl w.heap.size w)
 have H : (spec_waOf.l0 k l0 (l0.length : Int) 0 ([] : List Int) ([] : List Int)) = some (r1, r2) := h
 clear h
 have H' := Aside0.mk H
 clear H
 go_enter Tryz.func96, Tryz.ntmps96
 go_wp2_with (first | ((with_reducible refine gate_dst (N := 2) rfl ?_); refine box_event ?hg (N := 2) ?hd (cs := #[.slice none 0 0, .slice none 0 0]) (t := 24) ?hr ?_; (case hd => rfl); (case hg => rfl); (case hr => first | (go_simp; done) | (go_simp; rfl)); intro gb330 hg w2 hbox hb; have n0_ := Aside0.mk (below_step (nbW HB.out) hb); have n1_ := Aside0.mk (hbox); have n2_ := Aside0.mk ((by rw [hg]; exact (below_size (nbW HB.out)) : w.heap.size ≤ gb330)); have n3_ := Aside0.mk ((by rw [hg]; exact (below_size (nbW HB.out)) : w.heap.size ≤ gb330)); clear HB; have HB := n0_; have BK330 := n1_; have GW330 := n2_; have GE330 := n3_; clear n0_ n1_ n2_ n3_; clear hb hbox hg) | ((with_reducible refine gate_dst (N := 3) rfl ?_); refine box_event ?hg (N := 3) ?hd (cs := #[.slice none 0 0, .slice none 0 0]) (t := 24) ?hr ?_; (case hd => rfl); (case hg => rfl); (case hr => first | (go_simp; done) | (go_simp; rfl)); intro gb331 hg w3 hbox hb; have n0_ := Aside0.mk (blk_below (kbW BK330.out) hb); have n1_ := Aside0.mk (below_step (by repeat (first | exact nbW HB.out | refine nbW (below_set ?_ GE330.out))) hb); have n2_ := Aside0.mk (hbox); have n3_ := Aside0.mk ((by rw [hg]; exact (below_size (by repeat (first | exact nbW HB.out | refine nbW (below_set ?_ GE330.out)))) : w.heap.size ≤ gb331)); have n4_ := Aside0.mk ((by rw [hg]; exact (below_size (by repeat (first | exact nbW HB.out | refine nbW (below_set ?_ GE330.out)))) : w.heap.size ≤ gb331)); have n5_ := Aside0.mk ((by rw [hg]; exact Nat.ne_of_lt (blk_lt (g := gb330) (o := .cells #[.slice none 0 0, .slice none 0 0] 24 (0, 0)) (kbW BK330.out)) : gb330 ≠ gb331)); have n6_ := Aside0.mk ((by rw [hg]; exact Nat.ne_of_gt (blk_lt (g := gb330) (o := .cells #[.slice none 0 0, .slice none 0 0] 24 (0, 0)) (kbW BK330.out)) : gb331 ≠ gb330)); clear BK330; clear HB; have BK330 := n0_; have HB := n1_; have BK331 := n2_; have GW331 := n3_; have GE331 := n4_; have NB330_331 := n5_; have NB331_330 := n6_; clear n0_ n1_ n2_ n3_ n4_ n5_ n6_; clear hb hbox hg; have hnb4 := NB331_330.out; have hnc4 := NB330_331.out; have hcz5_0 : w3.cell? ⟨gb331, 0, none⟩ = some (.slice none 0 0) := (blk_cell BK331.out 0).trans rfl; have hcz5_1 : w3.cell? ⟨gb331, 1, none⟩ = some (.slice none 0 0) := (blk_cell BK331.out 1).trans rfl; have hfz5_0 := blk_frozen BK331.out 0; have hfz5_1 := blk_frozen BK331.out 1))
 go_loopg [10] k (fun kq v10 w' => ∃ (x10_1 : Int) (x332000_1 : List Int) (x332001_1 : List Int) (u332000 : Value) (u332001 : Value), v10 = .int .i64 x10_1 ∧ Aside0 (spec_waOf.l0 kq l0 (l0.length : Int) x10_1 x332000_1 x332001_1 = some (r1, r2)) ∧ Aside0 (kq ≤ k) ∧ Aside0 (Kd.R (Kd.int .i64) 3 w' w.heap.size (fun k_ => some k_ ≠ (u332001 : Value).ownBlock) u332000 x332000_1) ∧ Aside0 (Kd.R (Kd.int .i64) 3 w' w.heap.size (fun k_ => some k_ ≠ (u332000 : Value).ownBlock) u332001 x332001_1) ∧ Aside0 (w'.heap[gb330]? = some (.cells #[(.slice none 0 0), (.slice none 0 0)] 24 (0, 0))) ∧ Aside0 (w'.heap[gb331]? = some (.cells #[u332000, u332001] 24 (0, 0))) ∧ Aside0 (Below w.heap.size w w'))
 case atStart => exact ⟨(0), (([] : List Int)), (([] : List Int)), (.slice none 0 0), (.slice none 0 0), (by first | rfl | (simp; done) | (simp [*]; done)), H', ⟨Nat.le_refl _⟩, ⟨by first | exact Kd.R_nil _ _ _ _ _ | exact Kd.N_nil _ _ _ _ _ | exact Kd.V_nil _ _ _ _ _ | exact Kd.Q_nil _ _ _ _ _ | exact Kd.S_nil _ _ _ _ _⟩, ⟨by first | exact Kd.R_nil _ _ _ _ _ | exact Kd.N_nil _ _ _ _ _ | exact Kd.V_nil _ _ _ _ _ | exact Kd.Q_nil _ _ _ _ _ | exact Kd.S_nil _ _ _ _ _⟩, ⟨by apply kbW; refine blk_far ?_ NB330_331.out _; apply kbW; refine blk_far ?_ NB330_331.out _; apply kbW; exact BK330.out⟩, ⟨by apply kbW; refine blk_put (cs := #[.slice none 0 0, .slice none 0 0]) ?_ 1 _ rfl; apply kbW; refine blk_put (cs := #[.slice none 0 0, .slice none 0 0]) ?_ 0 _ rfl; apply kbW; exact BK331.out⟩, ⟨by repeat (first | exact nbW HB.out | refine nbW (below_set ?_ GE330.out) | refine nbW (below_set ?_ GE331.out))⟩⟩
 case round =>
  clear H'
  try clear p2
  try clear c4
  try clear hcz5_0
  try clear hcz5_1
  try clear hfz5_0
  try clear hfz5_1
  obtain ⟨x10_1, x332000_1, x332001_1, u332000, u332001, rfl, HA, HK1, HO_332000, HO_332001, BK330, BK331, HB⟩ := hrel
  cases gk with
  | zero => exact absurd HA.out (by simp [spec_waOf.l0])
  | succ k1 =>
   have H := HA.out
   clear HA
   simp only [spec_waOf.l0] at H
   by_cases c6 : x10_1 < (l0.length : Int)
   ·rw [if_pos c6] at H
    have c6b0 := decide_eq_true c6
    clear c6
    have H' := Aside0.mk H
    clear H
    go_wp2
    go_loopg [15] k1 (fun kq v15 w' => ∃ (x15_2 : Int) (x332000_2 : List Int) (x332001_2 : List Int) (u332000 : Value) (u332001 : Value), v15 = .int .i64 x15_2 ∧ Aside0 (spec_waOf.l1 kq l0 x10_1 (l0.length : Int) x10_1 l0 (l0.length : Int) x15_2 x332000_2 x332001_2 = some (r1, r2)) ∧ Aside0 (kq ≤ k1) ∧ Aside0 (Kd.R (Kd.int .i64) 3 w' w.heap.size (fun k_ => some k_ ≠ (u332001 : Value).ownBlock) u332000 x332000_2) ∧ Aside0 (Kd.R (Kd.int .i64) 3 w' w.heap.size (fun k_ => some k_ ≠ (u332000 : Value).ownBlock) u332001 x332001_2) ∧ Aside0 (w'.heap[gb330]? = some (.cells #[(.slice none 0 0), (.slice none 0 0)] 24 (0, 0))) ∧ Aside0 (w'.heap[gb331]? = some (.cells #[u332000, u332001] 24 (0, 0))) ∧ Aside0 (Below w.heap.size w w'))
    case atStart => exact ⟨(0), (x332000_1), (x332001_1), (u332000), (u332001), (by first | rfl | (simp; done) | (simp [*]; done)), H', ⟨Nat.le_refl _⟩, ⟨by apply rbW; exact HO_332000.out⟩, ⟨by apply rbW; exact HO_332001.out⟩, ⟨by apply kbW; exact BK330.out⟩, ⟨by apply kbW; exact BK331.out⟩, ⟨by repeat (first | exact nbW HB.out | refine nbW (below_set ?_ GE330.out) | refine nbW (below_set ?_ GE331.out))⟩⟩
    case round =>
     clear H'
     try clear p2
     try clear c4
     try clear c6
     try clear c6b0
     try clear hcz5_0
     try clear hcz5_1
     try clear hfz5_0
     try clear hfz5_1
     try clear p2
     obtain ⟨x15_2, x332000_2, x332001_2, u332000, u332001, rfl, HA, HK2, HO_332000, HO_332001, BK330, BK331, HB⟩ := hrel
     cases gk with
     | zero => exact absurd HA.out (by simp [spec_waOf.l1])
     | succ k2 =>
      have H := HA.out
      clear HA
      simp only [spec_waOf.l1] at H
      by_cases c7 : x15_2 < (l0.length : Int)
      ·rw [if_pos c7] at H
       have c7b0 := decide_eq_true c7
       clear c7
       by_cases c8 : 0 ≤ x15_2
       ·rw [if_pos c8] at H
        have c8b0 := decide_eq_true c8
        clear c8
        by_cases c9 : x15_2 < (l0.length : Int)
        ·rw [if_pos c9] at H
         have c9b0 := decide_eq_true c9
         clear c9
         by_cases c10 : x10_1 = (rd l0 x15_2)
         ·rw [if_pos c10] at H
          have c10b0 : (x10_1 == (rd l0 x15_2)) = true := beq_iff_eq.mpr c10
          have c10b1 : (x10_1 != (rd l0 x15_2)) = false := bne_eq_false_iff_eq.mpr c10
          clear c10
          by_cases c11 : x332000_2.length < 17592186044416
          ·rw [if_pos c11] at H
           have LMc11 := Aside0.mk c11
           clear c11
           obtain ⟨y333, hy333⟩ : ∃ y_ : List Int, y_ = (x332000_2 ++ [wrap64 ((x332001_2.length : Int) - x10_1)]) := ⟨_, rfl⟩
           replace H : (if x332001_2.length < 17592186044416 then (spec_waOf.l1 k2 l0 x10_1 (l0.length : Int) x10_1 l0 (l0.length : Int) (wrap64 (x15_2 + 1)) y333 (x332001_2 ++ [x15_2])) else (none)) = some (r1, r2) := by first | (rw [hy333]; with_reducible exact H) | (have H2_ := (Option.bind_some _ _).symm.trans H; rw [hy333]; with_reducible exact H2_) | (have H2_ := (Option.bind_some _ _).symm.trans H; with_reducible exact H2_) | with_reducible exact H | (rw [hy333]; exact H) | exact H
           have Ny333 := Aside0.mk hy333
           clear hy333
           by_cases c12 : x332001_2.length < 17592186044416
           ·rw [if_pos c12] at H
            have LMc12 := Aside0.mk c12
            clear c12
            obtain ⟨y336, hy336⟩ : ∃ y_ : List Int, y_ = (x332001_2 ++ [x15_2]) := ⟨_, rfl⟩
            replace H : (spec_waOf.l1 k2 l0 x10_1 (l0.length : Int) x10_1 l0 (l0.length : Int) (wrap64 (x15_2 + 1)) y333 y336) = some (r1, r2) := by first | (rw [hy336]; with_reducible exact H) | (have H2_ := (Option.bind_some _ _).symm.trans H; rw [hy336]; with_reducible exact H2_) | (have H2_ := (Option.bind_some _ _).symm.trans H; with_reducible exact H2_) | with_reducible exact H | (rw [hy336]; exact H) | exact H
            have Ny336 := Aside0.mk hy336
            clear hy336
            have H' := Aside0.mk H
            clear H
            have p332 : 0 ≤ (x15_2 : Int) := of_decide_eq_true (by first | (with_reducible assumption) | assumption)
            have q332 : x15_2 < (l0.length : Int) := of_decide_eq_true (by first | (with_reducible assumption) | assumption)
            obtain ⟨ad332, e332, hx332_0⟩ := Kd.at_int HR0.out x15_2 p332 q332
            cases e332
            replace hx332_0 := (HB.out.cell (World.block_lt_of_cell? w _ hx332_0)).trans hx332_0
            replace p332 := eq_true p332
            replace q332 := eq_true q332
            have hnb13 := NB331_330.out
            have hnc13 := NB330_331.out
            have hcz14_0 : wr.cell? ⟨gb331, 0, none⟩ = some (u332000) := (blk_cell BK331.out 0).trans rfl
            have hcz14_1 : wr.cell? ⟨gb331, 1, none⟩ = some (u332001) := (blk_cell BK331.out 1).trans rfl
            have hfz14_0 := blk_frozen BK331.out 0
            have hfz14_1 := blk_frozen BK331.out 1
            obtain ⟨Ao15, co15, eo15⟩ := Kd.R_slice HO_332001.out
            subst eo15
            go_wp2_with (first | ((with_reducible refine gate_builtin (b := .append) (xs := #[.tmp 24, .tmp 30]) rfl ?_); at_builtin; refine Kd.R_append (Kd.int .i64) (w0 := w) w.heap.size rfl (.tmp 24) (.tmp 30) 22 3 (.int .i64 0) 8 rfl Tryz.underlying22 info3 rfl (by decide) (by omega) u332000 x332000_2 (wrap64 ((x332001_2.length : Int) - x10_1)) [.int .i64 (wrap64 ((x332001_2.length : Int) - x10_1))] (fun k_ => some k_ ≠ (.slice Ao15 x332001_2.length co15 : Value).ownBlock) (fun _ => False) rfl rfl ?aP (fun _ hk => hk.elim) ?aF ?aO ?aB ?aS ?aL ?_; (case aP => exact rfl); (case aB => exact (by repeat (first | exact nbW HB.out | refine nbW (below_set ?_ GE330.out) | refine nbW (below_set ?_ GE331.out)))); (case aF => exact (fun k_ hk => Kd.fresh' (Kd.R_lt (rbW HO_332001.out)) k_ hk)); (case aO => exact (rbW HO_332000.out)); (case aS => exact (below_size (by repeat (first | exact nbW HB.out | refine nbW (below_set ?_ GE330.out) | refine nbW (below_set ?_ GE331.out))))); (case aL => have := LMc11.out; omega); intro v334 w16 ho hb hg hat; rw [← Ny333.out] at ho; have n0_ := Aside0.mk (Kd.R_after (ok := (fun _ => True)) (by apply rbW; exact Kd.R_mono HO_332001.out (fun _ hk => ⟨trivial, hk⟩)) hg hat); have n1_ := Aside0.mk (blk_grown (g := gb330) (o := .cells #[.slice none 0 0, .slice none 0 0] 24 (0, 0)) (kbW BK330.out) hg (Kd.R_ne HO_332000.out BK330.out (by decide))); have n2_ := Aside0.mk (blk_grown (g := gb331) (o := .cells #[u332000, .slice Ao15 x332001_2.length co15] 24 (0, 0)) (kbW BK331.out) hg (Kd.R_ne HO_332000.out BK331.out (by decide))); have n3_ := Aside0.mk (hb); have n4_ := Aside0.mk (ho); clear HO_332001; clear BK330; clear BK331; clear HB; clear HO_332000; have HO_332001 := n0_; have BK330 := n1_; have BK331 := n2_; have HB := n3_; have HO335 := n4_; clear n0_ n1_ n2_ n3_ n4_; clear ho hb hg hat; obtain ⟨Ao17, co17, eo17⟩ := Kd.R_slice HO335.out; subst eo17; have hcz18_0 : w16.cell? ⟨gb331, 0, none⟩ = some (u332000) := (blk_cell BK331.out 0).trans rfl; have hcz18_1 : w16.cell? ⟨gb331, 1, none⟩ = some (.slice Ao15 x332001_2.length co15) := (blk_cell BK331.out 1).trans rfl; have hfz18_0 := blk_frozen BK331.out 0; have hfz18_1 := blk_frozen BK331.out 1) | ((with_reducible refine gate_builtin (b := .append) (xs := #[.tmp 34, .tmp 36]) rfl ?_); at_builtin; refine Kd.R_append (Kd.int .i64) (w0 := w) w.heap.size rfl (.tmp 34) (.tmp 36) 22 3 (.int .i64 0) 8 rfl Tryz.underlying22 info3 rfl (by decide) (by omega) (.slice Ao15 x332001_2.length co15) x332001_2 x15_2 [.int .i64 x15_2] (fun k_ => some k_ ≠ (.slice Ao17 y333.length co17 : Value).ownBlock) (fun _ => False) rfl (by first | (go_simp; done) | (go_simp; rfl)) ?aP (fun _ hk => hk.elim) ?aF ?aO ?aB ?aS ?aL ?_; (case aP => exact rfl); (case aB => exact (by repeat (first | exact nbW HB.out | refine nbW (below_set ?_ GE330.out) | refine nbW (below_set ?_ GE331.out)))); (case aF => exact (fun k_ hk => Kd.fresh' (Kd.R_lt (by apply rbW; exact (Kd.R_mono (Kd.R_far (p := ⟨gb331, 0, none⟩) (Kd.R_types HO335.out BK331.out (by decide)) (fun _ hk => hk.2) (.slice Ao17 y333.length co17)) (fun _ h_ => h_.1)))) k_ hk)); (case aO => exact (by apply rbW; exact Kd.R_mono (Kd.R_far (p := ⟨gb331, 0, none⟩) (Kd.R_types HO_332001.out BK331.out (by decide)) (fun _ hk => hk.2) (.slice Ao17 y333.length co17)) (fun _ hk => hk.1.2))); (case aS => exact (below_size (by repeat (first | exact nbW HB.out | refine nbW (below_set ?_ GE330.out) | refine nbW (below_set ?_ GE331.out))))); (case aL => have := LMc12.out; omega); intro v337 w19 ho hb hg hat; rw [← Ny336.out] at ho; have n0_ := Aside0.mk (blk_grown (g := gb330) (o := .cells #[.slice none 0 0, .slice none 0 0] 24 (0, 0)) (by apply kbW; refine blk_far ?_ NB330_331.out _; apply kbW; exact BK330.out) hg (Kd.R_ne HO_332001.out BK330.out (by decide))); have n1_ := Aside0.mk (blk_grown (g := gb331) (o := .cells #[.slice Ao17 y333.length co17, .slice Ao15 x332001_2.length co15] 24 (0, 0)) (by apply kbW; refine blk_put (cs := #[u332000, .slice Ao15 x332001_2.length co15]) ?_ 0 _ rfl; apply kbW; exact BK331.out) hg (Kd.R_ne HO_332001.out BK331.out (by decide))); have n2_ := Aside0.mk (Kd.R_after (ok := (fun _ => True)) (by apply rbW; exact Kd.R_mono (Kd.R_far (p := ⟨gb331, 0, none⟩) (Kd.R_types HO335.out BK331.out (by decide)) (fun _ hk => hk.2) (.slice Ao17 y333.length co17)) (fun _ hk => ⟨trivial, hk.1⟩)) hg hat); have n3_ := Aside0.mk (hb); have n4_ := Aside0.mk (ho); clear BK330; clear BK331; clear HO335; clear HB; clear HO_332001; have BK330 := n0_; have BK331 := n1_; have HO335 := n2_; have HB := n3_; have HO338 := n4_; clear n0_ n1_ n2_ n3_ n4_; clear ho hb hg hat; obtain ⟨Ao20, co20, eo20⟩ := Kd.R_slice HO338.out; subst eo20; have hcz21_0 : w19.cell? ⟨gb331, 0, none⟩ = some (.slice Ao17 y333.length co17) := (blk_cell BK331.out 0).trans rfl; have hcz21_1 : w19.cell? ⟨gb331, 1, none⟩ = some (.slice Ao15 x332001_2.length co15) := (blk_cell BK331.out 1).trans rfl; have hfz21_0 := blk_frozen BK331.out 0; have hfz21_1 := blk_frozen BK331.out 1))
            go_roundg k2
            case measure => have := HK1.out; have := HK2.out; omega
            case rel => exact ⟨(wrap64 (x15_2 + 1)), (y333), (y336), (.slice Ao17 y333.length co17), (.slice Ao20 y336.length co20), (by first | rfl | (simp; done) | (simp [*]; done)), H', ⟨by have := HK1.out; have := HK2.out; omega⟩, ⟨by apply rbW; exact Kd.R_mono (Kd.R_far (p := ⟨gb331, 1, none⟩) (Kd.R_types HO335.out BK331.out (by decide)) (fun _ hk => hk.2) (.slice Ao20 y336.length co20)) (fun _ hk => hk.1.2)⟩, ⟨by apply rbW; exact Kd.R_mono (Kd.R_far (p := ⟨gb331, 1, none⟩) (Kd.R_types HO338.out BK331.out (by decide)) (fun _ hk => hk.2) (.slice Ao20 y336.length co20)) (fun _ hk => hk.1)⟩, ⟨by apply kbW; refine blk_far ?_ NB330_331.out _; apply kbW; exact BK330.out⟩, ⟨by apply kbW; refine blk_put (cs := #[.slice Ao17 y333.length co17, .slice Ao15 x332001_2.length co15]) ?_ 1 _ rfl; apply kbW; exact BK331.out⟩, ⟨by repeat (first | exact nbW HB.out | refine nbW (below_set ?_ GE330.out) | refine nbW (below_set ?_ GE331.out))⟩⟩
           ·rw [if_neg c12] at H
            exact absurd H (by simp)
          ·rw [if_neg c11] at H
           exact absurd H (by simp)
         ·rw [if_neg c10] at H
          have c10b0 : (x10_1 == (rd l0 x15_2)) = false := beq_eq_false_iff_ne.mpr c10
          have c10b1 : (x10_1 != (rd l0 x15_2)) = true := bne_iff_ne.mpr c10
          have H' := Aside0.mk H
          clear H
          have p332 : 0 ≤ (x15_2 : Int) := of_decide_eq_true (by first | (with_reducible assumption) | assumption)
          have q332 : x15_2 < (l0.length : Int) := of_decide_eq_true (by first | (with_reducible assumption) | assumption)
          obtain ⟨ad332, e332, hx332_0⟩ := Kd.at_int HR0.out x15_2 p332 q332
          cases e332
          replace hx332_0 := (HB.out.cell (World.block_lt_of_cell? w _ hx332_0)).trans hx332_0
          replace p332 := eq_true p332
          replace q332 := eq_true q332
          go_wp2
          go_roundg k2
          case measure => have := HK1.out; have := HK2.out; omega
          case rel => exact ⟨(wrap64 (x15_2 + 1)), (x332000_2), (x332001_2), (u332000), (u332001), (by first | rfl | (simp; done) | (simp [*]; done)), H', ⟨by have := HK1.out; have := HK2.out; omega⟩, ⟨by apply rbW; exact HO_332000.out⟩, ⟨by apply rbW; exact HO_332001.out⟩, ⟨by apply kbW; exact BK330.out⟩, ⟨by apply kbW; exact BK331.out⟩, ⟨by repeat (first | exact nbW HB.out | refine nbW (below_set ?_ GE330.out) | refine nbW (below_set ?_ GE331.out))⟩⟩
        ·rw [if_neg c9] at H
         exact absurd H (by simp)
       ·rw [if_neg c8] at H
        exact absurd H (by simp)
      ·rw [if_neg c7] at H
       have c7b0 := decide_eq_false c7
       clear c7
       have H' := Aside0.mk H
       clear H
       go_wp2
       go_roundg k2
       case measure => have := HK1.out; have := HK2.out; omega
       case rel => exact ⟨(wrap64 (x10_1 + 1)), (x332000_2), (x332001_2), (u332000), (u332001), (by first | rfl | (simp; done) | (simp [*]; done)), H', ⟨by have := HK1.out; have := HK2.out; omega⟩, ⟨by apply rbW; exact HO_332000.out⟩, ⟨by apply rbW; exact HO_332001.out⟩, ⟨by apply kbW; exact BK330.out⟩, ⟨by apply kbW; exact BK331.out⟩, ⟨by repeat (first | exact nbW HB.out | refine nbW (below_set ?_ GE330.out) | refine nbW (below_set ?_ GE331.out))⟩⟩
   ·rw [if_neg c6] at H
    have c6b0 := decide_eq_false c6
    clear c6
    simp only [Option.some.injEq, Prod.mk.injEq] at H
    obtain ⟨rfl, rfl⟩ := H
    have hnb22 := NB331_330.out
    have hnc22 := NB330_331.out
    have hcz23_0 : wr.cell? ⟨gb331, 0, none⟩ = some (u332000) := (blk_cell BK331.out 0).trans rfl
    have hcz23_1 : wr.cell? ⟨gb331, 1, none⟩ = some (u332001) := (blk_cell BK331.out 1).trans rfl
    have hfz23_0 := blk_frozen BK331.out 0
    have hfz23_1 := blk_frozen BK331.out 1
    obtain ⟨Ao24, co24, eo24⟩ := Kd.R_slice HO_332000.out
    subst eo24
    have hcz25_0 : wr.cell? ⟨gb330, 0, none⟩ = some (.slice none 0 0) := (blk_cell BK330.out 0).trans rfl
    have hcz25_1 : wr.cell? ⟨gb330, 1, none⟩ = some (.slice none 0 0) := (blk_cell BK330.out 1).trans rfl
    have hfz25_0 := blk_frozen BK330.out 0
    have hfz25_1 := blk_frozen BK330.out 1
    obtain ⟨Ao26, co26, eo26⟩ := Kd.R_slice HO_332001.out
    subst eo26
    go_wp2
    refine bodyPost_ret (results_cell_row rfl _ _ gb330 24 #[.slice Ao24 x332000_1.length co24, .slice Ao26 x332001_1.length co26] (0, 0) _ rfl (by apply kbW; refine blk_put (cs := #[.slice Ao24 x332000_1.length co24, .slice none 0 0]) ?_ 1 _ rfl; apply kbW; refine blk_put (cs := #[.slice none 0 0, .slice none 0 0]) ?_ 0 _ rfl; apply kbW; exact BK330.out) Tryz.underlying24 rfl (by kernel_rfl)) rfl ?_
    exact ⟨_, _, by first | rfl | (simp [errW_none, errW_some] <;> rfl) | (simp [*, errW_none, errW_some] <;> rfl), by apply rbW; exact Kd.R_mono (Kd.R_far (p := ⟨gb330, 1, none⟩) (Kd.R_far (p := ⟨gb330, 0, none⟩) (Kd.R_types HO_332000.out BK330.out (by decide)) (fun _ hk => hk.2) (.slice Ao24 x332000_1.length co24)) (fun _ hk => hk.2) (.slice Ao26 x332001_1.length co26)) (fun _ hk => hk.1), by apply rbW; exact Kd.R_mono (Kd.R_far (p := ⟨gb330, 1, none⟩) (Kd.R_far (p := ⟨gb330, 0, none⟩) (Kd.R_types HO_332001.out BK330.out (by decide)) (fun _ hk => hk.2) (.slice Ao24 x332000_1.length co24)) (fun _ hk => hk.2) (.slice Ao26 x332001_1.length co26)) (fun _ hk => hk.1), by repeat (first | exact nbW HB.out | refine nbW (below_set ?_ GE330.out) | refine nbW (below_set ?_ GE331.out))⟩

/-! ### spec_l1Cur_walk: function 69 -/
def spec_l1Cur_walk.f (k : Nat) (s0_0 : List Int) (s0_1 : Int) (s0_2 : Int) (a1 : Int) : Option (List Int × List Int × Int × Int) := (spec_l1Cur_park.f k s0_0 s0_1 s0_2 a1).bind fun bt340 => ((spec_paParking.f k bt340.1).bind fun t345 => (if t345 = true then ((spec_waOf.f k bt340.1).bind fun bt351 => ((spec_l1Cur_pick.f s0_0 bt340.2.1 bt340.2.2 14).bind fun bt358 => (if bt358.1 = 0 then (if (bt351.2.length : Int) > 1 then ((spec_l1Cur_pick.f s0_0 bt358.2.1 bt358.2.2 (wrap64 ((bt351.2.length : Int) - 1))).bind fun bt361 => (if 0 ≤ bt361.1 then (if bt361.1 < (bt351.2.length : Int) then (if 0 ≤ (wrap64 (bt361.1 + 1)) then (if (wrap64 (bt361.1 + 1)) < (bt351.2.length : Int) then (some (bt351.1, ((bt351.2.set (bt361.1 : Int).toNat (rd bt351.2 (wrap64 (bt361.1 + 1)))).set ((wrap64 (bt361.1 + 1)) : Int).toNat (rd bt351.2 bt361.1)), bt361.2.1, bt361.2.2)) else (none)) else (none)) else (none)) else (none))) else (some (bt351.1, bt351.2, bt358.2.1, bt358.2.2))) else (if bt358.1 = 1 then (if bt351.2.length < 17592186044416 then (some (bt351.1, (bt351.2 ++ [(bt351.2.length : Int)]), bt358.2.1, bt358.2.2)) else (none)) else (some (bt351.1, bt351.2, bt358.2.1, bt358.2.2)))))) else ((spec_l1Cur_heights.f k s0_0 bt340.2.1 bt340.2.2 a1).bind fun bt346 => (some (bt346.1, bt340.1, bt346.2.1, bt346.2.2)))))
theorem spec_l1Cur_walk.mono : ∀ a0 a1 a2 a3 k, LeO (spec_l1Cur_walk.f k a0 a1 a2 a3) (spec_l1Cur_walk.f (k + 1) a0 a1 a2 a3) := by
 intro a0 a1 a2 a3 k
 unfold spec_l1Cur_walk.f
 repeat' first | (with_reducible first | exact spec_l1Cur_heights.mono _ _ _ _ _ | exact spec_l1Cur_park.mono _ _ _ _ _ | exact spec_paParking.mono _ _ | exact spec_waOf.mono _ _ | exact LeO.refl _ | exact LeO.none _ | refine LeO.ite ?_ ?_ | refine LeO.bind ?_ (fun _ => ?_)) | exact LeO.none _ | refine LeO.ite ?_ ?_ | refine LeO.bind ?_ (fun _ => ?_)
set_option maxHeartbeats 8000000 in
set_option maxRecDepth 100000 in
theorem spec_l1Cur_walk.calls (k : Nat) (g : Nat) (s0_0 : List Int) (s0_1 : Int) (s0_2 : Int) (a1 : Int) (r1 : List Int) (r2 : List Int) (r3 : Int) (r4 : Int) (w0 w : World) (hI : IsS64 w0 w g s0_0 s0_1 s0_2) (hB : Below w0.heap.size w0 w) (h : spec_l1Cur_walk.f k s0_0 s0_1 s0_2 a1 = some (r1, r2, r3, r4)) :
  Calls Tryz.prog 69 #[.pointer (some ⟨g, 0, none⟩), .int .i64 a1] w fun e w' => ∃ v0_ v1_ : Value, e = .returned (.agg #[v0_, v1_]) ∧ Kd.R (Kd.int .i64) 3 w' w.heap.size (fun k_ => some k_ ≠ (v1_ : Value).ownBlock) v0_ r1 ∧ Kd.R (Kd.int .i64) 3 w' w.heap.size (fun k_ => some k_ ≠ (v0_ : Value).ownBlock) v1_ r2 ∧ IsS64 w0 w' g s0_0 r3 r4 ∧ Below w0.heap.size w0 w' ∧ KeepBut w w' g none := by
 have hu24 := Tryz.underlying24
 have HI0 := Aside0.mk hI
 have HK := Aside0.mk (KeepBut.refl w g none)
 have HL := Aside0.mk hB.size
 clear hI
 have HW0 := Aside0.mk hB.size
 have HB := Aside0.mk hB
 clear hB
 have H : ((spec_l1Cur_park.f k s0_0 s0_1 s0_2 a1).bind fun bt340 => ((spec_paParking.f k bt340.1).bind fun t345 => (if t345 = true then ((spec_waOf.f k bt340.1).bind fun bt351 => ((spec_l1Cur_pick.f s0_0 bt340.2.1 bt340.2.2 14).bind fun bt358 => (if bt358.1 = 0 then (if (bt351.2.length : Int) > 1 then ((spec_l1Cur_pick.f s0_0 bt358.2.1 bt358.2.2 (wrap64 ((bt351.2.length : Int) - 1))).bind fun bt361 => (if 0 ≤ bt361.1 then (if bt361.1 < (bt351.2.length : Int) then (if 0 ≤ (wrap64 (bt361.1 + 1)) then (if (wrap64 (bt361.1 + 1)) < (bt351.2.length : Int) then (some (bt351.1, ((bt351.2.set (bt361.1 : Int).toNat (rd bt351.2 (wrap64 (bt361.1 + 1)))).set ((wrap64 (bt361.1 + 1)) : Int).toNat (rd bt351.2 bt361.1)), bt361.2.1, bt361.2.2)) else (none)) else (none)) else (none)) else (none))) else (some (bt351.1, bt351.2, bt358.2.1, bt358.2.2))) else (if bt358.1 = 1 then (if bt351.2.length < 17592186044416 then (some (bt351.1, (bt351.2 ++ [(bt351.2.length : Int)]), bt358.2.1, bt358.2.2)) else (none)) else (some (bt351.1, bt351.2, bt358.2.1, bt358.2.2)))))) else ((spec_l1Cur_heights.f k s0_0 bt340.2.1 bt340.2.2 a1).bind fun bt346 => (some (bt346.1, bt340.1, bt346.2.1, bt346.2.2)))))) = some (r1, r2, r3, r4) := h
 clear h
 replace H := Option.bind_eq_some_iff.mp H
 obtain ⟨⟨t340, t343, t344⟩, A30, H⟩ := H
 (try dsimp -simprocs only at H)
 have A3 := Aside0.mk A30
 clear A30
 replace H := Option.bind_eq_some_iff.mp H
 obtain ⟨t345, A40, H⟩ := H
 (try dsimp -simprocs only at H)
 have A4 := Aside0.mk A40
 clear A40
 by_cases c5 : t345 = true
 ·subst c5
  rw [if_pos rfl] at H
  replace H := Option.bind_eq_some_iff.mp H
  obtain ⟨⟨t351, t354⟩, A60, H⟩ := H
  (try dsimp -simprocs only at H)
  have A6 := Aside0.mk A60
  clear A60
  replace H := Option.bind_eq_some_iff.mp H
  obtain ⟨⟨t358, t359, t360⟩, A70, H⟩ := H
  (try dsimp -simprocs only at H)
  have A7 := Aside0.mk A70
  clear A70
  by_cases c8 : t358 = 0
  ·rw [if_pos c8] at H
   have c8b0 : (t358 == 0) = true := beq_iff_eq.mpr c8
   have c8b1 : (t358 != 0) = false := bne_eq_false_iff_eq.mpr c8
   clear c8
   by_cases c9 : (t354.length : Int) > 1
   ·rw [if_pos c9] at H
    have c9b0 := decide_eq_true c9
    have c9b1 : decide (1 < t354.length) = true := decide_eq_true (by omega)
    clear c9
    replace H := Option.bind_eq_some_iff.mp H
    obtain ⟨⟨t361, t362, t363⟩, A100, H⟩ := H
    (try dsimp -simprocs only at H)
    have A10 := Aside0.mk A100
    clear A100
    by_cases c11 : 0 ≤ t361
    ·rw [if_pos c11] at H
     have c11b0 := decide_eq_true c11
     clear c11
     by_cases c12 : t361 < (t354.length : Int)
     ·rw [if_pos c12] at H
      have c12b0 := decide_eq_true c12
      clear c12
      obtain ⟨ji13, hji13⟩ : ∃ j_ : Int, (wrap64 (t361 + 1)) = j_ := ⟨_, rfl⟩
      replace H : (if 0 ≤ (ji13) then (if (ji13) < (t354.length : Int) then (some (t351, ((t354.set (t361 : Int).toNat (rd t354 (ji13))).set ((ji13) : Int).toNat (rd t354 t361)), t362, t363)) else (none)) else (none)) = some (r1, r2, r3, r4) := by first | (rw [hji13] at H; exact H) | (simp only [hji13] at H ⊢; exact H)
      (try rw [hji13] at A3)
      (try rw [hji13] at A4)
      (try rw [hji13] at A6)
      (try rw [hji13] at A7)
      (try rw [hji13] at A10)
      have hji13w : (IntKind.i64.wrap (t361 + 1)) = ji13 := (i64_w _).trans hji13
      by_cases c14 : 0 ≤ (ji13)
      ·rw [if_pos c14] at H
       have c14b0 := decide_eq_true c14
       clear c14
       by_cases c15 : (ji13) < (t354.length : Int)
       ·rw [if_pos c15] at H
        have c15b0 := decide_eq_true c15
        clear c15
        obtain ⟨y366, hy366⟩ : ∃ y_ : List Int, y_ = (t354.set (t361 : Int).toNat (rd t354 (ji13))) := ⟨_, rfl⟩
        replace H : (some (t351, (y366.set ((ji13) : Int).toNat (rd t354 t361)), t362, t363)) = some (r1, r2, r3, r4) := by first | (rw [hy366]; with_reducible exact H) | (have H2_ := (Option.bind_some _ _).symm.trans H; rw [hy366]; with_reducible exact H2_) | (have H2_ := (Option.bind_some _ _).symm.trans H; with_reducible exact H2_) | with_reducible exact H | (rw [hy366]; exact H) | exact H
        have Ny366 := Aside0.mk hy366
        clear hy366
        obtain ⟨y367, hy367⟩ : ∃ y_ : List Int, y_ = (y366.set ((ji13) : Int).toNat (rd t354 t361)) := ⟨_, rfl⟩
        replace H : (some (t351, y367, t362, t363)) = some (r1, r2, r3, r4) := by first | (rw [hy367]; with_reducible exact H) | (have H2_ := (Option.bind_some _ _).symm.trans H; rw [hy367]; with_reducible exact H2_) | (have H2_ := (Option.bind_some _ _).symm.trans H; with_reducible exact H2_) | with_reducible exact H | (rw [hy367]; exact H) | exact H
        have Ny367 := Aside0.mk hy367
        clear hy367
        simp only [Option.some.injEq, Prod.mk.injEq] at H
        obtain ⟨rfl, rfl, rfl, rfl⟩ := H
        go_enter Tryz.func69, Tryz.ntmps69
        go_wp2_with (first | ((with_reducible refine gate_dst (N := 4) rfl ?_); refine box_event ?hg (N := 4) ?hd (cs := #[.slice none 0 0, .slice none 0 0]) (t := 24) ?hr ?_; (case hd => rfl); (case hg => rfl); (case hr => first | (go_simp; done) | (go_simp; rfl)); intro gb339 hg w18 hbox hb; have n0_ := Aside0.mk (IsS64.below (by repeat (first | exact isW64 HI0.out | refine isW64 (IsS64.set_1 ?_ _) | refine isW64 (IsS64.set_2 ?_ _))) hb); have n1_ := Aside0.mk (KeepBut.trans (by repeat (first | exact kpW HK.out | refine kpW (KeepBut.set_ ?_ _ _))) (KeepBut.of_below hb g none) (.inl rfl)); have n2_ := Aside0.mk (below_step (by repeat (first | exact nbW HB.out | refine nbW (below_set ?_ (IsS64.ge HI0.out)))) hb); have n3_ := Aside0.mk (hbox); have n4_ := Aside0.mk ((by rw [hg]; exact (keep_size (w := w) (g := g) (row := none) (by repeat (first | exact kpW HK.out | refine kpW (KeepBut.set_ ?_ _ _)))) : w.heap.size ≤ gb339)); have n5_ := Aside0.mk ((Nat.le_trans HW0.out (by rw [hg]; exact (keep_size (w := w) (g := g) (row := none) (by repeat (first | exact kpW HK.out | refine kpW (KeepBut.set_ ?_ _ _)))) : w.heap.size ≤ gb339) : w0.heap.size ≤ gb339)); have n6_ := Aside0.mk ((by rw [hg]; exact Nat.ne_of_lt (IsS64.lt (show IsS64 w0 _ g s0_0 s0_1 s0_2 from by repeat (first | exact isW64 HI0.out | refine isW64 (IsS64.set_1 ?_ _) | refine isW64 (IsS64.set_2 ?_ _)))) : g ≠ gb339)); have n7_ := Aside0.mk ((by rw [hg]; exact Nat.ne_of_gt (IsS64.lt (show IsS64 w0 _ g s0_0 s0_1 s0_2 from by repeat (first | exact isW64 HI0.out | refine isW64 (IsS64.set_1 ?_ _) | refine isW64 (IsS64.set_2 ?_ _)))) : gb339 ≠ g)); clear HI0; clear HK; clear HB; have HI0 := n0_; have HK := n1_; have HB := n2_; have BK339 := n3_; have GW339 := n4_; have GE339 := n5_; have NB0_339 := n6_; have NB339_0 := n7_; clear n0_ n1_ n2_ n3_ n4_ n5_ n6_ n7_; clear hb hbox hg) | (go_at_call 94; (with_reducible refine (spec_l1Cur_park.calls k g s0_0 s0_1 s0_2 a1 t340 t343 t344 w0 _ ?side1 ?side2 A3.out).mono ?_); (case side1 => repeat (first | exact isW64 HI0.out | refine isW64 (IsS64.set_1 ?_ _) | refine isW64 (IsS64.set_2 ?_ _) | refine isW64 (IsS64.far ?_ NB0_339.out _))); (case side2 => repeat (first | exact nbW HB.out | refine nbW (below_set ?_ (IsS64.ge HI0.out)) | refine nbW (below_set ?_ GE339.out))); rintro e w19 ⟨v341, rfl, ho0, hi, hb, hk⟩; have n0_ := Aside0.mk (KeepBut.blk hk (g' := gb339) (o := .cells #[.slice none 0 0, .slice none 0 0] 24 (0, 0)) (kbW BK339.out) NB339_0.out (by simp)); have n1_ := Aside0.mk (Kd.R_lower ho0 (keep_size (w := w) (g := g) (row := none) (by repeat (first | exact kpW HK.out | refine kpW (KeepBut.set_ ?_ _ _) | refine kpW (keep_far ?_ GW339.out _))))); have n2_ := Aside0.mk (KeepBut.trans (by repeat (first | exact kpW HK.out | refine kpW (KeepBut.set_ ?_ _ _) | refine kpW (keep_far ?_ GW339.out _))) hk (.inl rfl)); have n3_ := Aside0.mk (hb); have n4_ := Aside0.mk (hi); clear BK339; clear HK; clear HB; clear HI0; have BK339 := n0_; have HO342 := n1_; have HK := n2_; have HB := n3_; have HI0 := n4_; clear n0_ n1_ n2_ n3_ n4_; (try clear hb); (try clear hb2); (try clear hk); (try clear hi); (try clear ho0); obtain ⟨Ao20, co20, eo20⟩ := Kd.R_slice HO342.out; subst eo20) | (go_at_call 95; (with_reducible refine (spec_paParking.calls k _ _ t340 true _ ?side1 ?side2 A4.out).mono ?_); (case side1 => exact cbW (Kd.R_reads' HO342.out).2.2); (case side2 => exact (Kd.R_reads' HO342.out).2.1); rintro e w21 ⟨rfl, hb⟩; have n0_ := Aside0.mk (Kd.R_below (rbW HO342.out) hb); have n1_ := Aside0.mk (IsS64.below (by repeat (first | exact isW64 HI0.out | refine isW64 (IsS64.set_1 ?_ _) | refine isW64 (IsS64.set_2 ?_ _) | refine isW64 (IsS64.far ?_ NB0_339.out _))) hb); have n2_ := Aside0.mk (blk_below (kbW BK339.out) hb); have n3_ := Aside0.mk (KeepBut.trans (by repeat (first | exact kpW HK.out | refine kpW (KeepBut.set_ ?_ _ _) | refine kpW (keep_far ?_ GW339.out _))) (KeepBut.of_below hb g none) (.inl rfl)); have n4_ := Aside0.mk (below_step (by repeat (first | exact nbW HB.out | refine nbW (below_set ?_ (IsS64.ge HI0.out)) | refine nbW (below_set ?_ GE339.out))) hb); clear HO342; clear HI0; clear BK339; clear HK; clear HB; have HO342 := n0_; have HI0 := n1_; have BK339 := n2_; have HK := n3_; have HB := n4_; clear n0_ n1_ n2_ n3_ n4_; (try clear hb); (try clear hb2); (try clear hk); (try clear hi)) | (go_at_call 96; (with_reducible refine (spec_waOf.calls k _ _ t340 t351 t354 _ ?side1 ?side2 A6.out).mono ?_); (case side1 => exact cbW (Kd.R_reads' HO342.out).2.2); (case side2 => exact (Kd.R_reads' HO342.out).2.1); rintro e w22 ⟨v352, v355, rfl, ho0, ho1, hb⟩; have n0_ := Aside0.mk (Kd.R_mono (Kd.R_told (Kd.R_told (Kd.R_old (rbW HO342.out) hb) (Kd.R_base ho0)) (Kd.R_base ho1)) (fun _ h_ => h_.1)); have n1_ := Aside0.mk (Kd.R_lower (Kd.R_new' ho0 (Kd.R_lt (rbW HO342.out))) (keep_size (w := w) (g := g) (row := none) (by repeat (first | exact kpW HK.out | refine kpW (KeepBut.set_ ?_ _ _) | refine kpW (keep_far ?_ GW339.out _))))); have n2_ := Aside0.mk (Kd.R_lower (Kd.R_new' ho1 (Kd.R_lt (rbW HO342.out))) (keep_size (w := w) (g := g) (row := none) (by repeat (first | exact kpW HK.out | refine kpW (KeepBut.set_ ?_ _ _) | refine kpW (keep_far ?_ GW339.out _))))); have n3_ := Aside0.mk (IsS64.below (by repeat (first | exact isW64 HI0.out | refine isW64 (IsS64.set_1 ?_ _) | refine isW64 (IsS64.set_2 ?_ _) | refine isW64 (IsS64.far ?_ NB0_339.out _))) hb); have n4_ := Aside0.mk (blk_below (kbW BK339.out) hb); have n5_ := Aside0.mk (KeepBut.trans (by repeat (first | exact kpW HK.out | refine kpW (KeepBut.set_ ?_ _ _) | refine kpW (keep_far ?_ GW339.out _))) (KeepBut.of_below hb g none) (.inl rfl)); have n6_ := Aside0.mk (below_step (by repeat (first | exact nbW HB.out | refine nbW (below_set ?_ (IsS64.ge HI0.out)) | refine nbW (below_set ?_ GE339.out))) hb); clear HO342; clear HI0; clear BK339; clear HK; clear HB; have HO342 := n0_; have HO353 := n1_; have HO356 := n2_; have HI0 := n3_; have BK339 := n4_; have HK := n5_; have HB := n6_; clear n0_ n1_ n2_ n3_ n4_ n5_ n6_; (try clear hb); (try clear hb2); (try clear hk); (try clear hi); (try clear ho0); (try clear ho1)) | ((with_reducible refine gate_dst (N := 6) rfl ?_); refine box_event ?hg (N := 6) ?hd (cs := #[.slice none 0 0, .slice none 0 0]) (t := 24) ?hr ?_; (case hd => rfl); (case hg => rfl); (case hr => first | (go_simp; done) | (go_simp; rfl)); intro gb357 hg w23 hbox hb; have n0_ := Aside0.mk (Kd.R_below (rbW HO342.out) hb); have n1_ := Aside0.mk (Kd.R_below (rbW HO353.out) hb); have n2_ := Aside0.mk (Kd.R_below (rbW HO356.out) hb); have n3_ := Aside0.mk (IsS64.below (by repeat (first | exact isW64 HI0.out | refine isW64 (IsS64.set_1 ?_ _) | refine isW64 (IsS64.set_2 ?_ _) | refine isW64 (IsS64.far ?_ NB0_339.out _))) hb); have n4_ := Aside0.mk (blk_below (kbW BK339.out) hb); have n5_ := Aside0.mk (KeepBut.trans (by repeat (first | exact kpW HK.out | refine kpW (KeepBut.set_ ?_ _ _) | refine kpW (keep_far ?_ GW339.out _))) (KeepBut.of_below hb g none) (.inl rfl)); have n6_ := Aside0.mk (below_step (by repeat (first | exact nbW HB.out | refine nbW (below_set ?_ (IsS64.ge HI0.out)) | refine nbW (below_set ?_ GE339.out))) hb); have n7_ := Aside0.mk (hbox); have n8_ := Aside0.mk ((by rw [hg]; exact (keep_size (w := w) (g := g) (row := none) (by repeat (first | exact kpW HK.out | refine kpW (KeepBut.set_ ?_ _ _) | refine kpW (keep_far ?_ GW339.out _)))) : w.heap.size ≤ gb357)); have n9_ := Aside0.mk ((Nat.le_trans HW0.out (by rw [hg]; exact (keep_size (w := w) (g := g) (row := none) (by repeat (first | exact kpW HK.out | refine kpW (KeepBut.set_ ?_ _ _) | refine kpW (keep_far ?_ GW339.out _)))) : w.heap.size ≤ gb357) : w0.heap.size ≤ gb357)); have n10_ := Aside0.mk ((by rw [hg]; exact Nat.ne_of_lt (blk_lt (g := gb339) (o := .cells #[.slice none 0 0, .slice none 0 0] 24 (0, 0)) (kbW BK339.out)) : gb339 ≠ gb357)); have n11_ := Aside0.mk ((by rw [hg]; exact Nat.ne_of_gt (blk_lt (g := gb339) (o := .cells #[.slice none 0 0, .slice none 0 0] 24 (0, 0)) (kbW BK339.out)) : gb357 ≠ gb339)); have n12_ := Aside0.mk ((by rw [hg]; exact Nat.ne_of_lt (IsS64.lt (show IsS64 w0 _ g s0_0 t343 t344 from by repeat (first | exact isW64 HI0.out | refine isW64 (IsS64.set_1 ?_ _) | refine isW64 (IsS64.set_2 ?_ _) | refine isW64 (IsS64.far ?_ NB0_339.out _)))) : g ≠ gb357)); have n13_ := Aside0.mk ((by rw [hg]; exact Nat.ne_of_gt (IsS64.lt (show IsS64 w0 _ g s0_0 t343 t344 from by repeat (first | exact isW64 HI0.out | refine isW64 (IsS64.set_1 ?_ _) | refine isW64 (IsS64.set_2 ?_ _) | refine isW64 (IsS64.far ?_ NB0_339.out _)))) : gb357 ≠ g)); clear HO342; clear HO353; clear HO356; clear HI0; clear BK339; clear HK; clear HB; have HO342 := n0_; have HO353 := n1_; have HO356 := n2_; have HI0 := n3_; have BK339 := n4_; have HK := n5_; have HB := n6_; have BK357 := n7_; have GW357 := n8_; have GE357 := n9_; have NB339_357 := n10_; have NB357_339 := n11_; have NB0_357 := n12_; have NB357_0 := n13_; clear n0_ n1_ n2_ n3_ n4_ n5_ n6_ n7_ n8_ n9_ n10_ n11_ n12_ n13_; clear hb hbox hg; obtain ⟨Ao24, co24, eo24⟩ := Kd.R_slice HO353.out; subst eo24; have hnb25 := NB357_339.out; have hnc25 := NB339_357.out; have hnb26 := NB357_0.out; have hnc26 := NB0_357.out; have hcz27_0 : w23.cell? ⟨gb357, 0, none⟩ = some (.slice none 0 0) := (blk_cell BK357.out 0).trans rfl; have hcz27_1 : w23.cell? ⟨gb357, 1, none⟩ = some (.slice none 0 0) := (blk_cell BK357.out 1).trans rfl; have hfz27_0 := blk_frozen BK357.out 0; have hfz27_1 := blk_frozen BK357.out 1; obtain ⟨Ao28, co28, eo28⟩ := Kd.R_slice HO356.out; subst eo28) | (go_at_call 51; (with_reducible refine (spec_l1Cur_pick.calls g s0_0 t343 t344 14 t358 t359 t360 w0 _ ?side1 ?side2 A7.out).mono ?_); (case side1 => repeat (first | exact isW64 HI0.out | refine isW64 (IsS64.set_1 ?_ _) | refine isW64 (IsS64.set_2 ?_ _) | refine isW64 (IsS64.far ?_ NB0_339.out _) | refine isW64 (IsS64.far ?_ NB0_357.out _))); (case side2 => repeat (first | exact nbW HB.out | refine nbW (below_set ?_ (IsS64.ge HI0.out)) | refine nbW (below_set ?_ GE339.out) | refine nbW (below_set ?_ GE357.out))); rintro e w29 ⟨rfl, hi, hb, hk⟩; have n0_ := Aside0.mk (KeepBut.blk hk (g' := gb339) (o := .cells #[.slice none 0 0, .slice none 0 0] 24 (0, 0)) (by apply kbW; refine blk_far ?_ NB339_357.out _; apply kbW; refine blk_far ?_ NB339_357.out _; apply kbW; exact BK339.out) NB339_0.out (by simp)); have n1_ := Aside0.mk (Kd.R_mono (Kd.R_keep (IsS64.apart (show IsS64 w0 _ g s0_0 t343 t344 from by repeat (first | exact isW64 HI0.out | refine isW64 (IsS64.set_1 ?_ _) | refine isW64 (IsS64.set_2 ?_ _) | refine isW64 (IsS64.far ?_ NB0_339.out _) | refine isW64 (IsS64.far ?_ NB0_357.out _))) (by apply rbW; exact (Kd.R_mono (Kd.R_far (p := ⟨gb357, 1, none⟩) (Kd.R_far (p := ⟨gb357, 0, none⟩) (Kd.R_types HO342.out BK357.out (by decide)) (fun _ hk => hk.2) (.slice Ao24 t351.length co24)) (fun _ hk => hk.2) (.slice Ao28 t354.length co28)) (fun _ h_ => h_.1))) (by decide)) hk (fun _ h => h.2)) (fun _ h => h.1)); have n2_ := Aside0.mk (Kd.R_mono (Kd.R_keep (IsS64.apart (show IsS64 w0 _ g s0_0 t343 t344 from by repeat (first | exact isW64 HI0.out | refine isW64 (IsS64.set_1 ?_ _) | refine isW64 (IsS64.set_2 ?_ _) | refine isW64 (IsS64.far ?_ NB0_339.out _) | refine isW64 (IsS64.far ?_ NB0_357.out _))) (by apply rbW; exact (Kd.R_mono (Kd.R_far (p := ⟨gb357, 1, none⟩) (Kd.R_far (p := ⟨gb357, 0, none⟩) (Kd.R_types HO353.out BK357.out (by decide)) (fun _ hk => hk.2) (.slice Ao24 t351.length co24)) (fun _ hk => hk.2) (.slice Ao28 t354.length co28)) (fun _ h_ => h_.1))) (by decide)) hk (fun _ h => h.2)) (fun _ h => h.1)); have n3_ := Aside0.mk (Kd.R_mono (Kd.R_keep (IsS64.apart (show IsS64 w0 _ g s0_0 t343 t344 from by repeat (first | exact isW64 HI0.out | refine isW64 (IsS64.set_1 ?_ _) | refine isW64 (IsS64.set_2 ?_ _) | refine isW64 (IsS64.far ?_ NB0_339.out _) | refine isW64 (IsS64.far ?_ NB0_357.out _))) (by apply rbW; exact (Kd.R_mono (Kd.R_far (p := ⟨gb357, 1, none⟩) (Kd.R_far (p := ⟨gb357, 0, none⟩) (Kd.R_types HO356.out BK357.out (by decide)) (fun _ hk => hk.2) (.slice Ao24 t351.length co24)) (fun _ hk => hk.2) (.slice Ao28 t354.length co28)) (fun _ h_ => h_.1))) (by decide)) hk (fun _ h => h.2)) (fun _ h => h.1)); have n4_ := Aside0.mk (KeepBut.blk hk (g' := gb357) (o := .cells #[.slice Ao24 t351.length co24, .slice Ao28 t354.length co28] 24 (0, 0)) (by apply kbW; refine blk_put (cs := #[.slice Ao24 t351.length co24, .slice none 0 0]) ?_ 1 _ rfl; apply kbW; refine blk_put (cs := #[.slice none 0 0, .slice none 0 0]) ?_ 0 _ rfl; apply kbW; exact BK357.out) NB357_0.out (by simp)); have n5_ := Aside0.mk (KeepBut.trans (by repeat (first | exact kpW HK.out | refine kpW (KeepBut.set_ ?_ _ _) | refine kpW (keep_far ?_ GW339.out _) | refine kpW (keep_far ?_ GW357.out _))) hk (.inl rfl)); have n6_ := Aside0.mk (hb); have n7_ := Aside0.mk (hi); clear BK339; clear HO342; clear HO353; clear HO356; clear BK357; clear HK; clear HB; clear HI0; have BK339 := n0_; have HO342 := n1_; have HO353 := n2_; have HO356 := n3_; have BK357 := n4_; have HK := n5_; have HB := n6_; have HI0 := n7_; clear n0_ n1_ n2_ n3_ n4_ n5_ n6_ n7_; (try clear hb); (try clear hb2); (try clear hk); (try clear hi); have hcz30_0 : w29.cell? ⟨gb357, 0, none⟩ = some (.slice Ao24 t351.length co24) := (blk_cell BK357.out 0).trans rfl; have hcz30_1 : w29.cell? ⟨gb357, 1, none⟩ = some (.slice Ao28 t354.length co28) := (blk_cell BK357.out 1).trans rfl; have hfz30_0 := blk_frozen BK357.out 0; have hfz30_1 := blk_frozen BK357.out 1) | (go_at_call 51; (with_reducible refine (spec_l1Cur_pick.calls g s0_0 t359 t360 (wrap64 ((t354.length : Int) - 1)) t361 t362 t363 w0 _ ?side1 ?side2 A10.out).mono ?_); (case side1 => repeat (first | exact isW64 HI0.out | refine isW64 (IsS64.set_1 ?_ _) | refine isW64 (IsS64.set_2 ?_ _) | refine isW64 (IsS64.far ?_ NB0_339.out _) | refine isW64 (IsS64.far ?_ NB0_357.out _))); (case side2 => repeat (first | exact nbW HB.out | refine nbW (below_set ?_ (IsS64.ge HI0.out)) | refine nbW (below_set ?_ GE339.out) | refine nbW (below_set ?_ GE357.out))); rintro e w31 ⟨rfl, hi, hb, hk⟩; have n0_ := Aside0.mk (KeepBut.blk hk (g' := gb339) (o := .cells #[.slice none 0 0, .slice none 0 0] 24 (0, 0)) (kbW BK339.out) NB339_0.out (by simp)); have n1_ := Aside0.mk (Kd.R_mono (Kd.R_keep (IsS64.apart (show IsS64 w0 _ g s0_0 t359 t360 from by repeat (first | exact isW64 HI0.out | refine isW64 (IsS64.set_1 ?_ _) | refine isW64 (IsS64.set_2 ?_ _) | refine isW64 (IsS64.far ?_ NB0_339.out _) | refine isW64 (IsS64.far ?_ NB0_357.out _))) (rbW HO342.out) (by decide)) hk (fun _ h => h.2)) (fun _ h => h.1)); have n2_ := Aside0.mk (Kd.R_mono (Kd.R_keep (IsS64.apart (show IsS64 w0 _ g s0_0 t359 t360 from by repeat (first | exact isW64 HI0.out | refine isW64 (IsS64.set_1 ?_ _) | refine isW64 (IsS64.set_2 ?_ _) | refine isW64 (IsS64.far ?_ NB0_339.out _) | refine isW64 (IsS64.far ?_ NB0_357.out _))) (rbW HO353.out) (by decide)) hk (fun _ h => h.2)) (fun _ h => h.1)); have n3_ := Aside0.mk (Kd.R_mono (Kd.R_keep (IsS64.apart (show IsS64 w0 _ g s0_0 t359 t360 from by repeat (first | exact isW64 HI0.out | refine isW64 (IsS64.set_1 ?_ _) | refine isW64 (IsS64.set_2 ?_ _) | refine isW64 (IsS64.far ?_ NB0_339.out _) | refine isW64 (IsS64.far ?_ NB0_357.out _))) (rbW HO356.out) (by decide)) hk (fun _ h => h.2)) (fun _ h => h.1)); have n4_ := Aside0.mk (KeepBut.blk hk (g' := gb357) (o := .cells #[.slice Ao24 t351.length co24, .slice Ao28 t354.length co28] 24 (0, 0)) (kbW BK357.out) NB357_0.out (by simp)); have n5_ := Aside0.mk (KeepBut.trans (by repeat (first | exact kpW HK.out | refine kpW (KeepBut.set_ ?_ _ _) | refine kpW (keep_far ?_ GW339.out _) | refine kpW (keep_far ?_ GW357.out _))) hk (.inl rfl)); have n6_ := Aside0.mk (hb); have n7_ := Aside0.mk (hi); clear BK339; clear HO342; clear HO353; clear HO356; clear BK357; clear HK; clear HB; clear HI0; have BK339 := n0_; have HO342 := n1_; have HO353 := n2_; have HO356 := n3_; have BK357 := n4_; have HK := n5_; have HB := n6_; have HI0 := n7_; clear n0_ n1_ n2_ n3_ n4_ n5_ n6_ n7_; (try clear hb); (try clear hb2); (try clear hk); (try clear hi); have hcz32_0 : w31.cell? ⟨gb357, 0, none⟩ = some (.slice Ao24 t351.length co24) := (blk_cell BK357.out 0).trans rfl; have hcz32_1 : w31.cell? ⟨gb357, 1, none⟩ = some (.slice Ao28 t354.length co28) := (blk_cell BK357.out 1).trans rfl; have hfz32_0 := blk_frozen BK357.out 0; have hfz32_1 := blk_frozen BK357.out 1; have p364 : 0 ≤ (t361 : Int) := of_decide_eq_true (by first | (with_reducible assumption) | assumption); have q364 : t361 < (t354.length : Int) := of_decide_eq_true (by first | (with_reducible assumption) | assumption); obtain ⟨ad364, e364, hx364_0⟩ := Kd.at_int (Kd.R_reads' HO356.out).2.2 t361 p364 q364; cases e364; replace p364 := eq_true p364; replace q364 := eq_true q364; have p365 : 0 ≤ ((ji13) : Int) := of_decide_eq_true (by first | (with_reducible assumption) | assumption); have q365 : (ji13) < (t354.length : Int) := of_decide_eq_true (by first | (with_reducible assumption) | assumption); obtain ⟨ad365, e365, hx365_0⟩ := Kd.at_int (Kd.R_reads' HO356.out).2.2 (ji13) p365 q365; obtain rfl : ad364 = ad365 := (by injection e365); replace p365 := eq_true p365; replace q365 := eq_true q365; have p16 : 0 ≤ (t361 : Int) := of_decide_eq_true (by first | (with_reducible assumption) | assumption); have q16 : (t361 : Int) < ((t354.length : Int) : Int) := of_decide_eq_true (by first | (with_reducible assumption) | assumption); obtain ⟨go16, co16, eo16, gb16, gl16, cl16, HG16⟩ := Kd.R_form HO356.out (by omega); (first | cases eo16 | (injection eo16 with ea_ en_ ec_; (first | subst ea_ | (injection ea_ with ea_; subst ea_)); subst ec_; clear en_)); have GB16 := Aside0.mk gb16; have GG16 := Aside0.mk HG16; clear gb16 gl16 HG16; (first | simp only [add_plain] at hx364_0 | skip); (first | simp only [add_plain] at hx365_0 | skip); obtain ⟨hx16_0, hf16_0⟩ := Kd.R_celln 0 HO356.out (t361 : Int) p16 q16; replace p16 := eq_true p16; replace q16 := eq_true q16; obtain ⟨hy33_, hz33_⟩ := Kd.R_celln 0 HO356.out (t361 : Int) (of_decide_eq_true (by first | (with_reducible assumption) | assumption)) (of_decide_eq_true (by first | (with_reducible assumption) | assumption)); have HP33 := Kd.R_putg HO356.out (t361 : Int) (rd t354 (ji13))))
        repeat (go_quiet (first | fail); try go_wp2_with (first | ((with_reducible refine gate_store (t := 3) (p := 52) rfl ?_); (try (rw [drewN_self w31]; generalize hq_ : World.drewN w31 _ = w31; have n0_ := Aside0.mk (Kd.R_at hq_ HO342.out); have n1_ := Aside0.mk (Kd.R_at hq_ HO353.out); have n2_ := Aside0.mk (Kd.R_at hq_ HO356.out); have n3_ := Aside0.mk (blk_at hq_ BK339.out); have n4_ := Aside0.mk (blk_at hq_ BK357.out); have n5_ := Aside0.mk (IsS64.at_ hq_ HI0.out); have n6_ := Aside0.mk (keep_at hq_ HK.out); have n7_ := Aside0.mk (below_at hq_ HB.out); clear hq_ HO342 HO353 HO356 BK339 BK357 HI0 HK HB; have HO342 := n0_; have HO353 := n1_; have HO356 := n2_; have BK339 := n3_; have BK357 := n4_; have HI0 := n5_; have HK := n6_; have HB := n7_; clear n0_ n1_ n2_ n3_ n4_ n5_ n6_ n7_; (try (obtain ⟨hy33_, hz33_⟩ := Kd.R_celln 0 HO356.out (t361 : Int) (of_decide_eq_true (by first | (with_reducible assumption) | assumption)) (of_decide_eq_true (by first | (with_reducible assumption) | assumption)))); (try (have HP33 := Kd.R_putg HO356.out (t361 : Int) (rd t354 (ji13)))))); refine store_event (t := 3) (p := 52) (v := ?vo_w34) (w1 := (w31.setCell ⟨go16, (t361 : Int).toNat, none⟩ (.int .i64 (rd t354 (ji13))))) ?hg ?ho ?hn ?hr ?_; (case ho => rfl); (case hg => rfl); (case hn => rfl); (case hr => first | (go_simp; done) | (go_simp; rfl)); intro w34 hw; have hg : w31.grownBy w34 (some go16) := (by rw [hw]; exact HP33.2); have hp_ : Kd.R (Kd.int .i64) 3 w34 w.heap.size (fun k_ => some k_ ≠ (.slice Ao24 t351.length co24 : Value).ownBlock ∧ some k_ ≠ (.slice Ao20 t340.length co20 : Value).ownBlock) (.slice (some ⟨go16, 0, none⟩) t354.length co28) y366 := (by rw [hw, Ny366.out]; exact HP33.1); clear HP33; have n0_ := Aside0.mk (IsS64.grown (by repeat (first | exact isW64 HI0.out | refine isW64 (IsS64.set_1 ?_ _) | refine isW64 (IsS64.set_2 ?_ _) | refine isW64 (IsS64.far ?_ NB0_339.out _) | refine isW64 (IsS64.far ?_ NB0_357.out _))) hg (IsS64.own_ne HI0.out HO356.out (by decide))); have n1_ := Aside0.mk (blk_grown (g := gb339) (o := .cells #[.slice none 0 0, .slice none 0 0] 24 (0, 0)) (kbW BK339.out) hg (Kd.R_ne HO356.out BK339.out (by decide))); have n2_ := Aside0.mk (Kd.R_after (v := (.slice (some ⟨go16, 0, none⟩) t354.length co28)) (v1 := (.slice (some ⟨go16, 0, none⟩) t354.length co28)) (ok := (fun k_ => some k_ ≠ (.slice Ao24 t351.length co24 : Value).ownBlock)) (by apply rbW; exact Kd.R_mono HO342.out (fun _ hk => ⟨hk.1.2, hk.2⟩)) hg (.inl rfl)); have n3_ := Aside0.mk (Kd.R_after (v := (.slice (some ⟨go16, 0, none⟩) t354.length co28)) (v1 := (.slice (some ⟨go16, 0, none⟩) t354.length co28)) (ok := (fun k_ => some k_ ≠ (.slice Ao20 t340.length co20 : Value).ownBlock)) (by apply rbW; exact Kd.R_mono HO353.out (fun _ hk => by first | exact ⟨hk.2, hk.1⟩ | exact hk)) hg (.inl rfl)); have n4_ := Aside0.mk (hp_); have n5_ := Aside0.mk (blk_grown (g := gb357) (o := .cells #[.slice Ao24 t351.length co24, .slice (some ⟨go16, 0, none⟩) t354.length co28] 24 (0, 0)) (kbW BK357.out) hg (Kd.R_ne HO356.out BK357.out (by decide))); have n6_ := Aside0.mk ((by rw [hw]; exact below_set (HB.out) (Nat.le_trans HL.out GB16.out) : Below w0.heap.size w0 w34)); have n7_ := Aside0.mk (KeepBut.trans (by repeat (first | exact kpW HK.out | refine kpW (KeepBut.set_ ?_ _ _) | refine kpW (keep_far ?_ GW339.out _) | refine kpW (keep_far ?_ GW357.out _))) (KeepBut.of_grown hg g) (Kd.R_base2 HO356.out)); clear HI0; clear BK339; clear HO342; clear HO353; clear HO356; clear BK357; clear HB; clear HK; have HI0 := n0_; have BK339 := n1_; have HO342 := n2_; have HO353 := n3_; have HO356 := n4_; have BK357 := n5_; have HB := n6_; have HK := n7_; clear n0_ n1_ n2_ n3_ n4_ n5_ n6_ n7_; clear hg hw hp_; have hcz35_0 : w34.cell? ⟨gb357, 0, none⟩ = some (.slice Ao24 t351.length co24) := (blk_cell BK357.out 0).trans rfl; have hcz35_1 : w34.cell? ⟨gb357, 1, none⟩ = some (.slice (some ⟨go16, 0, none⟩) t354.length co28) := (blk_cell BK357.out 1).trans rfl; have hfz35_0 := blk_frozen BK357.out 0; have hfz35_1 := blk_frozen BK357.out 1; have p17 : 0 ≤ ((ji13) : Int) := of_decide_eq_true (by first | (with_reducible assumption) | assumption); have q17 : ((ji13) : Int) < ((t354.length : Int) : Int) := of_decide_eq_true (by first | (with_reducible assumption) | assumption); obtain ⟨hx17_0, hf17_0⟩ := Kd.R_celln 0 HO356.out ((ji13) : Int) p17 q17; replace p17 := eq_true p17; replace q17 := eq_true q17; obtain ⟨hy36_, hz36_⟩ := Kd.R_celln 0 HO356.out ((ji13) : Int) (of_decide_eq_true (by first | (with_reducible assumption) | assumption)) (of_decide_eq_true (by first | (with_reducible assumption) | assumption)); have HP36 := Kd.R_putg HO356.out ((ji13) : Int) (rd t354 t361)) | ((with_reducible refine gate_store (t := 3) (p := 58) rfl ?_); (try (rw [drewN_self w34]; generalize hq_ : World.drewN w34 _ = w34; have n0_ := Aside0.mk (Kd.R_at hq_ HO342.out); have n1_ := Aside0.mk (Kd.R_at hq_ HO353.out); have n2_ := Aside0.mk (Kd.R_at hq_ HO356.out); have n3_ := Aside0.mk (blk_at hq_ BK339.out); have n4_ := Aside0.mk (blk_at hq_ BK357.out); have n5_ := Aside0.mk (IsS64.at_ hq_ HI0.out); have n6_ := Aside0.mk (keep_at hq_ HK.out); have n7_ := Aside0.mk (below_at hq_ HB.out); clear hq_ HO342 HO353 HO356 BK339 BK357 HI0 HK HB; have HO342 := n0_; have HO353 := n1_; have HO356 := n2_; have BK339 := n3_; have BK357 := n4_; have HI0 := n5_; have HK := n6_; have HB := n7_; clear n0_ n1_ n2_ n3_ n4_ n5_ n6_ n7_; (try (obtain ⟨hy36_, hz36_⟩ := Kd.R_celln 0 HO356.out ((ji13) : Int) (of_decide_eq_true (by first | (with_reducible assumption) | assumption)) (of_decide_eq_true (by first | (with_reducible assumption) | assumption)))); (try (have HP36 := Kd.R_putg HO356.out ((ji13) : Int) (rd t354 t361))))); refine store_event (t := 3) (p := 58) (v := ?vo_w37) (w1 := (w34.setCell ⟨go16, ((ji13) : Int).toNat, none⟩ (.int .i64 (rd t354 t361)))) ?hg ?ho ?hn ?hr ?_; (case ho => rfl); (case hg => rfl); (case hn => rfl); (case hr => first | (go_simp; done) | (go_simp; rfl)); intro w37 hw; have hg : w34.grownBy w37 (some go16) := (by rw [hw]; exact HP36.2); have hp_ : Kd.R (Kd.int .i64) 3 w37 w.heap.size (fun k_ => some k_ ≠ (.slice Ao24 t351.length co24 : Value).ownBlock ∧ some k_ ≠ (.slice Ao20 t340.length co20 : Value).ownBlock) (.slice (some ⟨go16, 0, none⟩) t354.length co28) y367 := (by rw [hw, Ny367.out]; exact HP36.1); clear HP36; have n0_ := Aside0.mk (IsS64.grown (by repeat (first | exact isW64 HI0.out | refine isW64 (IsS64.set_1 ?_ _) | refine isW64 (IsS64.set_2 ?_ _) | refine isW64 (IsS64.far ?_ NB0_339.out _) | refine isW64 (IsS64.far ?_ NB0_357.out _))) hg (IsS64.own_ne HI0.out HO356.out (by decide))); have n1_ := Aside0.mk (blk_grown (g := gb339) (o := .cells #[.slice none 0 0, .slice none 0 0] 24 (0, 0)) (kbW BK339.out) hg (Kd.R_ne HO356.out BK339.out (by decide))); have n2_ := Aside0.mk (Kd.R_after (v := (.slice (some ⟨go16, 0, none⟩) t354.length co28)) (v1 := (.slice (some ⟨go16, 0, none⟩) t354.length co28)) (ok := (fun k_ => some k_ ≠ (.slice Ao24 t351.length co24 : Value).ownBlock)) (rbW HO342.out) hg (.inl rfl)); have n3_ := Aside0.mk (Kd.R_after (v := (.slice (some ⟨go16, 0, none⟩) t354.length co28)) (v1 := (.slice (some ⟨go16, 0, none⟩) t354.length co28)) (ok := (fun k_ => some k_ ≠ (.slice Ao20 t340.length co20 : Value).ownBlock)) (rbW HO353.out) hg (.inl rfl)); have n4_ := Aside0.mk (hp_); have n5_ := Aside0.mk (blk_grown (g := gb357) (o := .cells #[.slice Ao24 t351.length co24, .slice (some ⟨go16, 0, none⟩) t354.length co28] 24 (0, 0)) (kbW BK357.out) hg (Kd.R_ne HO356.out BK357.out (by decide))); have n6_ := Aside0.mk ((by rw [hw]; exact below_set (HB.out) (Nat.le_trans HL.out GB16.out) : Below w0.heap.size w0 w37)); have n7_ := Aside0.mk (KeepBut.trans (by repeat (first | exact kpW HK.out | refine kpW (KeepBut.set_ ?_ _ _) | refine kpW (keep_far ?_ GW339.out _) | refine kpW (keep_far ?_ GW357.out _))) (KeepBut.of_grown hg g) (Kd.R_base2 HO356.out)); clear HI0; clear BK339; clear HO342; clear HO353; clear HO356; clear BK357; clear HB; clear HK; have HI0 := n0_; have BK339 := n1_; have HO342 := n2_; have HO353 := n3_; have HO356 := n4_; have BK357 := n5_; have HB := n6_; have HK := n7_; clear n0_ n1_ n2_ n3_ n4_ n5_ n6_ n7_; clear hg hw hp_; have hcz38_0 : w37.cell? ⟨gb357, 0, none⟩ = some (.slice Ao24 t351.length co24) := (blk_cell BK357.out 0).trans rfl; have hcz38_1 : w37.cell? ⟨gb357, 1, none⟩ = some (.slice (some ⟨go16, 0, none⟩) t354.length co28) := (blk_cell BK357.out 1).trans rfl; have hfz38_0 := blk_frozen BK357.out 0; have hfz38_1 := blk_frozen BK357.out 1; have hnb39 := NB339_0.out; have hnc39 := NB0_339.out; have hcz40_0 : w37.cell? ⟨gb339, 0, none⟩ = some (.slice none 0 0) := (blk_cell BK339.out 0).trans rfl; have hcz40_1 : w37.cell? ⟨gb339, 1, none⟩ = some (.slice none 0 0) := (blk_cell BK339.out 1).trans rfl; have hfz40_0 := blk_frozen BK339.out 0; have hfz40_1 := blk_frozen BK339.out 1)))
        refine bodyPost_ret (results_cell_row rfl _ _ gb339 24 #[.slice Ao24 t351.length co24, .slice (some ⟨go16, 0, none⟩) t354.length co28] (0, 0) _ rfl (by apply kbW; refine blk_put (cs := #[.slice Ao24 t351.length co24, .slice none 0 0]) ?_ 1 _ rfl; apply kbW; refine blk_put (cs := #[.slice none 0 0, .slice none 0 0]) ?_ 0 _ rfl; apply kbW; exact BK339.out) Tryz.underlying24 rfl (by kernel_rfl)) rfl ?_
        exact ⟨_, _, by first | rfl | (simp [errW_none, errW_some] <;> rfl) | (simp only [← hji13]; first | rfl | (simp [errW_none, errW_some] <;> rfl)) | (simp [*, errW_none, errW_some] <;> rfl), by apply rbW; exact Kd.R_mono (Kd.R_far (p := ⟨gb339, 1, none⟩) (Kd.R_far (p := ⟨gb339, 0, none⟩) (Kd.R_types HO353.out BK339.out (by decide)) (fun _ hk => hk.2) (.slice Ao24 t351.length co24)) (fun _ hk => hk.2) (.slice (some ⟨go16, 0, none⟩) t354.length co28)) (fun _ hk => hk.1.2), by apply rbW; exact Kd.R_mono (Kd.R_far (p := ⟨gb339, 1, none⟩) (Kd.R_far (p := ⟨gb339, 0, none⟩) (Kd.R_types HO356.out BK339.out (by decide)) (fun _ hk => hk.2) (.slice Ao24 t351.length co24)) (fun _ hk => hk.2) (.slice (some ⟨go16, 0, none⟩) t354.length co28)) (fun _ hk => hk.1.1), by repeat (first | exact isW64 HI0.out | refine isW64 (IsS64.set_1 ?_ _) | refine isW64 (IsS64.set_2 ?_ _) | refine isW64 (IsS64.far ?_ NB0_339.out _) | refine isW64 (IsS64.far ?_ NB0_357.out _)), by repeat (first | exact nbW HB.out | refine nbW (below_set ?_ (IsS64.ge HI0.out)) | refine nbW (below_set ?_ GE339.out) | refine nbW (below_set ?_ GE357.out)), by repeat (first | exact kpW HK.out | refine kpW (KeepBut.set_ ?_ _ _) | refine kpW (keep_far ?_ GW339.out _) | refine kpW (keep_far ?_ GW357.out _))⟩
       ·rw [if_neg c15] at H
        exact absurd H (by simp)
      ·rw [if_neg c14] at H
       exact absurd H (by simp)
     ·rw [if_neg c12] at H
      exact absurd H (by simp)
    ·rw [if_neg c11] at H
     exact absurd H (by simp)
   ·rw [if_neg c9] at H
    have c9b0 := decide_eq_false c9
    have c9b1 : decide (1 < t354.length) = false := decide_eq_false (by omega)
    clear c9
    simp only [Option.some.injEq, Prod.mk.injEq] at H
    obtain ⟨rfl, rfl, rfl, rfl⟩ := H
    go_enter Tryz.func69, Tryz.ntmps69
    go_wp2_with (first | ((with_reducible refine gate_dst (N := 4) rfl ?_); refine box_event ?hg (N := 4) ?hd (cs := #[.slice none 0 0, .slice none 0 0]) (t := 24) ?hr ?_; (case hd => rfl); (case hg => rfl); (case hr => first | (go_simp; done) | (go_simp; rfl)); intro gb339 hg w41 hbox hb; have n0_ := Aside0.mk (IsS64.below (by repeat (first | exact isW64 HI0.out | refine isW64 (IsS64.set_1 ?_ _) | refine isW64 (IsS64.set_2 ?_ _))) hb); have n1_ := Aside0.mk (KeepBut.trans (by repeat (first | exact kpW HK.out | refine kpW (KeepBut.set_ ?_ _ _))) (KeepBut.of_below hb g none) (.inl rfl)); have n2_ := Aside0.mk (below_step (by repeat (first | exact nbW HB.out | refine nbW (below_set ?_ (IsS64.ge HI0.out)))) hb); have n3_ := Aside0.mk (hbox); have n4_ := Aside0.mk ((by rw [hg]; exact (keep_size (w := w) (g := g) (row := none) (by repeat (first | exact kpW HK.out | refine kpW (KeepBut.set_ ?_ _ _)))) : w.heap.size ≤ gb339)); have n5_ := Aside0.mk ((Nat.le_trans HW0.out (by rw [hg]; exact (keep_size (w := w) (g := g) (row := none) (by repeat (first | exact kpW HK.out | refine kpW (KeepBut.set_ ?_ _ _)))) : w.heap.size ≤ gb339) : w0.heap.size ≤ gb339)); have n6_ := Aside0.mk ((by rw [hg]; exact Nat.ne_of_lt (IsS64.lt (show IsS64 w0 _ g s0_0 s0_1 s0_2 from by repeat (first | exact isW64 HI0.out | refine isW64 (IsS64.set_1 ?_ _) | refine isW64 (IsS64.set_2 ?_ _)))) : g ≠ gb339)); have n7_ := Aside0.mk ((by rw [hg]; exact Nat.ne_of_gt (IsS64.lt (show IsS64 w0 _ g s0_0 s0_1 s0_2 from by repeat (first | exact isW64 HI0.out | refine isW64 (IsS64.set_1 ?_ _) | refine isW64 (IsS64.set_2 ?_ _)))) : gb339 ≠ g)); clear HI0; clear HK; clear HB; have HI0 := n0_; have HK := n1_; have HB := n2_; have BK339 := n3_; have GW339 := n4_; have GE339 := n5_; have NB0_339 := n6_; have NB339_0 := n7_; clear n0_ n1_ n2_ n3_ n4_ n5_ n6_ n7_; clear hb hbox hg) | (go_at_call 94; (with_reducible refine (spec_l1Cur_park.calls k g s0_0 s0_1 s0_2 a1 t340 t343 t344 w0 _ ?side1 ?side2 A3.out).mono ?_); (case side1 => repeat (first | exact isW64 HI0.out | refine isW64 (IsS64.set_1 ?_ _) | refine isW64 (IsS64.set_2 ?_ _) | refine isW64 (IsS64.far ?_ NB0_339.out _))); (case side2 => repeat (first | exact nbW HB.out | refine nbW (below_set ?_ (IsS64.ge HI0.out)) | refine nbW (below_set ?_ GE339.out))); rintro e w42 ⟨v341, rfl, ho0, hi, hb, hk⟩; have n0_ := Aside0.mk (KeepBut.blk hk (g' := gb339) (o := .cells #[.slice none 0 0, .slice none 0 0] 24 (0, 0)) (kbW BK339.out) NB339_0.out (by simp)); have n1_ := Aside0.mk (Kd.R_lower ho0 (keep_size (w := w) (g := g) (row := none) (by repeat (first | exact kpW HK.out | refine kpW (KeepBut.set_ ?_ _ _) | refine kpW (keep_far ?_ GW339.out _))))); have n2_ := Aside0.mk (KeepBut.trans (by repeat (first | exact kpW HK.out | refine kpW (KeepBut.set_ ?_ _ _) | refine kpW (keep_far ?_ GW339.out _))) hk (.inl rfl)); have n3_ := Aside0.mk (hb); have n4_ := Aside0.mk (hi); clear BK339; clear HK; clear HB; clear HI0; have BK339 := n0_; have HO342 := n1_; have HK := n2_; have HB := n3_; have HI0 := n4_; clear n0_ n1_ n2_ n3_ n4_; (try clear hb); (try clear hb2); (try clear hk); (try clear hi); (try clear ho0); obtain ⟨Ao43, co43, eo43⟩ := Kd.R_slice HO342.out; subst eo43) | (go_at_call 95; (with_reducible refine (spec_paParking.calls k _ _ t340 true _ ?side1 ?side2 A4.out).mono ?_); (case side1 => exact cbW (Kd.R_reads' HO342.out).2.2); (case side2 => exact (Kd.R_reads' HO342.out).2.1); rintro e w44 ⟨rfl, hb⟩; have n0_ := Aside0.mk (Kd.R_below (rbW HO342.out) hb); have n1_ := Aside0.mk (IsS64.below (by repeat (first | exact isW64 HI0.out | refine isW64 (IsS64.set_1 ?_ _) | refine isW64 (IsS64.set_2 ?_ _) | refine isW64 (IsS64.far ?_ NB0_339.out _))) hb); have n2_ := Aside0.mk (blk_below (kbW BK339.out) hb); have n3_ := Aside0.mk (KeepBut.trans (by repeat (first | exact kpW HK.out | refine kpW (KeepBut.set_ ?_ _ _) | refine kpW (keep_far ?_ GW339.out _))) (KeepBut.of_below hb g none) (.inl rfl)); have n4_ := Aside0.mk (below_step (by repeat (first | exact nbW HB.out | refine nbW (below_set ?_ (IsS64.ge HI0.out)) | refine nbW (below_set ?_ GE339.out))) hb); clear HO342; clear HI0; clear BK339; clear HK; clear HB; have HO342 := n0_; have HI0 := n1_; have BK339 := n2_; have HK := n3_; have HB := n4_; clear n0_ n1_ n2_ n3_ n4_; (try clear hb); (try clear hb2); (try clear hk); (try clear hi)) | (go_at_call 96; (with_reducible refine (spec_waOf.calls k _ _ t340 t351 t354 _ ?side1 ?side2 A6.out).mono ?_); (case side1 => exact cbW (Kd.R_reads' HO342.out).2.2); (case side2 => exact (Kd.R_reads' HO342.out).2.1); rintro e w45 ⟨v352, v355, rfl, ho0, ho1, hb⟩; have n0_ := Aside0.mk (Kd.R_mono (Kd.R_told (Kd.R_told (Kd.R_old (rbW HO342.out) hb) (Kd.R_base ho0)) (Kd.R_base ho1)) (fun _ h_ => h_.1)); have n1_ := Aside0.mk (Kd.R_lower (Kd.R_new' ho0 (Kd.R_lt (rbW HO342.out))) (keep_size (w := w) (g := g) (row := none) (by repeat (first | exact kpW HK.out | refine kpW (KeepBut.set_ ?_ _ _) | refine kpW (keep_far ?_ GW339.out _))))); have n2_ := Aside0.mk (Kd.R_lower (Kd.R_new' ho1 (Kd.R_lt (rbW HO342.out))) (keep_size (w := w) (g := g) (row := none) (by repeat (first | exact kpW HK.out | refine kpW (KeepBut.set_ ?_ _ _) | refine kpW (keep_far ?_ GW339.out _))))); have n3_ := Aside0.mk (IsS64.below (by repeat (first | exact isW64 HI0.out | refine isW64 (IsS64.set_1 ?_ _) | refine isW64 (IsS64.set_2 ?_ _) | refine isW64 (IsS64.far ?_ NB0_339.out _))) hb); have n4_ := Aside0.mk (blk_below (kbW BK339.out) hb); have n5_ := Aside0.mk (KeepBut.trans (by repeat (first | exact kpW HK.out | refine kpW (KeepBut.set_ ?_ _ _) | refine kpW (keep_far ?_ GW339.out _))) (KeepBut.of_below hb g none) (.inl rfl)); have n6_ := Aside0.mk (below_step (by repeat (first | exact nbW HB.out | refine nbW (below_set ?_ (IsS64.ge HI0.out)) | refine nbW (below_set ?_ GE339.out))) hb); clear HO342; clear HI0; clear BK339; clear HK; clear HB; have HO342 := n0_; have HO353 := n1_; have HO356 := n2_; have HI0 := n3_; have BK339 := n4_; have HK := n5_; have HB := n6_; clear n0_ n1_ n2_ n3_ n4_ n5_ n6_; (try clear hb); (try clear hb2); (try clear hk); (try clear hi); (try clear ho0); (try clear ho1)) | ((with_reducible refine gate_dst (N := 6) rfl ?_); refine box_event ?hg (N := 6) ?hd (cs := #[.slice none 0 0, .slice none 0 0]) (t := 24) ?hr ?_; (case hd => rfl); (case hg => rfl); (case hr => first | (go_simp; done) | (go_simp; rfl)); intro gb357 hg w46 hbox hb; have n0_ := Aside0.mk (Kd.R_below (rbW HO342.out) hb); have n1_ := Aside0.mk (Kd.R_below (rbW HO353.out) hb); have n2_ := Aside0.mk (Kd.R_below (rbW HO356.out) hb); have n3_ := Aside0.mk (IsS64.below (by repeat (first | exact isW64 HI0.out | refine isW64 (IsS64.set_1 ?_ _) | refine isW64 (IsS64.set_2 ?_ _) | refine isW64 (IsS64.far ?_ NB0_339.out _))) hb); have n4_ := Aside0.mk (blk_below (kbW BK339.out) hb); have n5_ := Aside0.mk (KeepBut.trans (by repeat (first | exact kpW HK.out | refine kpW (KeepBut.set_ ?_ _ _) | refine kpW (keep_far ?_ GW339.out _))) (KeepBut.of_below hb g none) (.inl rfl)); have n6_ := Aside0.mk (below_step (by repeat (first | exact nbW HB.out | refine nbW (below_set ?_ (IsS64.ge HI0.out)) | refine nbW (below_set ?_ GE339.out))) hb); have n7_ := Aside0.mk (hbox); have n8_ := Aside0.mk ((by rw [hg]; exact (keep_size (w := w) (g := g) (row := none) (by repeat (first | exact kpW HK.out | refine kpW (KeepBut.set_ ?_ _ _) | refine kpW (keep_far ?_ GW339.out _)))) : w.heap.size ≤ gb357)); have n9_ := Aside0.mk ((Nat.le_trans HW0.out (by rw [hg]; exact (keep_size (w := w) (g := g) (row := none) (by repeat (first | exact kpW HK.out | refine kpW (KeepBut.set_ ?_ _ _) | refine kpW (keep_far ?_ GW339.out _)))) : w.heap.size ≤ gb357) : w0.heap.size ≤ gb357)); have n10_ := Aside0.mk ((by rw [hg]; exact Nat.ne_of_lt (blk_lt (g := gb339) (o := .cells #[.slice none 0 0, .slice none 0 0] 24 (0, 0)) (kbW BK339.out)) : gb339 ≠ gb357)); have n11_ := Aside0.mk ((by rw [hg]; exact Nat.ne_of_gt (blk_lt (g := gb339) (o := .cells #[.slice none 0 0, .slice none 0 0] 24 (0, 0)) (kbW BK339.out)) : gb357 ≠ gb339)); have n12_ := Aside0.mk ((by rw [hg]; exact Nat.ne_of_lt (IsS64.lt (show IsS64 w0 _ g s0_0 t343 t344 from by repeat (first | exact isW64 HI0.out | refine isW64 (IsS64.set_1 ?_ _) | refine isW64 (IsS64.set_2 ?_ _) | refine isW64 (IsS64.far ?_ NB0_339.out _)))) : g ≠ gb357)); have n13_ := Aside0.mk ((by rw [hg]; exact Nat.ne_of_gt (IsS64.lt (show IsS64 w0 _ g s0_0 t343 t344 from by repeat (first | exact isW64 HI0.out | refine isW64 (IsS64.set_1 ?_ _) | refine isW64 (IsS64.set_2 ?_ _) | refine isW64 (IsS64.far ?_ NB0_339.out _)))) : gb357 ≠ g)); clear HO342; clear HO353; clear HO356; clear HI0; clear BK339; clear HK; clear HB; have HO342 := n0_; have HO353 := n1_; have HO356 := n2_; have HI0 := n3_; have BK339 := n4_; have HK := n5_; have HB := n6_; have BK357 := n7_; have GW357 := n8_; have GE357 := n9_; have NB339_357 := n10_; have NB357_339 := n11_; have NB0_357 := n12_; have NB357_0 := n13_; clear n0_ n1_ n2_ n3_ n4_ n5_ n6_ n7_ n8_ n9_ n10_ n11_ n12_ n13_; clear hb hbox hg; obtain ⟨Ao47, co47, eo47⟩ := Kd.R_slice HO353.out; subst eo47; have hnb48 := NB357_339.out; have hnc48 := NB339_357.out; have hnb49 := NB357_0.out; have hnc49 := NB0_357.out; have hcz50_0 : w46.cell? ⟨gb357, 0, none⟩ = some (.slice none 0 0) := (blk_cell BK357.out 0).trans rfl; have hcz50_1 : w46.cell? ⟨gb357, 1, none⟩ = some (.slice none 0 0) := (blk_cell BK357.out 1).trans rfl; have hfz50_0 := blk_frozen BK357.out 0; have hfz50_1 := blk_frozen BK357.out 1; obtain ⟨Ao51, co51, eo51⟩ := Kd.R_slice HO356.out; subst eo51) | (go_at_call 51; (with_reducible refine (spec_l1Cur_pick.calls g s0_0 t343 t344 14 t358 t359 t360 w0 _ ?side1 ?side2 A7.out).mono ?_); (case side1 => repeat (first | exact isW64 HI0.out | refine isW64 (IsS64.set_1 ?_ _) | refine isW64 (IsS64.set_2 ?_ _) | refine isW64 (IsS64.far ?_ NB0_339.out _) | refine isW64 (IsS64.far ?_ NB0_357.out _))); (case side2 => repeat (first | exact nbW HB.out | refine nbW (below_set ?_ (IsS64.ge HI0.out)) | refine nbW (below_set ?_ GE339.out) | refine nbW (below_set ?_ GE357.out))); rintro e w52 ⟨rfl, hi, hb, hk⟩; have n0_ := Aside0.mk (KeepBut.blk hk (g' := gb339) (o := .cells #[.slice none 0 0, .slice none 0 0] 24 (0, 0)) (by apply kbW; refine blk_far ?_ NB339_357.out _; apply kbW; refine blk_far ?_ NB339_357.out _; apply kbW; exact BK339.out) NB339_0.out (by simp)); have n1_ := Aside0.mk (Kd.R_mono (Kd.R_keep (IsS64.apart (show IsS64 w0 _ g s0_0 t343 t344 from by repeat (first | exact isW64 HI0.out | refine isW64 (IsS64.set_1 ?_ _) | refine isW64 (IsS64.set_2 ?_ _) | refine isW64 (IsS64.far ?_ NB0_339.out _) | refine isW64 (IsS64.far ?_ NB0_357.out _))) (by apply rbW; exact (Kd.R_mono (Kd.R_far (p := ⟨gb357, 1, none⟩) (Kd.R_far (p := ⟨gb357, 0, none⟩) (Kd.R_types HO342.out BK357.out (by decide)) (fun _ hk => hk.2) (.slice Ao47 t351.length co47)) (fun _ hk => hk.2) (.slice Ao51 t354.length co51)) (fun _ h_ => h_.1))) (by decide)) hk (fun _ h => h.2)) (fun _ h => h.1)); have n2_ := Aside0.mk (Kd.R_mono (Kd.R_keep (IsS64.apart (show IsS64 w0 _ g s0_0 t343 t344 from by repeat (first | exact isW64 HI0.out | refine isW64 (IsS64.set_1 ?_ _) | refine isW64 (IsS64.set_2 ?_ _) | refine isW64 (IsS64.far ?_ NB0_339.out _) | refine isW64 (IsS64.far ?_ NB0_357.out _))) (by apply rbW; exact (Kd.R_mono (Kd.R_far (p := ⟨gb357, 1, none⟩) (Kd.R_far (p := ⟨gb357, 0, none⟩) (Kd.R_types HO353.out BK357.out (by decide)) (fun _ hk => hk.2) (.slice Ao47 t351.length co47)) (fun _ hk => hk.2) (.slice Ao51 t354.length co51)) (fun _ h_ => h_.1))) (by decide)) hk (fun _ h => h.2)) (fun _ h => h.1)); have n3_ := Aside0.mk (Kd.R_mono (Kd.R_keep (IsS64.apart (show IsS64 w0 _ g s0_0 t343 t344 from by repeat (first | exact isW64 HI0.out | refine isW64 (IsS64.set_1 ?_ _) | refine isW64 (IsS64.set_2 ?_ _) | refine isW64 (IsS64.far ?_ NB0_339.out _) | refine isW64 (IsS64.far ?_ NB0_357.out _))) (by apply rbW; exact (Kd.R_mono (Kd.R_far (p := ⟨gb357, 1, none⟩) (Kd.R_far (p := ⟨gb357, 0, none⟩) (Kd.R_types HO356.out BK357.out (by decide)) (fun _ hk => hk.2) (.slice Ao47 t351.length co47)) (fun _ hk => hk.2) (.slice Ao51 t354.length co51)) (fun _ h_ => h_.1))) (by decide)) hk (fun _ h => h.2)) (fun _ h => h.1)); have n4_ := Aside0.mk (KeepBut.blk hk (g' := gb357) (o := .cells #[.slice Ao47 t351.length co47, .slice Ao51 t354.length co51] 24 (0, 0)) (by apply kbW; refine blk_put (cs := #[.slice Ao47 t351.length co47, .slice none 0 0]) ?_ 1 _ rfl; apply kbW; refine blk_put (cs := #[.slice none 0 0, .slice none 0 0]) ?_ 0 _ rfl; apply kbW; exact BK357.out) NB357_0.out (by simp)); have n5_ := Aside0.mk (KeepBut.trans (by repeat (first | exact kpW HK.out | refine kpW (KeepBut.set_ ?_ _ _) | refine kpW (keep_far ?_ GW339.out _) | refine kpW (keep_far ?_ GW357.out _))) hk (.inl rfl)); have n6_ := Aside0.mk (hb); have n7_ := Aside0.mk (hi); clear BK339; clear HO342; clear HO353; clear HO356; clear BK357; clear HK; clear HB; clear HI0; have BK339 := n0_; have HO342 := n1_; have HO353 := n2_; have HO356 := n3_; have BK357 := n4_; have HK := n5_; have HB := n6_; have HI0 := n7_; clear n0_ n1_ n2_ n3_ n4_ n5_ n6_ n7_; (try clear hb); (try clear hb2); (try clear hk); (try clear hi); have hcz53_0 : w52.cell? ⟨gb357, 0, none⟩ = some (.slice Ao47 t351.length co47) := (blk_cell BK357.out 0).trans rfl; have hcz53_1 : w52.cell? ⟨gb357, 1, none⟩ = some (.slice Ao51 t354.length co51) := (blk_cell BK357.out 1).trans rfl; have hfz53_0 := blk_frozen BK357.out 0; have hfz53_1 := blk_frozen BK357.out 1; have hnb54 := NB339_0.out; have hnc54 := NB0_339.out; have hcz55_0 : w52.cell? ⟨gb339, 0, none⟩ = some (.slice none 0 0) := (blk_cell BK339.out 0).trans rfl; have hcz55_1 : w52.cell? ⟨gb339, 1, none⟩ = some (.slice none 0 0) := (blk_cell BK339.out 1).trans rfl; have hfz55_0 := blk_frozen BK339.out 0; have hfz55_1 := blk_frozen BK339.out 1))
    repeat (go_quiet (first | fail); try go_wp2_with (first | fail))
    refine bodyPost_ret (results_cell_row rfl _ _ gb339 24 #[.slice Ao47 t351.length co47, .slice Ao51 t354.length co51] (0, 0) _ rfl (by apply kbW; refine blk_put (cs := #[.slice Ao47 t351.length co47, .slice none 0 0]) ?_ 1 _ rfl; apply kbW; refine blk_put (cs := #[.slice none 0 0, .slice none 0 0]) ?_ 0 _ rfl; apply kbW; exact BK339.out) Tryz.underlying24 rfl (by kernel_rfl)) rfl ?_
    exact ⟨_, _, by first | rfl | (simp [errW_none, errW_some] <;> rfl) | (simp [*, errW_none, errW_some] <;> rfl), by apply rbW; exact Kd.R_mono (Kd.R_far (p := ⟨gb339, 1, none⟩) (Kd.R_far (p := ⟨gb339, 0, none⟩) (Kd.R_types HO353.out BK339.out (by decide)) (fun _ hk => hk.2) (.slice Ao47 t351.length co47)) (fun _ hk => hk.2) (.slice Ao51 t354.length co51)) (fun _ hk => hk.1.1), by apply rbW; exact Kd.R_mono (Kd.R_far (p := ⟨gb339, 1, none⟩) (Kd.R_far (p := ⟨gb339, 0, none⟩) (Kd.R_types HO356.out BK339.out (by decide)) (fun _ hk => hk.2) (.slice Ao47 t351.length co47)) (fun _ hk => hk.2) (.slice Ao51 t354.length co51)) (fun _ hk => hk.1.1), by repeat (first | exact isW64 HI0.out | refine isW64 (IsS64.set_1 ?_ _) | refine isW64 (IsS64.set_2 ?_ _) | refine isW64 (IsS64.far ?_ NB0_339.out _) | refine isW64 (IsS64.far ?_ NB0_357.out _)), by repeat (first | exact nbW HB.out | refine nbW (below_set ?_ (IsS64.ge HI0.out)) | refine nbW (below_set ?_ GE339.out) | refine nbW (below_set ?_ GE357.out)), by repeat (first | exact kpW HK.out | refine kpW (KeepBut.set_ ?_ _ _) | refine kpW (keep_far ?_ GW339.out _) | refine kpW (keep_far ?_ GW357.out _))⟩
  ·rw [if_neg c8] at H
   have c8b0 : (t358 == 0) = false := beq_eq_false_iff_ne.mpr c8
   have c8b1 : (t358 != 0) = true := bne_iff_ne.mpr c8
   by_cases c56 : t358 = 1
   ·rw [if_pos c56] at H
    have c56b0 : (t358 == 1) = true := beq_iff_eq.mpr c56
    have c56b1 : (t358 != 1) = false := bne_eq_false_iff_eq.mpr c56
    clear c56
    by_cases c57 : t354.length < 17592186044416
    ·rw [if_pos c57] at H
     have LMc57 := Aside0.mk c57
     clear c57
     obtain ⟨y368, hy368⟩ : ∃ y_ : List Int, y_ = (t354 ++ [(t354.length : Int)]) := ⟨_, rfl⟩
     replace H : (some (t351, y368, t359, t360)) = some (r1, r2, r3, r4) := by first | (rw [hy368]; with_reducible exact H) | (have H2_ := (Option.bind_some _ _).symm.trans H; rw [hy368]; with_reducible exact H2_) | (have H2_ := (Option.bind_some _ _).symm.trans H; with_reducible exact H2_) | with_reducible exact H | (rw [hy368]; exact H) | exact H
     have Ny368 := Aside0.mk hy368
     clear hy368
     simp only [Option.some.injEq, Prod.mk.injEq] at H
     obtain ⟨rfl, rfl, rfl, rfl⟩ := H
     go_enter Tryz.func69, Tryz.ntmps69
     go_wp2_with (first | ((with_reducible refine gate_dst (N := 4) rfl ?_); refine box_event ?hg (N := 4) ?hd (cs := #[.slice none 0 0, .slice none 0 0]) (t := 24) ?hr ?_; (case hd => rfl); (case hg => rfl); (case hr => first | (go_simp; done) | (go_simp; rfl)); intro gb339 hg w58 hbox hb; have n0_ := Aside0.mk (IsS64.below (by repeat (first | exact isW64 HI0.out | refine isW64 (IsS64.set_1 ?_ _) | refine isW64 (IsS64.set_2 ?_ _))) hb); have n1_ := Aside0.mk (KeepBut.trans (by repeat (first | exact kpW HK.out | refine kpW (KeepBut.set_ ?_ _ _))) (KeepBut.of_below hb g none) (.inl rfl)); have n2_ := Aside0.mk (below_step (by repeat (first | exact nbW HB.out | refine nbW (below_set ?_ (IsS64.ge HI0.out)))) hb); have n3_ := Aside0.mk (hbox); have n4_ := Aside0.mk ((by rw [hg]; exact (keep_size (w := w) (g := g) (row := none) (by repeat (first | exact kpW HK.out | refine kpW (KeepBut.set_ ?_ _ _)))) : w.heap.size ≤ gb339)); have n5_ := Aside0.mk ((Nat.le_trans HW0.out (by rw [hg]; exact (keep_size (w := w) (g := g) (row := none) (by repeat (first | exact kpW HK.out | refine kpW (KeepBut.set_ ?_ _ _)))) : w.heap.size ≤ gb339) : w0.heap.size ≤ gb339)); have n6_ := Aside0.mk ((by rw [hg]; exact Nat.ne_of_lt (IsS64.lt (show IsS64 w0 _ g s0_0 s0_1 s0_2 from by repeat (first | exact isW64 HI0.out | refine isW64 (IsS64.set_1 ?_ _) | refine isW64 (IsS64.set_2 ?_ _)))) : g ≠ gb339)); have n7_ := Aside0.mk ((by rw [hg]; exact Nat.ne_of_gt (IsS64.lt (show IsS64 w0 _ g s0_0 s0_1 s0_2 from by repeat (first | exact isW64 HI0.out | refine isW64 (IsS64.set_1 ?_ _) | refine isW64 (IsS64.set_2 ?_ _)))) : gb339 ≠ g)); clear HI0; clear HK; clear HB; have HI0 := n0_; have HK := n1_; have HB := n2_; have BK339 := n3_; have GW339 := n4_; have GE339 := n5_; have NB0_339 := n6_; have NB339_0 := n7_; clear n0_ n1_ n2_ n3_ n4_ n5_ n6_ n7_; clear hb hbox hg) | (go_at_call 94; (with_reducible refine (spec_l1Cur_park.calls k g s0_0 s0_1 s0_2 a1 t340 t343 t344 w0 _ ?side1 ?side2 A3.out).mono ?_); (case side1 => repeat (first | exact isW64 HI0.out | refine isW64 (IsS64.set_1 ?_ _) | refine isW64 (IsS64.set_2 ?_ _) | refine isW64 (IsS64.far ?_ NB0_339.out _))); (case side2 => repeat (first | exact nbW HB.out | refine nbW (below_set ?_ (IsS64.ge HI0.out)) | refine nbW (below_set ?_ GE339.out))); rintro e w59 ⟨v341, rfl, ho0, hi, hb, hk⟩; have n0_ := Aside0.mk (KeepBut.blk hk (g' := gb339) (o := .cells #[.slice none 0 0, .slice none 0 0] 24 (0, 0)) (kbW BK339.out) NB339_0.out (by simp)); have n1_ := Aside0.mk (Kd.R_lower ho0 (keep_size (w := w) (g := g) (row := none) (by repeat (first | exact kpW HK.out | refine kpW (KeepBut.set_ ?_ _ _) | refine kpW (keep_far ?_ GW339.out _))))); have n2_ := Aside0.mk (KeepBut.trans (by repeat (first | exact kpW HK.out | refine kpW (KeepBut.set_ ?_ _ _) | refine kpW (keep_far ?_ GW339.out _))) hk (.inl rfl)); have n3_ := Aside0.mk (hb); have n4_ := Aside0.mk (hi); clear BK339; clear HK; clear HB; clear HI0; have BK339 := n0_; have HO342 := n1_; have HK := n2_; have HB := n3_; have HI0 := n4_; clear n0_ n1_ n2_ n3_ n4_; (try clear hb); (try clear hb2); (try clear hk); (try clear hi); (try clear ho0); obtain ⟨Ao60, co60, eo60⟩ := Kd.R_slice HO342.out; subst eo60) | (go_at_call 95; (with_reducible refine (spec_paParking.calls k _ _ t340 true _ ?side1 ?side2 A4.out).mono ?_); (case side1 => exact cbW (Kd.R_reads' HO342.out).2.2); (case side2 => exact (Kd.R_reads' HO342.out).2.1); rintro e w61 ⟨rfl, hb⟩; have n0_ := Aside0.mk (Kd.R_below (rbW HO342.out) hb); have n1_ := Aside0.mk (IsS64.below (by repeat (first | exact isW64 HI0.out | refine isW64 (IsS64.set_1 ?_ _) | refine isW64 (IsS64.set_2 ?_ _) | refine isW64 (IsS64.far ?_ NB0_339.out _))) hb); have n2_ := Aside0.mk (blk_below (kbW BK339.out) hb); have n3_ := Aside0.mk (KeepBut.trans (by repeat (first | exact kpW HK.out | refine kpW (KeepBut.set_ ?_ _ _) | refine kpW (keep_far ?_ GW339.out _))) (KeepBut.of_below hb g none) (.inl rfl)); have n4_ := Aside0.mk (below_step (by repeat (first | exact nbW HB.out | refine nbW (below_set ?_ (IsS64.ge HI0.out)) | refine nbW (below_set ?_ GE339.out))) hb); clear HO342; clear HI0; clear BK339; clear HK; clear HB; have HO342 := n0_; have HI0 := n1_; have BK339 := n2_; have HK := n3_; have HB := n4_; clear n0_ n1_ n2_ n3_ n4_; (try clear hb); (try clear hb2); (try clear hk); (try clear hi)) | (go_at_call 96; (with_reducible refine (spec_waOf.calls k _ _ t340 t351 t354 _ ?side1 ?side2 A6.out).mono ?_); (case side1 => exact cbW (Kd.R_reads' HO342.out).2.2); (case side2 => exact (Kd.R_reads' HO342.out).2.1); rintro e w62 ⟨v352, v355, rfl, ho0, ho1, hb⟩; have n0_ := Aside0.mk (Kd.R_mono (Kd.R_told (Kd.R_told (Kd.R_old (rbW HO342.out) hb) (Kd.R_base ho0)) (Kd.R_base ho1)) (fun _ h_ => h_.1)); have n1_ := Aside0.mk (Kd.R_lower (Kd.R_new' ho0 (Kd.R_lt (rbW HO342.out))) (keep_size (w := w) (g := g) (row := none) (by repeat (first | exact kpW HK.out | refine kpW (KeepBut.set_ ?_ _ _) | refine kpW (keep_far ?_ GW339.out _))))); have n2_ := Aside0.mk (Kd.R_lower (Kd.R_new' ho1 (Kd.R_lt (rbW HO342.out))) (keep_size (w := w) (g := g) (row := none) (by repeat (first | exact kpW HK.out | refine kpW (KeepBut.set_ ?_ _ _) | refine kpW (keep_far ?_ GW339.out _))))); have n3_ := Aside0.mk (IsS64.below (by repeat (first | exact isW64 HI0.out | refine isW64 (IsS64.set_1 ?_ _) | refine isW64 (IsS64.set_2 ?_ _) | refine isW64 (IsS64.far ?_ NB0_339.out _))) hb); have n4_ := Aside0.mk (blk_below (kbW BK339.out) hb); have n5_ := Aside0.mk (KeepBut.trans (by repeat (first | exact kpW HK.out | refine kpW (KeepBut.set_ ?_ _ _) | refine kpW (keep_far ?_ GW339.out _))) (KeepBut.of_below hb g none) (.inl rfl)); have n6_ := Aside0.mk (below_step (by repeat (first | exact nbW HB.out | refine nbW (below_set ?_ (IsS64.ge HI0.out)) | refine nbW (below_set ?_ GE339.out))) hb); clear HO342; clear HI0; clear BK339; clear HK; clear HB; have HO342 := n0_; have HO353 := n1_; have HO356 := n2_; have HI0 := n3_; have BK339 := n4_; have HK := n5_; have HB := n6_; clear n0_ n1_ n2_ n3_ n4_ n5_ n6_; (try clear hb); (try clear hb2); (try clear hk); (try clear hi); (try clear ho0); (try clear ho1)) | ((with_reducible refine gate_dst (N := 6) rfl ?_); refine box_event ?hg (N := 6) ?hd (cs := #[.slice none 0 0, .slice none 0 0]) (t := 24) ?hr ?_; (case hd => rfl); (case hg => rfl); (case hr => first | (go_simp; done) | (go_simp; rfl)); intro gb357 hg w63 hbox hb; have n0_ := Aside0.mk (Kd.R_below (rbW HO342.out) hb); have n1_ := Aside0.mk (Kd.R_below (rbW HO353.out) hb); have n2_ := Aside0.mk (Kd.R_below (rbW HO356.out) hb); have n3_ := Aside0.mk (IsS64.below (by repeat (first | exact isW64 HI0.out | refine isW64 (IsS64.set_1 ?_ _) | refine isW64 (IsS64.set_2 ?_ _) | refine isW64 (IsS64.far ?_ NB0_339.out _))) hb); have n4_ := Aside0.mk (blk_below (kbW BK339.out) hb); have n5_ := Aside0.mk (KeepBut.trans (by repeat (first | exact kpW HK.out | refine kpW (KeepBut.set_ ?_ _ _) | refine kpW (keep_far ?_ GW339.out _))) (KeepBut.of_below hb g none) (.inl rfl)); have n6_ := Aside0.mk (below_step (by repeat (first | exact nbW HB.out | refine nbW (below_set ?_ (IsS64.ge HI0.out)) | refine nbW (below_set ?_ GE339.out))) hb); have n7_ := Aside0.mk (hbox); have n8_ := Aside0.mk ((by rw [hg]; exact (keep_size (w := w) (g := g) (row := none) (by repeat (first | exact kpW HK.out | refine kpW (KeepBut.set_ ?_ _ _) | refine kpW (keep_far ?_ GW339.out _)))) : w.heap.size ≤ gb357)); have n9_ := Aside0.mk ((Nat.le_trans HW0.out (by rw [hg]; exact (keep_size (w := w) (g := g) (row := none) (by repeat (first | exact kpW HK.out | refine kpW (KeepBut.set_ ?_ _ _) | refine kpW (keep_far ?_ GW339.out _)))) : w.heap.size ≤ gb357) : w0.heap.size ≤ gb357)); have n10_ := Aside0.mk ((by rw [hg]; exact Nat.ne_of_lt (blk_lt (g := gb339) (o := .cells #[.slice none 0 0, .slice none 0 0] 24 (0, 0)) (kbW BK339.out)) : gb339 ≠ gb357)); have n11_ := Aside0.mk ((by rw [hg]; exact Nat.ne_of_gt (blk_lt (g := gb339) (o := .cells #[.slice none 0 0, .slice none 0 0] 24 (0, 0)) (kbW BK339.out)) : gb357 ≠ gb339)); have n12_ := Aside0.mk ((by rw [hg]; exact Nat.ne_of_lt (IsS64.lt (show IsS64 w0 _ g s0_0 t343 t344 from by repeat (first | exact isW64 HI0.out | refine isW64 (IsS64.set_1 ?_ _) | refine isW64 (IsS64.set_2 ?_ _) | refine isW64 (IsS64.far ?_ NB0_339.out _)))) : g ≠ gb357)); have n13_ := Aside0.mk ((by rw [hg]; exact Nat.ne_of_gt (IsS64.lt (show IsS64 w0 _ g s0_0 t343 t344 from by repeat (first | exact isW64 HI0.out | refine isW64 (IsS64.set_1 ?_ _) | refine isW64 (IsS64.set_2 ?_ _) | refine isW64 (IsS64.far ?_ NB0_339.out _)))) : gb357 ≠ g)); clear HO342; clear HO353; clear HO356; clear HI0; clear BK339; clear HK; clear HB; have HO342 := n0_; have HO353 := n1_; have HO356 := n2_; have HI0 := n3_; have BK339 := n4_; have HK := n5_; have HB := n6_; have BK357 := n7_; have GW357 := n8_; have GE357 := n9_; have NB339_357 := n10_; have NB357_339 := n11_; have NB0_357 := n12_; have NB357_0 := n13_; clear n0_ n1_ n2_ n3_ n4_ n5_ n6_ n7_ n8_ n9_ n10_ n11_ n12_ n13_; clear hb hbox hg; obtain ⟨Ao64, co64, eo64⟩ := Kd.R_slice HO353.out; subst eo64; have hnb65 := NB357_339.out; have hnc65 := NB339_357.out; have hnb66 := NB357_0.out; have hnc66 := NB0_357.out; have hcz67_0 : w63.cell? ⟨gb357, 0, none⟩ = some (.slice none 0 0) := (blk_cell BK357.out 0).trans rfl; have hcz67_1 : w63.cell? ⟨gb357, 1, none⟩ = some (.slice none 0 0) := (blk_cell BK357.out 1).trans rfl; have hfz67_0 := blk_frozen BK357.out 0; have hfz67_1 := blk_frozen BK357.out 1; obtain ⟨Ao68, co68, eo68⟩ := Kd.R_slice HO356.out; subst eo68) | (go_at_call 51; (with_reducible refine (spec_l1Cur_pick.calls g s0_0 t343 t344 14 t358 t359 t360 w0 _ ?side1 ?side2 A7.out).mono ?_); (case side1 => repeat (first | exact isW64 HI0.out | refine isW64 (IsS64.set_1 ?_ _) | refine isW64 (IsS64.set_2 ?_ _) | refine isW64 (IsS64.far ?_ NB0_339.out _) | refine isW64 (IsS64.far ?_ NB0_357.out _))); (case side2 => repeat (first | exact nbW HB.out | refine nbW (below_set ?_ (IsS64.ge HI0.out)) | refine nbW (below_set ?_ GE339.out) | refine nbW (below_set ?_ GE357.out))); rintro e w69 ⟨rfl, hi, hb, hk⟩; have n0_ := Aside0.mk (KeepBut.blk hk (g' := gb339) (o := .cells #[.slice none 0 0, .slice none 0 0] 24 (0, 0)) (by apply kbW; refine blk_far ?_ NB339_357.out _; apply kbW; refine blk_far ?_ NB339_357.out _; apply kbW; exact BK339.out) NB339_0.out (by simp)); have n1_ := Aside0.mk (Kd.R_mono (Kd.R_keep (IsS64.apart (show IsS64 w0 _ g s0_0 t343 t344 from by repeat (first | exact isW64 HI0.out | refine isW64 (IsS64.set_1 ?_ _) | refine isW64 (IsS64.set_2 ?_ _) | refine isW64 (IsS64.far ?_ NB0_339.out _) | refine isW64 (IsS64.far ?_ NB0_357.out _))) (by apply rbW; exact (Kd.R_mono (Kd.R_far (p := ⟨gb357, 1, none⟩) (Kd.R_far (p := ⟨gb357, 0, none⟩) (Kd.R_types HO342.out BK357.out (by decide)) (fun _ hk => hk.2) (.slice Ao64 t351.length co64)) (fun _ hk => hk.2) (.slice Ao68 t354.length co68)) (fun _ h_ => h_.1))) (by decide)) hk (fun _ h => h.2)) (fun _ h => h.1)); have n2_ := Aside0.mk (Kd.R_mono (Kd.R_keep (IsS64.apart (show IsS64 w0 _ g s0_0 t343 t344 from by repeat (first | exact isW64 HI0.out | refine isW64 (IsS64.set_1 ?_ _) | refine isW64 (IsS64.set_2 ?_ _) | refine isW64 (IsS64.far ?_ NB0_339.out _) | refine isW64 (IsS64.far ?_ NB0_357.out _))) (by apply rbW; exact (Kd.R_mono (Kd.R_far (p := ⟨gb357, 1, none⟩) (Kd.R_far (p := ⟨gb357, 0, none⟩) (Kd.R_types HO353.out BK357.out (by decide)) (fun _ hk => hk.2) (.slice Ao64 t351.length co64)) (fun _ hk => hk.2) (.slice Ao68 t354.length co68)) (fun _ h_ => h_.1))) (by decide)) hk (fun _ h => h.2)) (fun _ h => h.1)); have n3_ := Aside0.mk (Kd.R_mono (Kd.R_keep (IsS64.apart (show IsS64 w0 _ g s0_0 t343 t344 from by repeat (first | exact isW64 HI0.out | refine isW64 (IsS64.set_1 ?_ _) | refine isW64 (IsS64.set_2 ?_ _) | refine isW64 (IsS64.far ?_ NB0_339.out _) | refine isW64 (IsS64.far ?_ NB0_357.out _))) (by apply rbW; exact (Kd.R_mono (Kd.R_far (p := ⟨gb357, 1, none⟩) (Kd.R_far (p := ⟨gb357, 0, none⟩) (Kd.R_types HO356.out BK357.out (by decide)) (fun _ hk => hk.2) (.slice Ao64 t351.length co64)) (fun _ hk => hk.2) (.slice Ao68 t354.length co68)) (fun _ h_ => h_.1))) (by decide)) hk (fun _ h => h.2)) (fun _ h => h.1)); have n4_ := Aside0.mk (KeepBut.blk hk (g' := gb357) (o := .cells #[.slice Ao64 t351.length co64, .slice Ao68 t354.length co68] 24 (0, 0)) (by apply kbW; refine blk_put (cs := #[.slice Ao64 t351.length co64, .slice none 0 0]) ?_ 1 _ rfl; apply kbW; refine blk_put (cs := #[.slice none 0 0, .slice none 0 0]) ?_ 0 _ rfl; apply kbW; exact BK357.out) NB357_0.out (by simp)); have n5_ := Aside0.mk (KeepBut.trans (by repeat (first | exact kpW HK.out | refine kpW (KeepBut.set_ ?_ _ _) | refine kpW (keep_far ?_ GW339.out _) | refine kpW (keep_far ?_ GW357.out _))) hk (.inl rfl)); have n6_ := Aside0.mk (hb); have n7_ := Aside0.mk (hi); clear BK339; clear HO342; clear HO353; clear HO356; clear BK357; clear HK; clear HB; clear HI0; have BK339 := n0_; have HO342 := n1_; have HO353 := n2_; have HO356 := n3_; have BK357 := n4_; have HK := n5_; have HB := n6_; have HI0 := n7_; clear n0_ n1_ n2_ n3_ n4_ n5_ n6_ n7_; (try clear hb); (try clear hb2); (try clear hk); (try clear hi); have hcz70_0 : w69.cell? ⟨gb357, 0, none⟩ = some (.slice Ao64 t351.length co64) := (blk_cell BK357.out 0).trans rfl; have hcz70_1 : w69.cell? ⟨gb357, 1, none⟩ = some (.slice Ao68 t354.length co68) := (blk_cell BK357.out 1).trans rfl; have hfz70_0 := blk_frozen BK357.out 0; have hfz70_1 := blk_frozen BK357.out 1) | ((with_reducible refine gate_builtin (b := .append) (xs := #[.tmp 62, .tmp 66]) rfl ?_); at_builtin; refine Kd.R_append (Kd.int .i64) w.heap.size rfl (.tmp 62) (.tmp 66) 22 3 (.int .i64 0) 8 rfl Tryz.underlying22 info3 rfl (by decide) (by omega) (.slice Ao68 t354.length co68) t354 (t354.length : Int) [.int .i64 (t354.length : Int)] (fun k_ => some k_ ≠ (.slice Ao60 t340.length co60 : Value).ownBlock ∧ some k_ ≠ (.slice Ao64 t351.length co64 : Value).ownBlock) (fun _ => False) rfl rfl ?aP (fun _ hk => hk.elim) ?aF ?aO (Below.refl _ _) ?aS ?aL ?_; (case aP => exact rfl); (case aF => exact (fun k_ hk => ⟨Kd.fresh' (Kd.R_lt (rbW HO342.out)) k_ hk, Kd.fresh' (Kd.R_lt (rbW HO353.out)) k_ hk⟩)); (case aO => exact (by apply rbW; exact Kd.R_mono HO356.out (fun _ hk => by first | exact ⟨hk.2, hk.1⟩ | exact hk))); (case aS => exact (keep_size (w := w) (g := g) (row := none) (by repeat (first | exact kpW HK.out | refine kpW (KeepBut.set_ ?_ _ _) | refine kpW (keep_far ?_ GW339.out _) | refine kpW (keep_far ?_ GW357.out _))))); (case aL => have := LMc57.out; omega); intro v369 w71 ho hb hg hat; rw [← Ny368.out] at ho; have n0_ := Aside0.mk (IsS64.grown (by repeat (first | exact isW64 HI0.out | refine isW64 (IsS64.set_1 ?_ _) | refine isW64 (IsS64.set_2 ?_ _) | refine isW64 (IsS64.far ?_ NB0_339.out _) | refine isW64 (IsS64.far ?_ NB0_357.out _))) hg (IsS64.own_ne HI0.out HO356.out (by decide))); have n1_ := Aside0.mk (blk_grown (g := gb339) (o := .cells #[.slice none 0 0, .slice none 0 0] 24 (0, 0)) (kbW BK339.out) hg (Kd.R_ne HO356.out BK339.out (by decide))); have n2_ := Aside0.mk (Kd.R_after (ok := (fun k_ => some k_ ≠ (.slice Ao64 t351.length co64 : Value).ownBlock)) (by apply rbW; exact Kd.R_mono HO342.out (fun _ hk => ⟨hk.1.2, hk.2⟩)) hg hat); have n3_ := Aside0.mk (Kd.R_after (ok := (fun k_ => some k_ ≠ (.slice Ao60 t340.length co60 : Value).ownBlock)) (by apply rbW; exact Kd.R_mono HO353.out (fun _ hk => by first | exact ⟨hk.2, hk.1⟩ | exact hk)) hg hat); have n4_ := Aside0.mk (blk_grown (g := gb357) (o := .cells #[.slice Ao64 t351.length co64, .slice Ao68 t354.length co68] 24 (0, 0)) (kbW BK357.out) hg (Kd.R_ne HO356.out BK357.out (by decide))); have n5_ := Aside0.mk (below_weaken (by repeat (first | exact nbW HB.out | refine nbW (below_set ?_ (IsS64.ge HI0.out)) | refine nbW (below_set ?_ GE339.out) | refine nbW (below_set ?_ GE357.out))) HL.out hb); have n6_ := Aside0.mk (KeepBut.trans (by repeat (first | exact kpW HK.out | refine kpW (KeepBut.set_ ?_ _ _) | refine kpW (keep_far ?_ GW339.out _) | refine kpW (keep_far ?_ GW357.out _))) (KeepBut.of_grown hg g) (Kd.R_base2 HO356.out)); have n7_ := Aside0.mk (ho); clear HI0; clear BK339; clear HO342; clear HO353; clear BK357; clear HB; clear HK; clear HO356; have HI0 := n0_; have BK339 := n1_; have HO342 := n2_; have HO353 := n3_; have BK357 := n4_; have HB := n5_; have HK := n6_; have HO370 := n7_; clear n0_ n1_ n2_ n3_ n4_ n5_ n6_ n7_; clear ho hb hg hat; obtain ⟨Ao72, co72, eo72⟩ := Kd.R_slice HO370.out; subst eo72; have hcz73_0 : w71.cell? ⟨gb357, 0, none⟩ = some (.slice Ao64 t351.length co64) := (blk_cell BK357.out 0).trans rfl; have hcz73_1 : w71.cell? ⟨gb357, 1, none⟩ = some (.slice Ao68 t354.length co68) := (blk_cell BK357.out 1).trans rfl; have hfz73_0 := blk_frozen BK357.out 0; have hfz73_1 := blk_frozen BK357.out 1; have hnb74 := NB339_0.out; have hnc74 := NB0_339.out; have hcz75_0 : w71.cell? ⟨gb339, 0, none⟩ = some (.slice none 0 0) := (blk_cell BK339.out 0).trans rfl; have hcz75_1 : w71.cell? ⟨gb339, 1, none⟩ = some (.slice none 0 0) := (blk_cell BK339.out 1).trans rfl; have hfz75_0 := blk_frozen BK339.out 0; have hfz75_1 := blk_frozen BK339.out 1))
     repeat (go_quiet (first | fail); try go_wp2_with (first | fail))
     refine bodyPost_ret (results_cell_row rfl _ _ gb339 24 #[.slice Ao64 t351.length co64, .slice Ao72 y368.length co72] (0, 0) _ rfl (by apply kbW; refine blk_put (cs := #[.slice Ao64 t351.length co64, .slice none 0 0]) ?_ 1 _ rfl; apply kbW; refine blk_put (cs := #[.slice none 0 0, .slice none 0 0]) ?_ 0 _ rfl; apply kbW; refine blk_far ?_ NB339_357.out _; apply kbW; exact BK339.out) Tryz.underlying24 rfl (by kernel_rfl)) rfl ?_
     exact ⟨_, _, by first | rfl | (simp [errW_none, errW_some] <;> rfl) | (simp [*, errW_none, errW_some] <;> rfl), by apply rbW; exact Kd.R_mono (Kd.R_far (p := ⟨gb339, 1, none⟩) (Kd.R_far (p := ⟨gb339, 0, none⟩) (Kd.R_far (p := ⟨gb357, 1, none⟩) (Kd.R_types (Kd.R_types HO353.out BK357.out (by decide)) BK339.out (by decide)) (fun _ hk => hk.1.2) (.slice Ao72 y368.length co72)) (fun _ hk => hk.2) (.slice Ao64 t351.length co64)) (fun _ hk => hk.2) (.slice Ao72 y368.length co72)) (fun _ hk => hk.1.1.2), by apply rbW; exact Kd.R_mono (Kd.R_far (p := ⟨gb339, 1, none⟩) (Kd.R_far (p := ⟨gb339, 0, none⟩) (Kd.R_far (p := ⟨gb357, 1, none⟩) (Kd.R_types (Kd.R_types HO370.out BK357.out (by decide)) BK339.out (by decide)) (fun _ hk => hk.1.2) (.slice Ao72 y368.length co72)) (fun _ hk => hk.2) (.slice Ao64 t351.length co64)) (fun _ hk => hk.2) (.slice Ao72 y368.length co72)) (fun _ hk => hk.1.1.2), by repeat (first | exact isW64 HI0.out | refine isW64 (IsS64.set_1 ?_ _) | refine isW64 (IsS64.set_2 ?_ _) | refine isW64 (IsS64.far ?_ NB0_339.out _) | refine isW64 (IsS64.far ?_ NB0_357.out _)), by repeat (first | exact nbW HB.out | refine nbW (below_set ?_ (IsS64.ge HI0.out)) | refine nbW (below_set ?_ GE339.out) | refine nbW (below_set ?_ GE357.out)), by repeat (first | exact kpW HK.out | refine kpW (KeepBut.set_ ?_ _ _) | refine kpW (keep_far ?_ GW339.out _) | refine kpW (keep_far ?_ GW357.out _))⟩
    ·rw [if_neg c57] at H
     exact absurd H (by simp)
   ·rw [if_neg c56] at H
    have c56b0 : (t358 == 1) = false := beq_eq_false_iff_ne.mpr c56
    have c56b1 : (t358 != 1) = true := bne_iff_ne.mpr c56
    simp only [Option.some.injEq, Prod.mk.injEq] at H
    obtain ⟨rfl, rfl, rfl, rfl⟩ := H
    go_enter Tryz.func69, Tryz.ntmps69
    go_wp2_with (first | ((with_reducible refine gate_dst (N := 4) rfl ?_); refine box_event ?hg (N := 4) ?hd (cs := #[.slice none 0 0, .slice none 0 0]) (t := 24) ?hr ?_; (case hd => rfl); (case hg => rfl); (case hr => first | (go_simp; done) | (go_simp; rfl)); intro gb339 hg w76 hbox hb; have n0_ := Aside0.mk (IsS64.below (by repeat (first | exact isW64 HI0.out | refine isW64 (IsS64.set_1 ?_ _) | refine isW64 (IsS64.set_2 ?_ _))) hb); have n1_ := Aside0.mk (KeepBut.trans (by repeat (first | exact kpW HK.out | refine kpW (KeepBut.set_ ?_ _ _))) (KeepBut.of_below hb g none) (.inl rfl)); have n2_ := Aside0.mk (below_step (by repeat (first | exact nbW HB.out | refine nbW (below_set ?_ (IsS64.ge HI0.out)))) hb); have n3_ := Aside0.mk (hbox); have n4_ := Aside0.mk ((by rw [hg]; exact (keep_size (w := w) (g := g) (row := none) (by repeat (first | exact kpW HK.out | refine kpW (KeepBut.set_ ?_ _ _)))) : w.heap.size ≤ gb339)); have n5_ := Aside0.mk ((Nat.le_trans HW0.out (by rw [hg]; exact (keep_size (w := w) (g := g) (row := none) (by repeat (first | exact kpW HK.out | refine kpW (KeepBut.set_ ?_ _ _)))) : w.heap.size ≤ gb339) : w0.heap.size ≤ gb339)); have n6_ := Aside0.mk ((by rw [hg]; exact Nat.ne_of_lt (IsS64.lt (show IsS64 w0 _ g s0_0 s0_1 s0_2 from by repeat (first | exact isW64 HI0.out | refine isW64 (IsS64.set_1 ?_ _) | refine isW64 (IsS64.set_2 ?_ _)))) : g ≠ gb339)); have n7_ := Aside0.mk ((by rw [hg]; exact Nat.ne_of_gt (IsS64.lt (show IsS64 w0 _ g s0_0 s0_1 s0_2 from by repeat (first | exact isW64 HI0.out | refine isW64 (IsS64.set_1 ?_ _) | refine isW64 (IsS64.set_2 ?_ _)))) : gb339 ≠ g)); clear HI0; clear HK; clear HB; have HI0 := n0_; have HK := n1_; have HB := n2_; have BK339 := n3_; have GW339 := n4_; have GE339 := n5_; have NB0_339 := n6_; have NB339_0 := n7_; clear n0_ n1_ n2_ n3_ n4_ n5_ n6_ n7_; clear hb hbox hg) | (go_at_call 94; (with_reducible refine (spec_l1Cur_park.calls k g s0_0 s0_1 s0_2 a1 t340 t343 t344 w0 _ ?side1 ?side2 A3.out).mono ?_); (case side1 => repeat (first | exact isW64 HI0.out | refine isW64 (IsS64.set_1 ?_ _) | refine isW64 (IsS64.set_2 ?_ _) | refine isW64 (IsS64.far ?_ NB0_339.out _))); (case side2 => repeat (first | exact nbW HB.out | refine nbW (below_set ?_ (IsS64.ge HI0.out)) | refine nbW (below_set ?_ GE339.out))); rintro e w77 ⟨v341, rfl, ho0, hi, hb, hk⟩; have n0_ := Aside0.mk (KeepBut.blk hk (g' := gb339) (o := .cells #[.slice none 0 0, .slice none 0 0] 24 (0, 0)) (kbW BK339.out) NB339_0.out (by simp)); have n1_ := Aside0.mk (Kd.R_lower ho0 (keep_size (w := w) (g := g) (row := none) (by repeat (first | exact kpW HK.out | refine kpW (KeepBut.set_ ?_ _ _) | refine kpW (keep_far ?_ GW339.out _))))); have n2_ := Aside0.mk (KeepBut.trans (by repeat (first | exact kpW HK.out | refine kpW (KeepBut.set_ ?_ _ _) | refine kpW (keep_far ?_ GW339.out _))) hk (.inl rfl)); have n3_ := Aside0.mk (hb); have n4_ := Aside0.mk (hi); clear BK339; clear HK; clear HB; clear HI0; have BK339 := n0_; have HO342 := n1_; have HK := n2_; have HB := n3_; have HI0 := n4_; clear n0_ n1_ n2_ n3_ n4_; (try clear hb); (try clear hb2); (try clear hk); (try clear hi); (try clear ho0); obtain ⟨Ao78, co78, eo78⟩ := Kd.R_slice HO342.out; subst eo78) | (go_at_call 95; (with_reducible refine (spec_paParking.calls k _ _ t340 true _ ?side1 ?side2 A4.out).mono ?_); (case side1 => exact cbW (Kd.R_reads' HO342.out).2.2); (case side2 => exact (Kd.R_reads' HO342.out).2.1); rintro e w79 ⟨rfl, hb⟩; have n0_ := Aside0.mk (Kd.R_below (rbW HO342.out) hb); have n1_ := Aside0.mk (IsS64.below (by repeat (first | exact isW64 HI0.out | refine isW64 (IsS64.set_1 ?_ _) | refine isW64 (IsS64.set_2 ?_ _) | refine isW64 (IsS64.far ?_ NB0_339.out _))) hb); have n2_ := Aside0.mk (blk_below (kbW BK339.out) hb); have n3_ := Aside0.mk (KeepBut.trans (by repeat (first | exact kpW HK.out | refine kpW (KeepBut.set_ ?_ _ _) | refine kpW (keep_far ?_ GW339.out _))) (KeepBut.of_below hb g none) (.inl rfl)); have n4_ := Aside0.mk (below_step (by repeat (first | exact nbW HB.out | refine nbW (below_set ?_ (IsS64.ge HI0.out)) | refine nbW (below_set ?_ GE339.out))) hb); clear HO342; clear HI0; clear BK339; clear HK; clear HB; have HO342 := n0_; have HI0 := n1_; have BK339 := n2_; have HK := n3_; have HB := n4_; clear n0_ n1_ n2_ n3_ n4_; (try clear hb); (try clear hb2); (try clear hk); (try clear hi)) | (go_at_call 96; (with_reducible refine (spec_waOf.calls k _ _ t340 t351 t354 _ ?side1 ?side2 A6.out).mono ?_); (case side1 => exact cbW (Kd.R_reads' HO342.out).2.2); (case side2 => exact (Kd.R_reads' HO342.out).2.1); rintro e w80 ⟨v352, v355, rfl, ho0, ho1, hb⟩; have n0_ := Aside0.mk (Kd.R_mono (Kd.R_told (Kd.R_told (Kd.R_old (rbW HO342.out) hb) (Kd.R_base ho0)) (Kd.R_base ho1)) (fun _ h_ => h_.1)); have n1_ := Aside0.mk (Kd.R_lower (Kd.R_new' ho0 (Kd.R_lt (rbW HO342.out))) (keep_size (w := w) (g := g) (row := none) (by repeat (first | exact kpW HK.out | refine kpW (KeepBut.set_ ?_ _ _) | refine kpW (keep_far ?_ GW339.out _))))); have n2_ := Aside0.mk (Kd.R_lower (Kd.R_new' ho1 (Kd.R_lt (rbW HO342.out))) (keep_size (w := w) (g := g) (row := none) (by repeat (first | exact kpW HK.out | refine kpW (KeepBut.set_ ?_ _ _) | refine kpW (keep_far ?_ GW339.out _))))); have n3_ := Aside0.mk (IsS64.below (by repeat (first | exact isW64 HI0.out | refine isW64 (IsS64.set_1 ?_ _) | refine isW64 (IsS64.set_2 ?_ _) | refine isW64 (IsS64.far ?_ NB0_339.out _))) hb); have n4_ := Aside0.mk (blk_below (kbW BK339.out) hb); have n5_ := Aside0.mk (KeepBut.trans (by repeat (first | exact kpW HK.out | refine kpW (KeepBut.set_ ?_ _ _) | refine kpW (keep_far ?_ GW339.out _))) (KeepBut.of_below hb g none) (.inl rfl)); have n6_ := Aside0.mk (below_step (by repeat (first | exact nbW HB.out | refine nbW (below_set ?_ (IsS64.ge HI0.out)) | refine nbW (below_set ?_ GE339.out))) hb); clear HO342; clear HI0; clear BK339; clear HK; clear HB; have HO342 := n0_; have HO353 := n1_; have HO356 := n2_; have HI0 := n3_; have BK339 := n4_; have HK := n5_; have HB := n6_; clear n0_ n1_ n2_ n3_ n4_ n5_ n6_; (try clear hb); (try clear hb2); (try clear hk); (try clear hi); (try clear ho0); (try clear ho1)) | ((with_reducible refine gate_dst (N := 6) rfl ?_); refine box_event ?hg (N := 6) ?hd (cs := #[.slice none 0 0, .slice none 0 0]) (t := 24) ?hr ?_; (case hd => rfl); (case hg => rfl); (case hr => first | (go_simp; done) | (go_simp; rfl)); intro gb357 hg w81 hbox hb; have n0_ := Aside0.mk (Kd.R_below (rbW HO342.out) hb); have n1_ := Aside0.mk (Kd.R_below (rbW HO353.out) hb); have n2_ := Aside0.mk (Kd.R_below (rbW HO356.out) hb); have n3_ := Aside0.mk (IsS64.below (by repeat (first | exact isW64 HI0.out | refine isW64 (IsS64.set_1 ?_ _) | refine isW64 (IsS64.set_2 ?_ _) | refine isW64 (IsS64.far ?_ NB0_339.out _))) hb); have n4_ := Aside0.mk (blk_below (kbW BK339.out) hb); have n5_ := Aside0.mk (KeepBut.trans (by repeat (first | exact kpW HK.out | refine kpW (KeepBut.set_ ?_ _ _) | refine kpW (keep_far ?_ GW339.out _))) (KeepBut.of_below hb g none) (.inl rfl)); have n6_ := Aside0.mk (below_step (by repeat (first | exact nbW HB.out | refine nbW (below_set ?_ (IsS64.ge HI0.out)) | refine nbW (below_set ?_ GE339.out))) hb); have n7_ := Aside0.mk (hbox); have n8_ := Aside0.mk ((by rw [hg]; exact (keep_size (w := w) (g := g) (row := none) (by repeat (first | exact kpW HK.out | refine kpW (KeepBut.set_ ?_ _ _) | refine kpW (keep_far ?_ GW339.out _)))) : w.heap.size ≤ gb357)); have n9_ := Aside0.mk ((Nat.le_trans HW0.out (by rw [hg]; exact (keep_size (w := w) (g := g) (row := none) (by repeat (first | exact kpW HK.out | refine kpW (KeepBut.set_ ?_ _ _) | refine kpW (keep_far ?_ GW339.out _)))) : w.heap.size ≤ gb357) : w0.heap.size ≤ gb357)); have n10_ := Aside0.mk ((by rw [hg]; exact Nat.ne_of_lt (blk_lt (g := gb339) (o := .cells #[.slice none 0 0, .slice none 0 0] 24 (0, 0)) (kbW BK339.out)) : gb339 ≠ gb357)); have n11_ := Aside0.mk ((by rw [hg]; exact Nat.ne_of_gt (blk_lt (g := gb339) (o := .cells #[.slice none 0 0, .slice none 0 0] 24 (0, 0)) (kbW BK339.out)) : gb357 ≠ gb339)); have n12_ := Aside0.mk ((by rw [hg]; exact Nat.ne_of_lt (IsS64.lt (show IsS64 w0 _ g s0_0 t343 t344 from by repeat (first | exact isW64 HI0.out | refine isW64 (IsS64.set_1 ?_ _) | refine isW64 (IsS64.set_2 ?_ _) | refine isW64 (IsS64.far ?_ NB0_339.out _)))) : g ≠ gb357)); have n13_ := Aside0.mk ((by rw [hg]; exact Nat.ne_of_gt (IsS64.lt (show IsS64 w0 _ g s0_0 t343 t344 from by repeat (first | exact isW64 HI0.out | refine isW64 (IsS64.set_1 ?_ _) | refine isW64 (IsS64.set_2 ?_ _) | refine isW64 (IsS64.far ?_ NB0_339.out _)))) : gb357 ≠ g)); clear HO342; clear HO353; clear HO356; clear HI0; clear BK339; clear HK; clear HB; have HO342 := n0_; have HO353 := n1_; have HO356 := n2_; have HI0 := n3_; have BK339 := n4_; have HK := n5_; have HB := n6_; have BK357 := n7_; have GW357 := n8_; have GE357 := n9_; have NB339_357 := n10_; have NB357_339 := n11_; have NB0_357 := n12_; have NB357_0 := n13_; clear n0_ n1_ n2_ n3_ n4_ n5_ n6_ n7_ n8_ n9_ n10_ n11_ n12_ n13_; clear hb hbox hg; obtain ⟨Ao82, co82, eo82⟩ := Kd.R_slice HO353.out; subst eo82; have hnb83 := NB357_339.out; have hnc83 := NB339_357.out; have hnb84 := NB357_0.out; have hnc84 := NB0_357.out; have hcz85_0 : w81.cell? ⟨gb357, 0, none⟩ = some (.slice none 0 0) := (blk_cell BK357.out 0).trans rfl; have hcz85_1 : w81.cell? ⟨gb357, 1, none⟩ = some (.slice none 0 0) := (blk_cell BK357.out 1).trans rfl; have hfz85_0 := blk_frozen BK357.out 0; have hfz85_1 := blk_frozen BK357.out 1; obtain ⟨Ao86, co86, eo86⟩ := Kd.R_slice HO356.out; subst eo86) | (go_at_call 51; (with_reducible refine (spec_l1Cur_pick.calls g s0_0 t343 t344 14 t358 t359 t360 w0 _ ?side1 ?side2 A7.out).mono ?_); (case side1 => repeat (first | exact isW64 HI0.out | refine isW64 (IsS64.set_1 ?_ _) | refine isW64 (IsS64.set_2 ?_ _) | refine isW64 (IsS64.far ?_ NB0_339.out _) | refine isW64 (IsS64.far ?_ NB0_357.out _))); (case side2 => repeat (first | exact nbW HB.out | refine nbW (below_set ?_ (IsS64.ge HI0.out)) | refine nbW (below_set ?_ GE339.out) | refine nbW (below_set ?_ GE357.out))); rintro e w87 ⟨rfl, hi, hb, hk⟩; have n0_ := Aside0.mk (KeepBut.blk hk (g' := gb339) (o := .cells #[.slice none 0 0, .slice none 0 0] 24 (0, 0)) (by apply kbW; refine blk_far ?_ NB339_357.out _; apply kbW; refine blk_far ?_ NB339_357.out _; apply kbW; exact BK339.out) NB339_0.out (by simp)); have n1_ := Aside0.mk (Kd.R_mono (Kd.R_keep (IsS64.apart (show IsS64 w0 _ g s0_0 t343 t344 from by repeat (first | exact isW64 HI0.out | refine isW64 (IsS64.set_1 ?_ _) | refine isW64 (IsS64.set_2 ?_ _) | refine isW64 (IsS64.far ?_ NB0_339.out _) | refine isW64 (IsS64.far ?_ NB0_357.out _))) (by apply rbW; exact (Kd.R_mono (Kd.R_far (p := ⟨gb357, 1, none⟩) (Kd.R_far (p := ⟨gb357, 0, none⟩) (Kd.R_types HO342.out BK357.out (by decide)) (fun _ hk => hk.2) (.slice Ao82 t351.length co82)) (fun _ hk => hk.2) (.slice Ao86 t354.length co86)) (fun _ h_ => h_.1))) (by decide)) hk (fun _ h => h.2)) (fun _ h => h.1)); have n2_ := Aside0.mk (Kd.R_mono (Kd.R_keep (IsS64.apart (show IsS64 w0 _ g s0_0 t343 t344 from by repeat (first | exact isW64 HI0.out | refine isW64 (IsS64.set_1 ?_ _) | refine isW64 (IsS64.set_2 ?_ _) | refine isW64 (IsS64.far ?_ NB0_339.out _) | refine isW64 (IsS64.far ?_ NB0_357.out _))) (by apply rbW; exact (Kd.R_mono (Kd.R_far (p := ⟨gb357, 1, none⟩) (Kd.R_far (p := ⟨gb357, 0, none⟩) (Kd.R_types HO353.out BK357.out (by decide)) (fun _ hk => hk.2) (.slice Ao82 t351.length co82)) (fun _ hk => hk.2) (.slice Ao86 t354.length co86)) (fun _ h_ => h_.1))) (by decide)) hk (fun _ h => h.2)) (fun _ h => h.1)); have n3_ := Aside0.mk (Kd.R_mono (Kd.R_keep (IsS64.apart (show IsS64 w0 _ g s0_0 t343 t344 from by repeat (first | exact isW64 HI0.out | refine isW64 (IsS64.set_1 ?_ _) | refine isW64 (IsS64.set_2 ?_ _) | refine isW64 (IsS64.far ?_ NB0_339.out _) | refine isW64 (IsS64.far ?_ NB0_357.out _))) (by apply rbW; exact (Kd.R_mono (Kd.R_far (p := ⟨gb357, 1, none⟩) (Kd.R_far (p := ⟨gb357, 0, none⟩) (Kd.R_types HO356.out BK357.out (by decide)) (fun _ hk => hk.2) (.slice Ao82 t351.length co82)) (fun _ hk => hk.2) (.slice Ao86 t354.length co86)) (fun _ h_ => h_.1))) (by decide)) hk (fun _ h => h.2)) (fun _ h => h.1)); have n4_ := Aside0.mk (KeepBut.blk hk (g' := gb357) (o := .cells #[.slice Ao82 t351.length co82, .slice Ao86 t354.length co86] 24 (0, 0)) (by apply kbW; refine blk_put (cs := #[.slice Ao82 t351.length co82, .slice none 0 0]) ?_ 1 _ rfl; apply kbW; refine blk_put (cs := #[.slice none 0 0, .slice none 0 0]) ?_ 0 _ rfl; apply kbW; exact BK357.out) NB357_0.out (by simp)); have n5_ := Aside0.mk (KeepBut.trans (by repeat (first | exact kpW HK.out | refine kpW (KeepBut.set_ ?_ _ _) | refine kpW (keep_far ?_ GW339.out _) | refine kpW (keep_far ?_ GW357.out _))) hk (.inl rfl)); have n6_ := Aside0.mk (hb); have n7_ := Aside0.mk (hi); clear BK339; clear HO342; clear HO353; clear HO356; clear BK357; clear HK; clear HB; clear HI0; have BK339 := n0_; have HO342 := n1_; have HO353 := n2_; have HO356 := n3_; have BK357 := n4_; have HK := n5_; have HB := n6_; have HI0 := n7_; clear n0_ n1_ n2_ n3_ n4_ n5_ n6_ n7_; (try clear hb); (try clear hb2); (try clear hk); (try clear hi); have hcz88_0 : w87.cell? ⟨gb357, 0, none⟩ = some (.slice Ao82 t351.length co82) := (blk_cell BK357.out 0).trans rfl; have hcz88_1 : w87.cell? ⟨gb357, 1, none⟩ = some (.slice Ao86 t354.length co86) := (blk_cell BK357.out 1).trans rfl; have hfz88_0 := blk_frozen BK357.out 0; have hfz88_1 := blk_frozen BK357.out 1; have hnb89 := NB339_0.out; have hnc89 := NB0_339.out; have hcz90_0 : w87.cell? ⟨gb339, 0, none⟩ = some (.slice none 0 0) := (blk_cell BK339.out 0).trans rfl; have hcz90_1 : w87.cell? ⟨gb339, 1, none⟩ = some (.slice none 0 0) := (blk_cell BK339.out 1).trans rfl; have hfz90_0 := blk_frozen BK339.out 0; have hfz90_1 := blk_frozen BK339.out 1))
    repeat (go_quiet (first | fail); try go_wp2_with (first | fail))
    refine bodyPost_ret (results_cell_row rfl _ _ gb339 24 #[.slice Ao82 t351.length co82, .slice Ao86 t354.length co86] (0, 0) _ rfl (by apply kbW; refine blk_put (cs := #[.slice Ao82 t351.length co82, .slice none 0 0]) ?_ 1 _ rfl; apply kbW; refine blk_put (cs := #[.slice none 0 0, .slice none 0 0]) ?_ 0 _ rfl; apply kbW; exact BK339.out) Tryz.underlying24 rfl (by kernel_rfl)) rfl ?_
    exact ⟨_, _, by first | rfl | (simp [errW_none, errW_some] <;> rfl) | (simp [*, errW_none, errW_some] <;> rfl), by apply rbW; exact Kd.R_mono (Kd.R_far (p := ⟨gb339, 1, none⟩) (Kd.R_far (p := ⟨gb339, 0, none⟩) (Kd.R_types HO353.out BK339.out (by decide)) (fun _ hk => hk.2) (.slice Ao82 t351.length co82)) (fun _ hk => hk.2) (.slice Ao86 t354.length co86)) (fun _ hk => hk.1.1), by apply rbW; exact Kd.R_mono (Kd.R_far (p := ⟨gb339, 1, none⟩) (Kd.R_far (p := ⟨gb339, 0, none⟩) (Kd.R_types HO356.out BK339.out (by decide)) (fun _ hk => hk.2) (.slice Ao82 t351.length co82)) (fun _ hk => hk.2) (.slice Ao86 t354.length co86)) (fun _ hk => hk.1.1), by repeat (first | exact isW64 HI0.out | refine isW64 (IsS64.set_1 ?_ _) | refine isW64 (IsS64.set_2 ?_ _) | refine isW64 (IsS64.far ?_ NB0_339.out _) | refine isW64 (IsS64.far ?_ NB0_357.out _)), by repeat (first | exact nbW HB.out | refine nbW (below_set ?_ (IsS64.ge HI0.out)) | refine nbW (below_set ?_ GE339.out) | refine nbW (below_set ?_ GE357.out)), by repeat (first | exact kpW HK.out | refine kpW (KeepBut.set_ ?_ _ _) | refine kpW (keep_far ?_ GW339.out _) | refine kpW (keep_far ?_ GW357.out _))⟩
 ·replace c5 := Bool.eq_false_iff.mpr c5
  subst c5
  rw [if_neg (show ¬ (false = true) by decide)] at H
  replace H := Option.bind_eq_some_iff.mp H
  obtain ⟨⟨t346, t349, t350⟩, A910, H⟩ := H
  (try dsimp -simprocs only at H)
  have A91 := Aside0.mk A910
  clear A910
  simp only [Option.some.injEq, Prod.mk.injEq] at H
  obtain ⟨rfl, rfl, rfl, rfl⟩ := H
  go_enter Tryz.func69, Tryz.ntmps69
  go_wp2_with (first | ((with_reducible refine gate_dst (N := 4) rfl ?_); refine box_event ?hg (N := 4) ?hd (cs := #[.slice none 0 0, .slice none 0 0]) (t := 24) ?hr ?_; (case hd => rfl); (case hg => rfl); (case hr => first | (go_simp; done) | (go_simp; rfl)); intro gb339 hg w92 hbox hb; have n0_ := Aside0.mk (IsS64.below (by repeat (first | exact isW64 HI0.out | refine isW64 (IsS64.set_1 ?_ _) | refine isW64 (IsS64.set_2 ?_ _))) hb); have n1_ := Aside0.mk (KeepBut.trans (by repeat (first | exact kpW HK.out | refine kpW (KeepBut.set_ ?_ _ _))) (KeepBut.of_below hb g none) (.inl rfl)); have n2_ := Aside0.mk (below_step (by repeat (first | exact nbW HB.out | refine nbW (below_set ?_ (IsS64.ge HI0.out)))) hb); have n3_ := Aside0.mk (hbox); have n4_ := Aside0.mk ((by rw [hg]; exact (keep_size (w := w) (g := g) (row := none) (by repeat (first | exact kpW HK.out | refine kpW (KeepBut.set_ ?_ _ _)))) : w.heap.size ≤ gb339)); have n5_ := Aside0.mk ((Nat.le_trans HW0.out (by rw [hg]; exact (keep_size (w := w) (g := g) (row := none) (by repeat (first | exact kpW HK.out | refine kpW (KeepBut.set_ ?_ _ _)))) : w.heap.size ≤ gb339) : w0.heap.size ≤ gb339)); have n6_ := Aside0.mk ((by rw [hg]; exact Nat.ne_of_lt (IsS64.lt (show IsS64 w0 _ g s0_0 s0_1 s0_2 from by repeat (first | exact isW64 HI0.out | refine isW64 (IsS64.set_1 ?_ _) | refine isW64 (IsS64.set_2 ?_ _)))) : g ≠ gb339)); have n7_ := Aside0.mk ((by rw [hg]; exact Nat.ne_of_gt (IsS64.lt (show IsS64 w0 _ g s0_0 s0_1 s0_2 from by repeat (first | exact isW64 HI0.out | refine isW64 (IsS64.set_1 ?_ _) | refine isW64 (IsS64.set_2 ?_ _)))) : gb339 ≠ g)); clear HI0; clear HK; clear HB; have HI0 := n0_; have HK := n1_; have HB := n2_; have BK339 := n3_; have GW339 := n4_; have GE339 := n5_; have NB0_339 := n6_; have NB339_0 := n7_; clear n0_ n1_ n2_ n3_ n4_ n5_ n6_ n7_; clear hb hbox hg) | (go_at_call 94; (with_reducible refine (spec_l1Cur_park.calls k g s0_0 s0_1 s0_2 a1 t340 t343 t344 w0 _ ?side1 ?side2 A3.out).mono ?_); (case side1 => repeat (first | exact isW64 HI0.out | refine isW64 (IsS64.set_1 ?_ _) | refine isW64 (IsS64.set_2 ?_ _) | refine isW64 (IsS64.far ?_ NB0_339.out _))); (case side2 => repeat (first | exact nbW HB.out | refine nbW (below_set ?_ (IsS64.ge HI0.out)) | refine nbW (below_set ?_ GE339.out))); rintro e w93 ⟨v341, rfl, ho0, hi, hb, hk⟩; have n0_ := Aside0.mk (KeepBut.blk hk (g' := gb339) (o := .cells #[.slice none 0 0, .slice none 0 0] 24 (0, 0)) (kbW BK339.out) NB339_0.out (by simp)); have n1_ := Aside0.mk (Kd.R_lower ho0 (keep_size (w := w) (g := g) (row := none) (by repeat (first | exact kpW HK.out | refine kpW (KeepBut.set_ ?_ _ _) | refine kpW (keep_far ?_ GW339.out _))))); have n2_ := Aside0.mk (KeepBut.trans (by repeat (first | exact kpW HK.out | refine kpW (KeepBut.set_ ?_ _ _) | refine kpW (keep_far ?_ GW339.out _))) hk (.inl rfl)); have n3_ := Aside0.mk (hb); have n4_ := Aside0.mk (hi); clear BK339; clear HK; clear HB; clear HI0; have BK339 := n0_; have HO342 := n1_; have HK := n2_; have HB := n3_; have HI0 := n4_; clear n0_ n1_ n2_ n3_ n4_; (try clear hb); (try clear hb2); (try clear hk); (try clear hi); (try clear ho0); obtain ⟨Ao94, co94, eo94⟩ := Kd.R_slice HO342.out; subst eo94) | (go_at_call 95; (with_reducible refine (spec_paParking.calls k _ _ t340 false _ ?side1 ?side2 A4.out).mono ?_); (case side1 => exact cbW (Kd.R_reads' HO342.out).2.2); (case side2 => exact (Kd.R_reads' HO342.out).2.1); rintro e w95 ⟨rfl, hb⟩; have n0_ := Aside0.mk (Kd.R_below (rbW HO342.out) hb); have n1_ := Aside0.mk (IsS64.below (by repeat (first | exact isW64 HI0.out | refine isW64 (IsS64.set_1 ?_ _) | refine isW64 (IsS64.set_2 ?_ _) | refine isW64 (IsS64.far ?_ NB0_339.out _))) hb); have n2_ := Aside0.mk (blk_below (kbW BK339.out) hb); have n3_ := Aside0.mk (KeepBut.trans (by repeat (first | exact kpW HK.out | refine kpW (KeepBut.set_ ?_ _ _) | refine kpW (keep_far ?_ GW339.out _))) (KeepBut.of_below hb g none) (.inl rfl)); have n4_ := Aside0.mk (below_step (by repeat (first | exact nbW HB.out | refine nbW (below_set ?_ (IsS64.ge HI0.out)) | refine nbW (below_set ?_ GE339.out))) hb); clear HO342; clear HI0; clear BK339; clear HK; clear HB; have HO342 := n0_; have HI0 := n1_; have BK339 := n2_; have HK := n3_; have HB := n4_; clear n0_ n1_ n2_ n3_ n4_; (try clear hb); (try clear hb2); (try clear hk); (try clear hi)) | (go_at_call 70; (with_reducible refine (spec_l1Cur_heights.calls k g s0_0 t343 t344 a1 t346 t349 t350 w0 _ ?side1 ?side2 A91.out).mono ?_); (case side1 => repeat (first | exact isW64 HI0.out | refine isW64 (IsS64.set_1 ?_ _) | refine isW64 (IsS64.set_2 ?_ _) | refine isW64 (IsS64.far ?_ NB0_339.out _))); (case side2 => repeat (first | exact nbW HB.out | refine nbW (below_set ?_ (IsS64.ge HI0.out)) | refine nbW (below_set ?_ GE339.out))); rintro e w96 ⟨v347, rfl, ho0, hi, hb, hk⟩; have n0_ := Aside0.mk (KeepBut.blk hk (g' := gb339) (o := .cells #[.slice none 0 0, .slice none 0 0] 24 (0, 0)) (kbW BK339.out) NB339_0.out (by simp)); have n1_ := Aside0.mk (Kd.R_mono (Kd.R_told (Kd.R_oldK (IsS64.apart (show IsS64 w0 _ g s0_0 t343 t344 from by repeat (first | exact isW64 HI0.out | refine isW64 (IsS64.set_1 ?_ _) | refine isW64 (IsS64.set_2 ?_ _) | refine isW64 (IsS64.far ?_ NB0_339.out _))) (rbW HO342.out) (by decide)) hk) (Kd.R_base ho0)) (fun _ h_ => h_.1)); have n2_ := Aside0.mk (Kd.R_lower (Kd.R_new' ho0 (Kd.R_lt (rbW HO342.out))) (keep_size (w := w) (g := g) (row := none) (by repeat (first | exact kpW HK.out | refine kpW (KeepBut.set_ ?_ _ _) | refine kpW (keep_far ?_ GW339.out _))))); have n3_ := Aside0.mk (KeepBut.trans (by repeat (first | exact kpW HK.out | refine kpW (KeepBut.set_ ?_ _ _) | refine kpW (keep_far ?_ GW339.out _))) hk (.inl rfl)); have n4_ := Aside0.mk (hb); have n5_ := Aside0.mk (hi); clear BK339; clear HO342; clear HK; clear HB; clear HI0; have BK339 := n0_; have HO342 := n1_; have HO348 := n2_; have HK := n3_; have HB := n4_; have HI0 := n5_; clear n0_ n1_ n2_ n3_ n4_ n5_; (try clear hb); (try clear hb2); (try clear hk); (try clear hi); (try clear ho0); obtain ⟨Ao97, co97, eo97⟩ := Kd.R_slice HO348.out; subst eo97; have hnb98 := NB339_0.out; have hnc98 := NB0_339.out; have hcz99_0 : w96.cell? ⟨gb339, 0, none⟩ = some (.slice none 0 0) := (blk_cell BK339.out 0).trans rfl; have hcz99_1 : w96.cell? ⟨gb339, 1, none⟩ = some (.slice none 0 0) := (blk_cell BK339.out 1).trans rfl; have hfz99_0 := blk_frozen BK339.out 0; have hfz99_1 := blk_frozen BK339.out 1))
  repeat (go_quiet (first | fail); try go_wp2_with (first | fail))
  refine bodyPost_ret (results_cell_row rfl _ _ gb339 24 #[.slice Ao97 t346.length co97, .slice Ao94 t340.length co94] (0, 0) _ rfl (by apply kbW; refine blk_put (cs := #[.slice Ao97 t346.length co97, .slice none 0 0]) ?_ 1 _ rfl; apply kbW; refine blk_put (cs := #[.slice none 0 0, .slice none 0 0]) ?_ 0 _ rfl; apply kbW; exact BK339.out) Tryz.underlying24 rfl (by kernel_rfl)) rfl ?_
  exact ⟨_, _, by first | rfl | (simp [errW_none, errW_some] <;> rfl) | (simp [*, errW_none, errW_some] <;> rfl), by apply rbW; exact Kd.R_mono (Kd.R_far (p := ⟨gb339, 1, none⟩) (Kd.R_far (p := ⟨gb339, 0, none⟩) (Kd.R_types HO348.out BK339.out (by decide)) (fun _ hk => hk.2) (.slice Ao97 t346.length co97)) (fun _ hk => hk.2) (.slice Ao94 t340.length co94)) (fun _ hk => hk.1.2), by apply rbW; exact Kd.R_mono (Kd.R_far (p := ⟨gb339, 1, none⟩) (Kd.R_far (p := ⟨gb339, 0, none⟩) (Kd.R_types HO342.out BK339.out (by decide)) (fun _ hk => hk.2) (.slice Ao97 t346.length co97)) (fun _ hk => hk.2) (.slice Ao94 t340.length co94)) (fun _ hk => hk.1.2), by repeat (first | exact isW64 HI0.out | refine isW64 (IsS64.set_1 ?_ _) | refine isW64 (IsS64.set_2 ?_ _) | refine isW64 (IsS64.far ?_ NB0_339.out _)), by repeat (first | exact nbW HB.out | refine nbW (below_set ?_ (IsS64.ge HI0.out)) | refine nbW (below_set ?_ GE339.out)), by repeat (first | exact kpW HK.out | refine kpW (KeepBut.set_ ?_ _ _) | refine kpW (keep_far ?_ GW339.out _))⟩

/-! ### spec_DrawWalkText: function 28 -/
def spec_DrawWalkText.f (k : Nat) (l0 : List Int) : Option (List Int × List Int) := (spec_l1Cur_walk.f k l0 0 0 8).bind fun bt373 => (some (bt373.1, bt373.2.1))
theorem spec_DrawWalkText.mono : ∀ a0 k, LeO (spec_DrawWalkText.f k a0) (spec_DrawWalkText.f (k + 1) a0) := by
 intro a0 k
 unfold spec_DrawWalkText.f
 repeat' first | (with_reducible first | exact spec_l1Cur_walk.mono _ _ _ _ _ | exact LeO.refl _ | exact LeO.none _ | refine LeO.ite ?_ ?_ | refine LeO.bind ?_ (fun _ => ?_)) | exact LeO.none _ | refine LeO.ite ?_ ?_ | refine LeO.bind ?_ (fun _ => ?_)
set_option maxHeartbeats 8000000 in
set_option maxRecDepth 100000 in
theorem spec_DrawWalkText.calls (k : Nat) (A0 : Option Addr) (c0 : Nat) (l0 : List Int) (r1 : List Int) (r2 : List Int) (w : World) (hr0 : Kd.C (Kd.int .u8) w A0 l0.length l0) (hc0 : l0.length ≤ c0) (h : spec_DrawWalkText.f k l0 = some (r1, r2)) :
  Calls Tryz.prog 28 #[.slice A0 l0.length c0] w fun e w' => ∃ v0_ v1_ : Value, e = .returned (.agg #[v0_, v1_]) ∧ Kd.R (Kd.int .i64) 3 w' w.heap.size (fun k_ => some k_ ≠ (v1_ : Value).ownBlock) v0_ r1 ∧ Kd.R (Kd.int .i64) 3 w' w.heap.size (fun k_ => some k_ ≠ (v0_ : Value).ownBlock) v1_ r2 ∧ Below w.heap.size w w' := by
 have hu24 := Tryz.underlying24
 have hu64 := Tryz.underlying64
 have HR0 := Aside0.mk hr0
 have HC0 := Aside0.mk hc0
 clear hr0 hc0
 have HB := Aside0.mk (Below.refl w.heap.size w)
 have H : ((spec_l1Cur_walk.f k l0 0 0 8).bind fun bt373 => (some (bt373.1, bt373.2.1))) = some (r1, r2) := h
 clear h
 replace H := Option.bind_eq_some_iff.mp H
 obtain ⟨⟨t373, t376, t379, t380⟩, A20, H⟩ := H
 (try dsimp -simprocs only at H)
 have A2 := Aside0.mk A20
 clear A20
 simp only [Option.some.injEq, Prod.mk.injEq] at H
 obtain ⟨rfl, rfl⟩ := H
 go_enter Tryz.func28, Tryz.ntmps28
 go_wp2_with (first | ((with_reducible refine gate_dst (N := 2) rfl ?_); refine box_event ?hg (N := 2) ?hd (cs := #[.slice none 0 0, .slice none 0 0]) (t := 24) ?hr ?_; (case hd => rfl); (case hg => rfl); (case hr => first | (go_simp; done) | (go_simp; rfl)); intro gb371 hg w3 hbox hb; have n0_ := Aside0.mk (below_step (nbW HB.out) hb); have n1_ := Aside0.mk (hbox); have n2_ := Aside0.mk ((by rw [hg]; exact (below_size (nbW HB.out)) : w.heap.size ≤ gb371)); have n3_ := Aside0.mk ((by rw [hg]; exact (below_size (nbW HB.out)) : w.heap.size ≤ gb371)); clear HB; have HB := n0_; have BK371 := n1_; have GW371 := n2_; have GE371 := n3_; clear n0_ n1_ n2_ n3_; clear hb hbox hg) | ((with_reducible refine gate_dst (N := 6) rfl ?_); refine box_event ?hg (N := 6) ?hd (cs := #[.slice A0 l0.length c0, .int .i64 0, .int .u64 0]) (t := 64) ?hr ?_; (case hd => rfl); (case hg => rfl); (case hr => first | (go_simp; done) | (go_simp; rfl)); intro gb372 hg w4 hbox hb; have n0_ := Aside0.mk (blk_below (kbW BK371.out) hb); have n1_ := Aside0.mk (below_step (by repeat (first | exact nbW HB.out | refine nbW (below_set ?_ GE371.out))) hb); have n2_ := Aside0.mk (hbox); have n3_ := Aside0.mk ((by rw [hg]; exact (below_size (by repeat (first | exact nbW HB.out | refine nbW (below_set ?_ GE371.out)))) : w.heap.size ≤ gb372)); have n4_ := Aside0.mk ((by rw [hg]; exact (below_size (by repeat (first | exact nbW HB.out | refine nbW (below_set ?_ GE371.out)))) : w.heap.size ≤ gb372)); have n5_ := Aside0.mk ((by rw [hg]; exact Nat.ne_of_lt (blk_lt (g := gb371) (o := .cells #[.slice none 0 0, .slice none 0 0] 24 (0, 0)) (kbW BK371.out)) : gb371 ≠ gb372)); have n6_ := Aside0.mk ((by rw [hg]; exact Nat.ne_of_gt (blk_lt (g := gb371) (o := .cells #[.slice none 0 0, .slice none 0 0] 24 (0, 0)) (kbW BK371.out)) : gb372 ≠ gb371)); clear BK371; clear HB; have BK371 := n0_; have HB := n1_; have BK372 := n2_; have GW372 := n3_; have GE372 := n4_; have NB371_372 := n5_; have NB372_371 := n6_; clear n0_ n1_ n2_ n3_ n4_ n5_ n6_; clear hb hbox hg; have HI372 := Aside0.mk (by unfold IsS64; exact ⟨_, _, BK372.out, GW372.out, HR0.out⟩ : IsS64 w w4 gb372 l0 0 0)) | ((with_reducible refine gate_callee (f := 69) rfl ?_); refine gcW 8 Tryz.func69 #[.pointer (some ⟨gb372, 0, none⟩), .int .i64 8] rfl ?_; (with_reducible refine (spec_l1Cur_walk.calls k gb372 l0 0 0 8 t373 t376 t379 t380 w _ ?side1 ?side2 A2.out).mono ?_); (case side1 => repeat (first | exact isW64 HI372.out | refine isW64 (IsS64.set_1 ?_ _) | refine isW64 (IsS64.set_2 ?_ _) | refine isW64 (IsS64.far ?_ NB372_371.out _))); (case side2 => repeat (first | exact nbW HB.out | refine nbW (below_set ?_ (IsS64.ge HI372.out)) | refine nbW (below_set ?_ GE371.out))); rintro e w5 ⟨v374, v377, rfl, ho0, ho1, hi, hb, hk⟩; refine ⟨_, rfl, ?_⟩; have n0_ := Aside0.mk (KeepBut.blk hk (g' := gb371) (o := .cells #[.slice none 0 0, .slice none 0 0] 24 (0, 0)) (kbW BK371.out) NB371_372.out (by simp)); have n1_ := Aside0.mk (Kd.R_lower ho0 (below_size (by repeat (first | exact nbW HB.out | refine nbW (below_set ?_ (IsS64.ge HI372.out)) | refine nbW (below_set ?_ GE371.out))))); have n2_ := Aside0.mk (Kd.R_lower ho1 (below_size (by repeat (first | exact nbW HB.out | refine nbW (below_set ?_ (IsS64.ge HI372.out)) | refine nbW (below_set ?_ GE371.out))))); have n3_ := Aside0.mk (hb); have n4_ := Aside0.mk (hi); clear BK371; clear HB; clear HI372; have BK371 := n0_; have HO375 := n1_; have HO378 := n2_; have HB := n3_; have HI372 := n4_; clear n0_ n1_ n2_ n3_ n4_; (try clear hb); (try clear hb2); (try clear hk); (try clear hi); (try clear ho0); (try clear ho1); obtain ⟨Ao6, co6, eo6⟩ := Kd.R_slice HO375.out; subst eo6; have hnb7 := NB371_372.out; have hnc7 := NB372_371.out; have hcz8_0 : w5.cell? ⟨gb371, 0, none⟩ = some (.slice none 0 0) := (blk_cell BK371.out 0).trans rfl; have hcz8_1 : w5.cell? ⟨gb371, 1, none⟩ = some (.slice none 0 0) := (blk_cell BK371.out 1).trans rfl; have hfz8_0 := blk_frozen BK371.out 0; have hfz8_1 := blk_frozen BK371.out 1; obtain ⟨Ao9, co9, eo9⟩ := Kd.R_slice HO378.out; subst eo9))
 refine bodyPost_ret (results_cell_row rfl _ _ gb371 24 #[.slice Ao6 t373.length co6, .slice Ao9 t376.length co9] (0, 0) _ rfl (by apply kbW; refine blk_put (cs := #[.slice Ao6 t373.length co6, .slice none 0 0]) ?_ 1 _ rfl; apply kbW; refine blk_put (cs := #[.slice none 0 0, .slice none 0 0]) ?_ 0 _ rfl; apply kbW; exact BK371.out) Tryz.underlying24 rfl (by kernel_rfl)) rfl ?_
 exact ⟨_, _, by first | rfl | (simp [errW_none, errW_some] <;> rfl) | (simp [*, errW_none, errW_some] <;> rfl), by apply rbW; exact Kd.R_mono (Kd.R_far (p := ⟨gb371, 1, none⟩) (Kd.R_far (p := ⟨gb371, 0, none⟩) (Kd.R_types HO375.out BK371.out (by decide)) (fun _ hk => hk.2) (.slice Ao6 t373.length co6)) (fun _ hk => hk.2) (.slice Ao9 t376.length co9)) (fun _ hk => hk.1), by apply rbW; exact Kd.R_mono (Kd.R_far (p := ⟨gb371, 1, none⟩) (Kd.R_far (p := ⟨gb371, 0, none⟩) (Kd.R_types HO378.out BK371.out (by decide)) (fun _ hk => hk.2) (.slice Ao6 t373.length co6)) (fun _ hk => hk.2) (.slice Ao9 t376.length co9)) (fun _ hk => hk.1), by repeat (first | exact nbW HB.out | refine nbW (below_set ?_ (IsS64.ge HI372.out)) | refine nbW (below_set ?_ GE371.out))⟩

/-! ### strings_Join: function 113 (strings.Join, by the library's contract) -/
section
open Go.Shelf
def laysJoin_ren : Go.Shelf.Ren := ⟨fun | 156 => 113 | 165 => 125 | 166 => 126 | 169 => 127 | 240 => 140 | 241 => 141 | 276 => 157 | 277 => 158 | n => n, fun | 31 => 54 | 9 => 9 | 3 => 3 | 4 => 4 | 0 => 0 | 20 => 20 | 72 => 110 | 76 => 106 | 70 => 108 | 37 => 30 | 75 => 105 | 127 => 120 | 164 => 137 | 5 => 5 | 80 => 112 | n => n, fun | n => n⟩
theorem laysJoin : Go.Proofs.Lays.n156 Tryz.prog laysJoin_ren := {
  mixed := by kernel_rfl
  f156 := Tryz.func113.trans (congrArg some (by kernel_rfl))
  f165 := Tryz.func125.trans (congrArg some (by kernel_rfl))
  f166 := Tryz.func126.trans (congrArg some (by kernel_rfl))
  f169 := Tryz.func127.trans (congrArg some (by kernel_rfl))
  f240 := Tryz.func140.trans (congrArg some (by kernel_rfl))
  f241 := Tryz.func141.trans (congrArg some (by kernel_rfl))
  f276 := Tryz.func157.trans (congrArg some (by kernel_rfl))
  f277 := Tryz.func158.trans (congrArg some (by kernel_rfl))
  t0 := Tryz.underlying0
  a0 := Tryz.isAgg0
  z0 := Tryz.sizeOf0
  v0 := Tryz.zeroValue0
  t3 := Tryz.underlying3
  a3 := Tryz.isAgg3
  z3 := Tryz.sizeOf3
  v3 := Tryz.zeroValue3
  t4 := Tryz.underlying4
  a4 := Tryz.isAgg4
  z4 := Tryz.sizeOf4
  v4 := Tryz.zeroValue4
  t9 := Tryz.underlying9
  a9 := Tryz.isAgg9
  z9 := Tryz.sizeOf9
  v9 := Tryz.zeroValue9
  t20 := Tryz.underlying20
  a20 := Tryz.isAgg20
  z20 := Tryz.sizeOf20
  v20 := Tryz.zeroValue20
  t31 := Tryz.underlying54
  a31 := Tryz.isAgg54
  z31 := Tryz.sizeOf54
  v31 := Tryz.zeroValue54
  t37 := Tryz.underlying30
  a37 := Tryz.isAgg30
  z37 := Tryz.sizeOf30
  v37 := Tryz.zeroValue30
  t70 := Tryz.underlying108
  a70 := Tryz.isAgg108
  z70 := Tryz.sizeOf108
  v70 := Tryz.zeroValue108
  t72 := Tryz.underlying110
  a72 := Tryz.isAgg110
  z72 := Tryz.sizeOf110
  v72 := Tryz.zeroValue110
  t75 := Tryz.underlying105
  a75 := Tryz.isAgg105
  z75 := Tryz.sizeOf105
  v75 := Tryz.zeroValue105
  t76 := Tryz.underlying106
  a76 := Tryz.isAgg106
  z76 := Tryz.sizeOf106
  v76 := Tryz.zeroValue106
  t127 := Tryz.underlying120
  a127 := Tryz.isAgg120
  z127 := Tryz.sizeOf120
  v127 := Tryz.zeroValue120
  t164 := Tryz.underlying137
  a164 := Tryz.isAgg137
  z164 := Tryz.sizeOf137
  v164 := Tryz.zeroValue137 }
theorem laysJoinX : Builder.Extra Tryz.prog laysJoin_ren := {
  sizeBuilder := by kernel_rfl
  liesBuilder := by kernel_rfl
  t5 := Tryz.underlying5
  a5 := Tryz.isAgg5
  z5 := Tryz.sizeOf5
  v5 := Tryz.zeroValue5
  infoByte := by kernel_rfl
  cellsByte := by kernel_rfl
  sizeByte := by kernel_rfl
  neB5 := by decide }
def strings_Join.f (l0 : List ByteArray) (a1 : ByteArray) : Option ByteArray := if l0.length ≤ 1000000 ∧ (Lib.join (l0.map (·.data.toList)) a1.data.toList).length ≤ 140737488355328 then some ⟨(Lib.join (l0.map (·.data.toList)) a1.data.toList).toArray⟩ else none
theorem strings_Join.viewless {e base : Nat} {ok : Nat → Prop} {w : World} {A : Option Addr} {n c : Nat} {xs : List ByteArray} (h : Kd.R Kd.string e w base ok (.slice A n c) xs) : ∀ ad, A = some ad → ∃ g, ad = ⟨g, 0, none⟩ := by
  rintro ad rfl
  exact Kd.R_head h
theorem strings_Join.calls (A0 : Option Addr) (c0 : Nat) (l0 : List ByteArray) (a1 : ByteArray) (r : ByteArray) (w : World) (hv : ∀ ad, A0 = some ad → ∃ g, ad = ⟨g, 0, none⟩) (hr0 : Kd.C Kd.string w A0 l0.length l0) (hc0 : l0.length ≤ c0) (h : strings_Join.f l0 a1 = some r) : Calls Tryz.prog 113 #[.slice A0 l0.length c0, .string a1] w fun e w' => e = .returned (.string r) ∧ Below w.heap.size w w' := by
  unfold strings_Join.f at h
  split at h
  next hc =>
    obtain rfl := Option.some.inj h
    rcases Nat.eq_zero_or_pos l0.length with h0 | h0
    · obtain rfl := List.length_eq_zero_iff.1 h0
      have hx : Calls Tryz.prog 113 #[.slice A0 0 c0, .string a1] w fun e w' => e = .returned (.string ⟨#[]⟩) ∧ w' = w := Any.strings_Join_none laysJoin laysJoinX A0 c0 a1 w
      refine hx.mono ?_
      rintro e w' ⟨rfl, rfl⟩
      exact ⟨rfl, Below.refl _ _⟩
    · have hcell := fun (j : Nat) (hj : j < l0.length) => Kd.at_string hr0 (j : Int) (by omega) (by omega)
      obtain ⟨ad, rfl, _⟩ := hcell 0 h0
      obtain ⟨g, rfl⟩ := hv ad rfl
      have hcs : ∀ (j : Nat) x, l0[j]? = some x → w.cell? ⟨g, 0 + j, none⟩ = some (.string x) := by
        intro j x hx
        obtain ⟨hj, e⟩ := List.getElem?_eq_some_iff.1 hx
        obtain ⟨ad2, e2, h2⟩ := hcell j hj
        obtain rfl := Option.some.inj e2
        rw [add_plain, Int.toNat_natCast] at h2
        rw [Nat.zero_add, h2]
        unfold rdOf
        rw [Int.toNat_natCast, List.getD_eq_getElem?_getD, hx]
        rfl
      have hx : Calls Tryz.prog 113 #[.slice (some ⟨g, 0, none⟩) l0.length c0, .string a1] w fun e w' => e = .returned (.string ⟨(Lib.join (l0.map (·.data.toList)) a1.data.toList).toArray⟩) ∧ Below w.heap.size w w' :=
        Any.strings_Join laysJoin laysJoinX g 0 c0 l0 a1 w hcs (by
          have := hcs 0 l0[0] (List.getElem?_eq_getElem h0)
          exact World.block_lt_of_cell? _ _ this) (by omega) hc0 hc.2
      exact hx
  next => cases h
end

/-! ### impl_joined: function 93 -/
def impl_joined.l0 : Nat → ByteArray → List ByteArray → List Int → Int → Int → Option (ByteArray)
 | 0, _, _, _, _, _ => none
 | k + 1, x1, x5, x9, x10, x11 => if x11 < x10 then (if 0 ≤ x11 then (if x11 < (x9.length : Int) then ((strconv_Itoa_112.f (rd x9 x11)).bind fun t385 => (if x5.length < 8796093022208 then (impl_joined.l0 k x1 (x5 ++ [t385]) x9 x10 (wrap64 (x11 + 1))) else (none))) else (none)) else (none)) else ((strings_Join.f x5 x1).bind fun t389 => (some t389))
def impl_joined.f (k : Nat) (l0 : List Int) (a1 : ByteArray) : Option (ByteArray) := impl_joined.l0 k a1 (([] : List ByteArray)) l0 (l0.length : Int) 0
theorem impl_joined.mono_l : ∀ k, (∀ y0 y1 y2 y3 y4, LeO (impl_joined.l0 k y0 y1 y2 y3 y4) (impl_joined.l0 (k + 1) y0 y1 y2 y3 y4))
 | 0 => fun _ _ _ _ _ r h => by simp [impl_joined.l0] at h
 | k + 1 => by
  have ih0 := impl_joined.mono_l k
  ·intro y0 y1 y2 y3 y4
   unfold impl_joined.l0
   repeat' first | (with_reducible first | exact ih0 _ _ _ _ _ | exact LeO.refl _ | exact LeO.none _ | refine LeO.ite ?_ ?_ | refine LeO.bind ?_ (fun _ => ?_)) | exact LeO.none _ | refine LeO.ite ?_ ?_ | refine LeO.bind ?_ (fun _ => ?_)
theorem impl_joined.mono : ∀ a0 a1 k, LeO (impl_joined.f k a0 a1) (impl_joined.f (k + 1) a0 a1) := by
 intro a0 a1 k
 have ih0 := impl_joined.mono_l k
 unfold impl_joined.f
 repeat' first | (with_reducible first | exact ih0 _ _ _ _ _ | exact LeO.refl _ | exact LeO.none _ | refine LeO.ite ?_ ?_ | refine LeO.bind ?_ (fun _ => ?_)) | exact LeO.none _ | refine LeO.ite ?_ ?_ | refine LeO.bind ?_ (fun _ => ?_)
set_option maxHeartbeats 8000000 in
set_option maxRecDepth 100000 in
theorem impl_joined.calls (k : Nat) (A0 : Option Addr) (c0 : Nat) (l0 : List Int) (a1 : ByteArray) (r : ByteArray) (w : World) (hr0 : Kd.C (Kd.int .i64) w A0 l0.length l0) (hc0 : l0.length ≤ c0) (h : impl_joined.f k l0 a1 = some r) :
  Calls Tryz.prog 93 #[.slice A0 l0.length c0, .string a1] w fun e w' => e = .returned (.string r) ∧ Below w.heap.size w w' := by
 have HR0 := Aside0.mk hr0
 have HC0 := Aside0.mk hc0
 clear hr0 hc0
 have HB := Aside0.mk (Below.refl w.heap.size w)
 have H : (impl_joined.l0 k a1 (([] : List ByteArray)) l0 (l0.length : Int) 0) = some r := h
 clear h
 obtain ⟨y381, hy381⟩ : ∃ y_ : List ByteArray, y_ = (([] : List ByteArray)) := ⟨_, rfl⟩
 replace H : (impl_joined.l0 k a1 y381 l0 (l0.length : Int) 0) = some r := by first | (rw [hy381]; with_reducible exact H) | (have H2_ := (Option.bind_some _ _).symm.trans H; rw [hy381]; with_reducible exact H2_) | (have H2_ := (Option.bind_some _ _).symm.trans H; with_reducible exact H2_) | with_reducible exact H | (rw [hy381]; exact H) | exact H
 have Ny381 := Aside0.mk hy381
 clear hy381
 have H' := Aside0.mk H
 clear H
 go_enter Tryz.func93, Tryz.ntmps93
 go_wp2_with (first | ((with_reducible refine gate_dst (N := 8) rfl ?_); refine Kd.R_lit Kd.string _ 9 ?hg (N := 8) ?hd (xs := ([] : List ByteArray)) (inner := []) (ok := fun _ => True) (okp := fun _ => True) ?hr ?hp (fun _ hk => hk) trivial (Below.refl _ _) (Nat.le_refl _) (by simp) ?_; (case hd => rfl); (case hg => rfl); (case hr => first | (go_simp; done) | (go_simp; rfl)); (case hp => exact (Reps.none _ _)); intro v382 w3 ho4 hb hg_ hnew_; clear hg_ hnew_; (first | rw [← Ny381.out] at ho4 | (simp only [Int.reduceToNat] at ho4; rw [← Ny381.out] at ho4)); have n0_ := Aside0.mk (Kd.R_lower ho4 (below_size (nbW HB.out))); have n1_ := Aside0.mk (below_step (nbW HB.out) hb); clear HB; have HO383 := n0_; have HB := n1_; clear n0_ n1_; clear hb ho4))
 go_loopg [5, 11] k (fun kq v5 v11 w' => ∃ (x5_1 : List ByteArray) (x11_1 : Int), v11 = .int .i64 x11_1 ∧ Aside0 (impl_joined.l0 kq a1 x5_1 l0 (l0.length : Int) x11_1 = some r) ∧ Aside0 (kq ≤ k) ∧ Aside0 (Kd.R Kd.string 9 w' w.heap.size (fun _ => True) v5 x5_1) ∧ Aside0 (Below w.heap.size w w'))
 case atStart => exact ⟨(y381), (0), (by first | rfl | (simp; done) | (simp [*]; done)), H', ⟨Nat.le_refl _⟩, ⟨by apply rbW; exact HO383.out⟩, ⟨nbW HB.out⟩⟩
 case round =>
  clear H'
  try clear p2
  obtain ⟨x5_1, x11_1, rfl, HA, HK1, HO_5, HB⟩ := hrel
  cases gk with
  | zero => exact absurd HA.out (by simp [impl_joined.l0])
  | succ k1 =>
   have H := HA.out
   clear HA
   simp only [impl_joined.l0] at H
   by_cases c5 : x11_1 < (l0.length : Int)
   ·rw [if_pos c5] at H
    have c5b0 := decide_eq_true c5
    clear c5
    by_cases c6 : 0 ≤ x11_1
    ·rw [if_pos c6] at H
     have c6b0 := decide_eq_true c6
     clear c6
     by_cases c7 : x11_1 < (l0.length : Int)
     ·rw [if_pos c7] at H
      have c7b0 := decide_eq_true c7
      clear c7
      replace H := Option.bind_eq_some_iff.mp H
      obtain ⟨t385, A80, H⟩ := H
      (try dsimp -simprocs only at H)
      have A8 := Aside0.mk A80
      clear A80
      by_cases c9 : x5_1.length < 8796093022208
      ·rw [if_pos c9] at H
       have LMc9 := Aside0.mk c9
       clear c9
       obtain ⟨y386, hy386⟩ : ∃ y_ : List ByteArray, y_ = (x5_1 ++ [t385]) := ⟨_, rfl⟩
       replace H : (impl_joined.l0 k1 a1 y386 l0 (l0.length : Int) (wrap64 (x11_1 + 1))) = some r := by first | (rw [hy386]; with_reducible exact H) | (have H2_ := (Option.bind_some _ _).symm.trans H; rw [hy386]; with_reducible exact H2_) | (have H2_ := (Option.bind_some _ _).symm.trans H; with_reducible exact H2_) | with_reducible exact H | (rw [hy386]; exact H) | exact H
       have Ny386 := Aside0.mk hy386
       clear hy386
       have H' := Aside0.mk H
       clear H
       have p384 : 0 ≤ (x11_1 : Int) := of_decide_eq_true (by first | (with_reducible assumption) | assumption)
       have q384 : x11_1 < (l0.length : Int) := of_decide_eq_true (by first | (with_reducible assumption) | assumption)
       obtain ⟨ad384, e384, hx384_0⟩ := Kd.at_int HR0.out x11_1 p384 q384
       cases e384
       replace hx384_0 := (HB.out.cell (World.block_lt_of_cell? w _ hx384_0)).trans hx384_0
       replace p384 := eq_true p384
       replace q384 := eq_true q384
       go_wp2_with (first | ((with_reducible refine gate_callee (f := 112) rfl ?_); refine gcW 17 Tryz.func112 #[.int .i64 (rd l0 x11_1)] rfl ?_; (with_reducible refine (strconv_Itoa_112.calls (rd l0 x11_1) t385 _ A8.out).mono ?_); rintro e w' ⟨rfl, ⟨nd, rfl⟩⟩; refine ⟨_, rfl, ?_⟩) | ((with_reducible refine gate_builtin (b := .append) (xs := #[.tmp 15, .tmp 18]) rfl ?_); at_builtin; refine Kd.R_append Kd.string (w0 := w) w.heap.size rfl (.tmp 15) (.tmp 18) 54 9 (.string ⟨#[]⟩) 16 rfl Tryz.underlying54 info9 rfl (by decide) (by omega) u5 x5_1 t385 [.string t385] (fun _ => True) (fun _ => False) rfl rfl ?aP (fun _ hk => hk.elim) ?aF ?aO ?aB ?aS ?aL ?_; (case aP => exact rfl); (case aB => exact (nbW HB.out)); (case aF => exact (fun _ _ => trivial)); (case aO => exact (rbW HO_5.out)); (case aS => exact (below_size (nbW HB.out))); (case aL => have := LMc9.out; omega); intro v387 w10 ho hb hg hat; rw [← Ny386.out] at ho; have n0_ := Aside0.mk (hb); have n1_ := Aside0.mk (ho); clear HB; clear HO_5; have HB := n0_; have HO388 := n1_; clear n0_ n1_; clear ho hb hg hat))
       go_roundg k1
       case measure => have := HK1.out; omega
       case rel => exact ⟨(y386), (wrap64 (x11_1 + 1)), (by first | rfl | (simp; done) | (simp [*]; done)), H', ⟨by have := HK1.out; omega⟩, ⟨by apply rbW; exact HO388.out⟩, ⟨nbW HB.out⟩⟩
      ·rw [if_neg c9] at H
       exact absurd H (by simp)
     ·rw [if_neg c7] at H
      exact absurd H (by simp)
    ·rw [if_neg c6] at H
     exact absurd H (by simp)
   ·rw [if_neg c5] at H
    have c5b0 := decide_eq_false c5
    clear c5
    replace H := Option.bind_eq_some_iff.mp H
    obtain ⟨t389, A110, H⟩ := H
    (try dsimp -simprocs only at H)
    have A11 := Aside0.mk A110
    clear A110
    obtain rfl := Option.some.inj H
    obtain ⟨Ao12, co12, eo12⟩ := Kd.R_slice HO_5.out
    subst eo12
    go_wp2_with (first | ((with_reducible refine gate_callee (f := 113) rfl ?_); refine gcW 23 Tryz.func113 #[.slice Ao12 x5_1.length co12, .string a1] rfl ?_; (with_reducible refine (strings_Join.calls _ _ x5_1 a1 t389 _ ?sideV ?side1 ?side2 A11.out).mono ?_); (case sideV => exact strings_Join.viewless HO_5.out); (case side1 => exact cbW (Kd.R_reads' HO_5.out).2.2); (case side2 => exact (Kd.R_reads' HO_5.out).2.1); rintro e w13 ⟨rfl, hb⟩; refine ⟨_, rfl, ?_⟩; have n0_ := Aside0.mk (Kd.R_below (rbW HO_5.out) hb); have n1_ := Aside0.mk (below_step (nbW HB.out) hb); clear HO_5; clear HB; have HO_5 := n0_; have HB := n1_; clear n0_ n1_; (try clear hb); (try clear hb2); (try clear hk); (try clear hi)))
    go_ret
    exact ⟨by first | rfl | (simp [errW_none, errW_some] <;> rfl) | (simp [*, errW_none, errW_some] <;> rfl), nbW HB.out⟩

/-! ### impl_orDash: function 68 -/
def impl_orDash.f (k : Nat) (l0 : List Int) : Option (ByteArray) := if (l0.length : Int) = 0 then (some (⟨#[45]⟩ : ByteArray)) else ((impl_joined.f k l0 (⟨#[44]⟩ : ByteArray)).bind fun t390 => (some t390))
theorem impl_orDash.mono : ∀ a0 k, LeO (impl_orDash.f k a0) (impl_orDash.f (k + 1) a0) := by
 intro a0 k
 unfold impl_orDash.f
 repeat' first | (with_reducible first | exact impl_joined.mono _ _ _ | exact LeO.refl _ | exact LeO.none _ | refine LeO.ite ?_ ?_ | refine LeO.bind ?_ (fun _ => ?_)) | exact LeO.none _ | refine LeO.ite ?_ ?_ | refine LeO.bind ?_ (fun _ => ?_)
set_option maxHeartbeats 8000000 in
set_option maxRecDepth 100000 in
theorem impl_orDash.calls (k : Nat) (A0 : Option Addr) (c0 : Nat) (l0 : List Int) (r : ByteArray) (w : World) (hr0 : Kd.C (Kd.int .i64) w A0 l0.length l0) (hc0 : l0.length ≤ c0) (h : impl_orDash.f k l0 = some r) :
  Calls Tryz.prog 68 #[.slice A0 l0.length c0] w fun e w' => e = .returned (.string r) ∧ Below w.heap.size w w' := by
 have HR0 := Aside0.mk hr0
 have HC0 := Aside0.mk hc0
 clear hr0 hc0
 have HB := Aside0.mk (Below.refl w.heap.size w)
 have H : (if (l0.length : Int) = 0 then (some (⟨#[45]⟩ : ByteArray)) else ((impl_joined.f k l0 (⟨#[44]⟩ : ByteArray)).bind fun t390 => (some t390))) = some r := h
 clear h
 by_cases c2 : (l0.length : Int) = 0
 ·rw [if_pos c2] at H
  have c2b0 : ((l0.length : Int) == 0) = true := beq_iff_eq.mpr c2
  have c2b1 : ((l0.length : Int) != 0) = false := bne_eq_false_iff_eq.mpr c2
  clear c2
  obtain rfl := Option.some.inj H
  go_enter Tryz.func68, Tryz.ntmps68
  go_wp2
  go_ret
  exact ⟨by first | rfl | (simp [errW_none, errW_some] <;> rfl) | (simp [*, errW_none, errW_some] <;> rfl), nbW HB.out⟩
 ·rw [if_neg c2] at H
  have c2b0 : ((l0.length : Int) == 0) = false := beq_eq_false_iff_ne.mpr c2
  have c2b1 : ((l0.length : Int) != 0) = true := bne_iff_ne.mpr c2
  have c2b2 : ¬ (l0 = []) := fun h_ => c2 (by rw [h_]; rfl)
  replace H := Option.bind_eq_some_iff.mp H
  obtain ⟨t390, A30, H⟩ := H
  (try dsimp -simprocs only at H)
  have A3 := Aside0.mk A30
  clear A30
  obtain rfl := Option.some.inj H
  go_enter Tryz.func68, Tryz.ntmps68
  go_wp2_with (first | ((with_reducible refine gate_callee (f := 93) rfl ?_); refine gcW 7 Tryz.func93 #[.slice A0 l0.length c0, .string (⟨#[44]⟩ : ByteArray)] rfl ?_; (with_reducible refine (impl_joined.calls k _ _ l0 (⟨#[44]⟩ : ByteArray) t390 _ ?side1 ?side2 A3.out).mono ?_); (case side1 => exact cbW HR0.out); (case side2 => exact HC0.out); rintro e w4 ⟨rfl, hb⟩; refine ⟨_, rfl, ?_⟩; have n0_ := Aside0.mk (below_step (nbW HB.out) hb); clear HB; have HB := n0_; clear n0_; (try clear hb); (try clear hb2); (try clear hk); (try clear hi)))
  go_ret
  exact ⟨by first | rfl | (simp [errW_none, errW_some] <;> rfl) | (simp [*, errW_none, errW_some] <;> rfl), nbW HB.out⟩

/-! ### impl_WalkText: function 29 -/
def impl_WalkText.f (k : Nat) (l0_0 : List Int) (l0_1 : List Int) : Option (ByteArray × Bool) := (impl_isWalk.f k l0_0 l0_1).bind fun t392 => (if t392 = true then ((impl_orDash.f k l0_0).bind fun t393 => (if t393.size + 1 ≤ 9223372036854775807 then ((impl_orDash.f k l0_1).bind fun t394 => (if (t393 ++ (⟨#[58]⟩ : ByteArray)).size + t394.size ≤ 9223372036854775807 then (some ((t393 ++ (⟨#[58]⟩ : ByteArray)) ++ t394, true)) else (none))) else (none))) else (some ((⟨#[]⟩ : ByteArray), false)))
theorem impl_WalkText.mono : ∀ a0 a1 k, LeO (impl_WalkText.f k a0 a1) (impl_WalkText.f (k + 1) a0 a1) := by
 intro a0 a1 k
 unfold impl_WalkText.f
 repeat' first | (with_reducible first | exact impl_isWalk.mono _ _ _ | exact impl_orDash.mono _ _ | exact LeO.refl _ | exact LeO.none _ | refine LeO.ite ?_ ?_ | refine LeO.bind ?_ (fun _ => ?_)) | exact LeO.none _ | refine LeO.ite ?_ ?_ | refine LeO.bind ?_ (fun _ => ?_)
def impl_WalkText.T3 : Bool × List (List Nat × List Nat) := (true, [([], []), ([0], [0]), ([1], [1]), ([2], [2]), ([], []), ([4], [4]), ([5, 2], [5]), ([3, 6], [3, 6]), ([7, 6, 0, 1, 2, 3, 4, 5, 6, 7], [7]), ([8, 0, 1, 2, 3, 4, 5, 6, 7, 8], [])])
def impl_WalkText.B3 : List Nat := [0, 1, 3, 7, 0, 16, 55, 127, 255, 511]
theorem impl_WalkText.tab3 : rtab .any (opsOf Tryz.f29 3) = impl_WalkText.T3 := by kernel_rfl
theorem impl_WalkText.bits3 : waitsOk impl_WalkText.T3.2 impl_WalkText.B3 = true := by kernel_rfl
set_option maxHeartbeats 8000000 in
set_option maxRecDepth 100000 in
theorem impl_WalkText.calls (k : Nat) (A0_0 : Option Addr) (c0_0 : Nat) (l0_0 : List Int) (A0_1 : Option Addr) (c0_1 : Nat) (l0_1 : List Int) (r1 : ByteArray) (r2 : Bool) (w : World) (hr0_0 : Kd.C (Kd.int .i64) w A0_0 l0_0.length l0_0) (hc0_0 : l0_0.length ≤ c0_0) (hr0_1 : Kd.C (Kd.int .i64) w A0_1 l0_1.length l0_1) (hc0_1 : l0_1.length ≤ c0_1) (h : impl_WalkText.f k l0_0 l0_1 = some (r1, r2)) :
  Calls Tryz.prog 29 #[.agg #[.slice A0_0 l0_0.length c0_0, .slice A0_1 l0_1.length c0_1]] w fun e w' => e = .returned (.tuple #[.string r1, .bool r2]) ∧ Below w.heap.size w w' := by
 have hu24 := Tryz.underlying24
 have HR0_0 := Aside0.mk hr0_0
 have HC0_0 := Aside0.mk hc0_0
 clear hr0_0 hc0_0
 have HR0_1 := Aside0.mk hr0_1
 have HC0_1 := Aside0.mk hc0_1
 clear hr0_1 hc0_1
 have HB := Aside0.mk (Below.refl w.heap.size w)
 have H : ((impl_isWalk.f k l0_0 l0_1).bind fun t392 => (if t392 = true then ((impl_orDash.f k l0_0).bind fun t393 => (if t393.size + 1 ≤ 9223372036854775807 then ((impl_orDash.f k l0_1).bind fun t394 => (if (t393 ++ (⟨#[58]⟩ : ByteArray)).size + t394.size ≤ 9223372036854775807 then (some ((t393 ++ (⟨#[58]⟩ : ByteArray)) ++ t394, true)) else (none))) else (none))) else (some ((⟨#[]⟩ : ByteArray), false)))) = some (r1, r2) := h
 clear h
 replace H := Option.bind_eq_some_iff.mp H
 obtain ⟨t392, A20, H⟩ := H
 (try dsimp -simprocs only at H)
 have A2 := Aside0.mk A20
 clear A20
 by_cases c3 : t392 = true
 ·subst c3
  rw [if_pos rfl] at H
  replace H := Option.bind_eq_some_iff.mp H
  obtain ⟨t393, A40, H⟩ := H
  (try dsimp -simprocs only at H)
  have A4 := Aside0.mk A40
  clear A40
  by_cases c5 : t393.size + 1 ≤ 9223372036854775807
  ·rw [if_pos c5] at H
   have c5b0 := eq_true c5
   have c5b1 := decide_eq_true c5
   try have c5b2 : (9223372036854775807 < t393.size + 1) = False := eq_false (Nat.not_lt.2 c5)
   replace H := Option.bind_eq_some_iff.mp H
   obtain ⟨t394, A60, H⟩ := H
   (try dsimp -simprocs only at H)
   have A6 := Aside0.mk A60
   clear A60
   by_cases c7 : (t393 ++ (⟨#[58]⟩ : ByteArray)).size + t394.size ≤ 9223372036854775807
   ·rw [if_pos c7] at H
    have c7b0 := eq_true c7
    have c7b1 := decide_eq_true c7
    have c7d0 : t393.size + 1 + t394.size ≤ 9223372036854775807 := by have h_ := c7; rw [ByteArray.size_append] at h_; exact h_
    have c7d1 := eq_true c7d0
    have c7d2 : decide (t393.size + 1 + t394.size ≤ 9223372036854775807) = true := decide_eq_true c7d0
    have c7d3 : (9223372036854775807 < t393.size + 1 + t394.size) = False := eq_false (Nat.not_lt.2 c7d0)
    clear c7d0
    try have c7b2 : (9223372036854775807 < (t393 ++ (⟨#[58]⟩ : ByteArray)).size + t394.size) = False := eq_false (Nat.not_lt.2 c7)
    simp only [Option.some.injEq, Prod.mk.injEq] at H
    obtain ⟨rfl, rfl⟩ := H
    go_enter Tryz.func29, Tryz.ntmps29
    try go_wp2_with (first | ((with_reducible refine gate_dst (N := 1) rfl ?_); refine box_event ?hg (N := 1) ?hd (cs := #[.slice A0_0 l0_0.length c0_0, .slice A0_1 l0_1.length c0_1]) (t := 24) ?hr ?_; (case hd => rfl); (case hg => rfl); (case hr => first | (go_simp; done) | (go_simp; rfl)); intro gb391 hg w8 hbox hb; have n0_ := Aside0.mk (below_step (nbW HB.out) hb); have n1_ := Aside0.mk (hbox); have n2_ := Aside0.mk ((by rw [hg]; exact (below_size (nbW HB.out)) : w.heap.size ≤ gb391)); have n3_ := Aside0.mk ((by rw [hg]; exact (below_size (nbW HB.out)) : w.heap.size ≤ gb391)); clear HB; have HB := n0_; have BK391 := n1_; have GW391 := n2_; have GE391 := n3_; clear n0_ n1_ n2_ n3_; clear hb hbox hg; have hcz9_0 : w8.cell? ⟨gb391, 0, none⟩ = some (.slice A0_0 l0_0.length c0_0) := (blk_cell BK391.out 0).trans rfl; have hcz9_1 : w8.cell? ⟨gb391, 1, none⟩ = some (.slice A0_1 l0_1.length c0_1) := (blk_cell BK391.out 1).trans rfl; have hfz9_0 := blk_frozen BK391.out 0; have hfz9_1 := blk_frozen BK391.out 1) | ((with_reducible refine gate_callee (f := 46) rfl ?_); refine gcW 5 Tryz.func46 #[.agg #[.slice A0_0 l0_0.length c0_0, .slice A0_1 l0_1.length c0_1]] rfl ?_; (with_reducible refine (impl_isWalk.calls k _ _ l0_0 _ _ l0_1 true _ ?side1 ?side2 ?side3 ?side4 A2.out).mono ?_); (case side1 => exact cbW (Kd.C_below HR0_0.out HB.out)); (case side2 => exact HC0_0.out); (case side3 => exact cbW (Kd.C_below HR0_1.out HB.out)); (case side4 => exact HC0_1.out); rintro e w10 ⟨rfl, hb⟩; refine ⟨_, rfl, ?_⟩; have n0_ := Aside0.mk (blk_below (kbW BK391.out) hb); have n1_ := Aside0.mk (below_step (by repeat (first | exact nbW HB.out | refine nbW (below_set ?_ GE391.out))) hb); clear BK391; clear HB; have BK391 := n0_; have HB := n1_; clear n0_ n1_; (try clear hb); (try clear hb2); (try clear hk); (try clear hi)))
    have n0_ := Aside0.mk (blk_drew BK391.out)
    have n1_ := Aside0.mk (below_drew1 HB.out)
    clear BK391
    clear HB
    have BK391 := n0_
    have HB := n1_
    clear n0_ n1_
    refine start_ (n := 10) (S := fun w' => w'.cell? ⟨gb391, 0, none⟩ = some (.slice A0_0 l0_0.length c0_0) ∧ w'.cell? ⟨gb391, 1, none⟩ = some (.slice A0_1 l0_1.length c0_1)) (ds := []) #[false, false, false, false, false, false, false, false, false, false] (by kernel_rfl) rfl rfl ⟨(blk_cell BK391.out 0).trans rfl, (blk_cell BK391.out 1).trans rfl⟩ (fun hHeld => ?_); refine with_tabW impl_WalkText.tab3 impl_WalkText.bits3 (fun HT_ HW_ => ?_)
    generalize w10.drew = w11 at BK391 HB hHeld ⊢
    refine puW 0 7 HT_.out ?_
    refine puW 4 11 HT_.out ?_
    refine taW 1 8 HT_.out HW_.out hHeld rfl (by rintro w' ⟨s0, s1⟩; go_simp; with_reducible rfl) ?_
    refine taW 5 12 HT_.out HW_.out hHeld rfl (by rintro w' ⟨s0, s1⟩; go_simp; with_reducible rfl) ?_
    refine one_ (i := 2) (N := some 9) #[true, true, true, false, true, true, false, false, false, false] rfl rfl (one_of HT_.out (by kernel_rfl)) (by decide) (fun K hK => ?_)
    refine goes_ Tryz.func68 (by kernel_rfl) rfl #[.slice A0_0 l0_0.length c0_0] (by rfl) rfl rfl (by (try simp only [List.map_toArray, List.map_cons, List.map_nil]); first | done | rfl | (simp only [List.length_drop, List.length_take]; rfl)) ?_
    with_reducible refine (impl_orDash.calls k _ _ l0_0 t393 _ ?side1 ?side2 A4.out).mono ?_
    (case side1 => exact cbW (Kd.C_below HR0_0.out HB.out))
    (case side2 => exact HC0_0.out)
    rintro e w12 ⟨rfl, hb⟩
    refine ⟨_, rfl, ?_⟩
    have n0_ := Aside0.mk (blk_below (kbW BK391.out) hb)
    have n1_ := Aside0.mk (below_step (by repeat (first | exact nbW HB.out | refine nbW (below_set ?_ GE391.out))) hb)
    clear BK391
    clear HB
    have BK391 := n0_
    have HB := n1_
    clear n0_ n1_
    (try clear hb)
    (try clear hb2)
    (try clear hk)
    (try clear hi)
    refine hK.out _ _ ⟨(blk_cell BK391.out 0).trans rfl, (blk_cell BK391.out 1).trans rfl⟩ (fun hHeld => ?_)
    clear hK K
    refine noW ?_
    refine puW 3 10 HT_.out ?_
    refine one_ (i := 6) (N := some 13) #[true, true, true, true, true, true, true, false, false, false] rfl rfl (one_of HT_.out (by kernel_rfl)) (by decide) (fun K hK => ?_)
    refine goes_ Tryz.func68 (by kernel_rfl) rfl #[.slice A0_1 l0_1.length c0_1] (by rfl) rfl rfl (by (try simp only [List.map_toArray, List.map_cons, List.map_nil]); first | done | rfl | (simp only [List.length_drop, List.length_take]; rfl)) ?_
    with_reducible refine (impl_orDash.calls k _ _ l0_1 t394 _ ?side1 ?side2 A6.out).mono ?_
    (case side1 => exact cbW (Kd.C_below HR0_1.out HB.out))
    (case side2 => exact HC0_1.out)
    rintro e w13 ⟨rfl, hb⟩
    refine ⟨_, rfl, ?_⟩
    have n0_ := Aside0.mk (blk_below (kbW BK391.out) hb)
    have n1_ := Aside0.mk (below_step (by repeat (first | exact nbW HB.out | refine nbW (below_set ?_ GE391.out))) hb)
    clear BK391
    clear HB
    have BK391 := n0_
    have HB := n1_
    clear n0_ n1_
    (try clear hb)
    (try clear hb2)
    (try clear hk)
    (try clear hi)
    refine hK.out _ _ ⟨(blk_cell BK391.out 0).trans rfl, (blk_cell BK391.out 1).trans rfl⟩ (fun hHeld => ?_)
    clear hK K
    refine noW ?_
    refine puW 7 14 HT_.out ?_
    refine puW 8 2 HT_.out ?_
    refine puW 9 3 HT_.out ?_
    refine done_ (done_of HT_.out (by kernel_rfl)) ?_
    try go_wp2
    go_ret2
    exact ⟨by first | rfl | (simp [errW_none, errW_some] <;> rfl) | (simp [*, errW_none, errW_some] <;> rfl), by repeat (first | exact nbW HB.out | refine nbW (below_set ?_ GE391.out))⟩
   ·rw [if_neg c7] at H
    exact absurd H (by simp)
  ·rw [if_neg c5] at H
   exact absurd H (by simp)
 ·replace c3 := Bool.eq_false_iff.mpr c3
  subst c3
  rw [if_neg (show ¬ (false = true) by decide)] at H
  simp only [Option.some.injEq, Prod.mk.injEq] at H
  obtain ⟨rfl, rfl⟩ := H
  go_enter Tryz.func29, Tryz.ntmps29
  go_wp2_with (first | ((with_reducible refine gate_dst (N := 1) rfl ?_); refine box_event ?hg (N := 1) ?hd (cs := #[.slice A0_0 l0_0.length c0_0, .slice A0_1 l0_1.length c0_1]) (t := 24) ?hr ?_; (case hd => rfl); (case hg => rfl); (case hr => first | (go_simp; done) | (go_simp; rfl)); intro gb391 hg w14 hbox hb; have n0_ := Aside0.mk (below_step (nbW HB.out) hb); have n1_ := Aside0.mk (hbox); have n2_ := Aside0.mk ((by rw [hg]; exact (below_size (nbW HB.out)) : w.heap.size ≤ gb391)); have n3_ := Aside0.mk ((by rw [hg]; exact (below_size (nbW HB.out)) : w.heap.size ≤ gb391)); clear HB; have HB := n0_; have BK391 := n1_; have GW391 := n2_; have GE391 := n3_; clear n0_ n1_ n2_ n3_; clear hb hbox hg; have hcz15_0 : w14.cell? ⟨gb391, 0, none⟩ = some (.slice A0_0 l0_0.length c0_0) := (blk_cell BK391.out 0).trans rfl; have hcz15_1 : w14.cell? ⟨gb391, 1, none⟩ = some (.slice A0_1 l0_1.length c0_1) := (blk_cell BK391.out 1).trans rfl; have hfz15_0 := blk_frozen BK391.out 0; have hfz15_1 := blk_frozen BK391.out 1) | ((with_reducible refine gate_callee (f := 46) rfl ?_); refine gcW 5 Tryz.func46 #[.agg #[.slice A0_0 l0_0.length c0_0, .slice A0_1 l0_1.length c0_1]] rfl ?_; (with_reducible refine (impl_isWalk.calls k _ _ l0_0 _ _ l0_1 false _ ?side1 ?side2 ?side3 ?side4 A2.out).mono ?_); (case side1 => exact cbW (Kd.C_below HR0_0.out HB.out)); (case side2 => exact HC0_0.out); (case side3 => exact cbW (Kd.C_below HR0_1.out HB.out)); (case side4 => exact HC0_1.out); rintro e w16 ⟨rfl, hb⟩; refine ⟨_, rfl, ?_⟩; have n0_ := Aside0.mk (blk_below (kbW BK391.out) hb); have n1_ := Aside0.mk (below_step (by repeat (first | exact nbW HB.out | refine nbW (below_set ?_ GE391.out))) hb); clear BK391; clear HB; have BK391 := n0_; have HB := n1_; clear n0_ n1_; (try clear hb); (try clear hb2); (try clear hk); (try clear hi)))
  go_ret2
  exact ⟨by first | rfl | (simp [errW_none, errW_some] <;> rfl) | (simp [*, errW_none, errW_some] <;> rfl), by repeat (first | exact nbW HB.out | refine nbW (below_set ?_ GE391.out))⟩

end Go.Proofs.YtlknoidcopkmfaaGreatDoor.PFnWalkTexts
