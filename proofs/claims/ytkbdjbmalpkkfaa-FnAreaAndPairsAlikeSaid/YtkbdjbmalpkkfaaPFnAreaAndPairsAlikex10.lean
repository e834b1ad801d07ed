-- Written by a program of this session for this claim (its own turn of the print).
import Derived.Test.YtkbdjbmalpkkfaaPFnAreaAndPairsAlikex0
import Derived.Test.YtkbdjbmalpkkfaaPFnAreaAndPairsAlikex2
import Derived.Test.YtkbdjbmalpkkfaaPFnAreaAndPairsAlikex7
import Derived.Test.YtkbdjbmalpkkfaaPFnAreaAndPairsAlikex8
namespace Go.Proofs.Ytkbdjbmalpkkfaa.PFnAreaAndPairsAlike
open Go.RowKit Go.Proofs.YtkbdjbmalpkkfaaW.PrintWords Go.Proofs.YtkbdjbmalpkkfaaW.PrintLast Go.Proofs.YtkbdjbmalpkkfaaW.PrintMore
attribute [local go_sem] max2_int min2_int max_two min_two max_three min_three max_four min_four   -- for this text's walks alone
set_option linter.unusedVariables false
set_option linter.unusedSimpArgs false

/-! ### impl_allHeights: function 73 (all heights, row by row: proved by hand) -/
section
/-- How far the next height goes. -/
def impl_allHeights.most (i : Nat) (list : List Int) : Nat := if 0 < i then (rd list ((i : Int) - 1) + 1).toNat else 0
/-- What goes on behind a list. -/
def impl_allHeights.kids (i : Nat) (list : List Int) : List (List Int) := (List.range (impl_allHeights.most i list + 1)).map fun h : Nat => list ++ [(h : Int)]
theorem impl_allHeights.kids_length (i : Nat) (list : List Int) : (impl_allHeights.kids i list).length = impl_allHeights.most i list + 1 := by simp [impl_allHeights.kids]
theorem impl_allHeights.kids_take (i : Nat) (list : List Int) (h : Nat) (hh : h < impl_allHeights.most i list + 1) : (impl_allHeights.kids i list).take (h + 1) = (impl_allHeights.kids i list).take h ++ [list ++ [(h : Int)]] := by
  rw [List.take_succ_eq_append_getElem (by rw [impl_allHeights.kids_length]; exact hh)]
  congr 1
  simp [impl_allHeights.kids]
theorem impl_allHeights.clone (l : List Int) (h : l.length ≤ 1000) : slices_Clone_int_int.f l = some l := by
  unfold slices_Clone_int_int.f
  simp only [Option.bind_some]
  rw [if_pos (by simp; omega)]
  simp
def impl_allHeights.lv : Nat → List (List Int)
  | 0 => [[]]
  | i + 1 => (impl_allHeights.lv i).flatMap (impl_allHeights.kids i)
def impl_allHeights.okB (i : Nat) : Bool := decide ((impl_allHeights.lv i).length ≤ 132) && (impl_allHeights.lv i).all fun x => decide (x.length = i) && x.all fun y => decide (0 ≤ y) && decide (y ≤ 6)
def impl_allHeights.f (_k : Nat) (a0 : Int) : Option (List (List Int)) := if 0 ≤ a0 ∧ a0 ≤ 6 then some (impl_allHeights.lv a0.toNat) else none
theorem impl_allHeights.mono : ∀ a0 k, LeO (impl_allHeights.f k a0) (impl_allHeights.f (k + 1) a0) := fun _ _ => LeO.refl _
set_option maxRecDepth 100000 in
theorem impl_allHeights.okAll : (List.range 7).all impl_allHeights.okB = true := by decide +kernel
theorem impl_allHeights.small (i : Nat) (hi : i ≤ 6) : (impl_allHeights.lv i).length ≤ 132 ∧ ∀ x ∈ impl_allHeights.lv i, x.length = i ∧ ∀ y ∈ x, 0 ≤ y ∧ y ≤ 6 := by
  have h := List.all_eq_true.1 impl_allHeights.okAll i (List.mem_range.2 (by omega))
  unfold impl_allHeights.okB at h
  simp only [Bool.and_eq_true, decide_eq_true_eq, List.all_eq_true] at h
  exact ⟨h.1, fun x hx => ⟨(h.2 x hx).1, fun y hy => (h.2 x hx).2 y hy⟩⟩
/-- The rows so far, and the ones that are made of them. -/
structure impl_allHeights.AH (w W : World) (n1 : Nat) (vo : Value) (so : List (List Int)) (vn : Value) (sn : List (List Int)) : Prop where
  bel : Below w.heap.size w W
  so : Kd.S (Kd.slice 3 (Kd.int .i64)) 24 W w.heap.size (fun k => k < n1) vo so
  sn : Kd.S (Kd.slice 3 (Kd.int .i64)) 24 W w.heap.size (fun k => n1 ≤ k) vn sn
  l1 : n1 ≤ W.heap.size
theorem impl_allHeights.AH.below {w W W' : World} {n1 : Nat} {vo vn : Value} {so sn : List (List Int)} (h : impl_allHeights.AH w W n1 vo so vn sn) (hb : Below W.heap.size W W') : impl_allHeights.AH w W' n1 vo so vn sn :=
  ⟨h.bel.trans (hb.mono h.bel.size), Kd.S_below h.so hb, Kd.S_below h.sn hb, Nat.le_trans h.l1 hb.size⟩
set_option maxHeartbeats 8000000 in
set_option maxRecDepth 100000 in
theorem impl_allHeights.calls (k : Nat) (a0 : Int) (r : List (List Int)) (w : World) (h : impl_allHeights.f k a0 = some r) :
    Calls Try.prog 73 #[.int .i64 a0] w fun e w' => ∃ v0_ : Value, e = .returned (v0_) ∧ Kd.S (Kd.slice 3 (Kd.int .i64)) 24 w' w.heap.size (fun _ => True) v0_ r ∧ Below w.heap.size w w' := by
  unfold impl_allHeights.f at h
  split at h
  next ha =>
    obtain ⟨n, rfl⟩ := Int.eq_ofNat_of_zero_le ha.1
    obtain rfl := Option.some.inj h
    have hn : n ≤ 6 := by omega
    have HB := Aside0.mk (Below.refl w.heap.size w)
    rw [Int.toNat_natCast]
    clear h ha
    go_enter Try.func73, Try.ntmps73
    go_wp2_with (first
      | ((with_reducible refine gate_dst (N := 10) rfl ?_); refine Kd.R_lit (Kd.int .i64) _ 3 ?hg (N := 10) ?hd (xs := ([] : List Int)) (inner := []) (ok := fun _ => True) (okp := fun _ => True) ?hr ?hp (fun _ hk => hk) trivial (Below.refl _ _) (Nat.le_refl _) (by simp) ?_; (case hd => rfl); (case hg => rfl); (case hr => first | (go_simp; done) | (go_simp; rfl)); (case hp => exact (Reps.none _ _)); intro v10 w1 ho1 hb1 hg_ hn_; clear hg_ hn_; obtain ⟨A10, c10, rfl⟩ := Kd.R_slice ho1; have T1 := Aside0.mk (And.intro ho1 hb1); clear ho1 hb1)
      | ((with_reducible refine gate_dst (N := 11) rfl ?_); refine Kd.S_lits (Kd.slice 3 (Kd.int .i64)) (w0 := w) w.heap.size 24 ?hg (N := 11) ?hd (xs := ([[]] : List (List Int))) (inner := [.slice A10 0 c10]) (ok := fun _ => True) (fun j k => j = 0) ?hr (by simp; rfl) ?hp ?ha (fun _ _ _ => trivial) trivial T1.out.2 T1.out.2.size (by simp) ?_; (case hd => rfl); (case hg => rfl); (case hr => first | (go_simp; done) | (go_simp; rfl)); (case hp => exact fun j x hj => by cases j with | zero => (cases hj; exact Kd.M_row (Kd.R_mono T1.out.1 (fun _ _ => rfl))) | succ j => (simp at hj)); (case ha => exact fun i j k h1 h2 => h1.trans h2.symm); intro v11 w2 ho2 hb2 hg_ hn_; clear hg_ hn_; obtain ⟨A11, c11, rfl⟩ := Kd.S_slice ho2; have T2 := Aside0.mk (And.intro ho2 hb2); clear ho2 hb2 T1))
    go_loopw [3, 13] (fun v3 v13 wr => ∃ (i : Nat), v13 = .int .i64 (i : Int) ∧ i ≤ n ∧ Aside0 (Kd.S (Kd.slice 3 (Kd.int .i64)) 24 wr w.heap.size (fun _ => True) v3 (impl_allHeights.lv i) ∧ Below w.heap.size w wr)) (fun _ v13 _ => n - (intOf v13).toNat)
    case atStart => exact ⟨0, rfl, Nat.zero_le _, T2⟩
    case round =>
      clear T2 HB
      obtain ⟨i, rfl, hin, HX⟩ := hrel
      obtain ⟨A3, c3, rfl⟩ := Kd.S_slice HX.out.1
      by_cases hlt : i < n
      · obtain ⟨hsm1, hsm2⟩ := impl_allHeights.small i (by omega)
        obtain ⟨hsn1, _⟩ := impl_allHeights.small (i + 1) (by omega)
        have HSM := Aside0.mk hsm2
        clear hsm2
        go_wp2_with (first
          | ((with_reducible refine gate_dst (N := 16) rfl ?_); refine Kd.S_lit (Kd.slice 3 (Kd.int .i64)) (w0 := wr) wr.heap.size 24 ?hg (N := 16) ?hd (xs := ([] : List (List Int))) (inner := []) (ok := fun _ => True) (okp := fun _ => True) ?hr ?hp (fun _ hk => hk) trivial (Below.refl _ _) (Nat.le_refl _) (by simp) ?_; (case hd => rfl); (case hg => rfl); (case hr => first | (go_simp; done) | (go_simp; rfl)); (case hp => exact (Reps.none _ _)); intro v16 w3 ho hb hg_ hn_; clear hg_ hn_; have T3 : Aside0 (impl_allHeights.AH w w3 wr.heap.size (.slice A3 (impl_allHeights.lv i).length c3) (impl_allHeights.lv i) v16 []) := ⟨HX.out.2.trans (hb.mono HX.out.2.size), Kd.S_below (Kd.S_mono (Kd.S_bound HX.out.1) (fun _ hk => hk.2.2.1)) hb, Kd.S_lower (Kd.S_mono (Kd.S_bound ho) (fun _ hk => hk.2.1)) HX.out.2.size, hb.size⟩; clear ho hb; obtain ⟨A16, c16, rfl⟩ := Kd.S_slice T3.out.sn))
        obtain ⟨n1, hn1⟩ : ∃ n1, n1 = wr.heap.size := ⟨_, rfl⟩
        rw [← hn1] at T3
        clear hn1
        go_loopw [5, 19] (fun v5 v19 wr2 => ∃ (j : Nat), v19 = .int .i64 (j : Int) ∧ j ≤ (impl_allHeights.lv i).length ∧ Aside0 (impl_allHeights.AH w wr2 n1 (.slice A3 (impl_allHeights.lv i).length c3) (impl_allHeights.lv i) v5 (((impl_allHeights.lv i).take j).flatMap (impl_allHeights.kids i)))) (fun _ v19 _ => (impl_allHeights.lv i).length - (intOf v19).toNat)
        case atStart => exact ⟨0, rfl, Nat.zero_le _, T3⟩
        case round =>
          clear T3 HX
          obtain ⟨j, rfl, hjl, HY⟩ := hrel
          obtain ⟨A5, c5, rfl⟩ := Kd.S_slice HY.out.sn
          by_cases hjt : j < (impl_allHeights.lv i).length
          · have z := HY.out
            obtain ⟨ad, rfl⟩ : ∃ ad, A3 = some ad := by
              obtain ⟨g, cap, hg, _⟩ := Kd.R_form (Kd.S_R z.so) (by omega)
              injection hg with h1
              exact ⟨_, h1⟩
            obtain ⟨g, rfl⟩ := Kd.R_head (Kd.S_R z.so)
            obtain ⟨oki, ce, hcl, hM, hcc, hoki, hH⟩ := Kd.S_lend z.so ([] : List Int) (j : Int) (by omega) (by omega)
            obtain ⟨ve, rfl, hR⟩ := hM
            have hcell := hcc 0 ve rfl
            have hce : wr.cell? ⟨g, j, none⟩ = some ve := by
              rw [← hcell]
              congr 2
              show j = (j : Int).toNat * 1 + 0
              omega
            obtain ⟨row, hrow⟩ : ∃ row, row = (impl_allHeights.lv i).getD (j : Int).toNat [] := ⟨_, rfl⟩
            rw [← hrow] at hR
            have hrow2 : (impl_allHeights.lv i)[j]'hjt = row := by
              rw [hrow, Int.toNat_natCast, List.getD_eq_getElem?_getD, List.getElem?_eq_getElem hjt]
              rfl
            have htk : ((impl_allHeights.lv i).take (j + 1)).flatMap (impl_allHeights.kids i) = ((impl_allHeights.lv i).take j).flatMap (impl_allHeights.kids i) ++ impl_allHeights.kids i row := by
              rw [List.take_succ_eq_append_getElem hjt, List.flatMap_append, hrow2]
              simp
            obtain ⟨hrl, hrb⟩ := HSM.out row (by rw [← hrow2]; exact List.getElem_mem _)
            obtain ⟨Aj, cj, rfl⟩ := Kd.R_slice hR
            have RL := Aside0.mk (Kd.R_mono hR (fun k hk => (hoki k hk).1))
            have HTK := Aside0.mk htk
            have hlen : ∀ h, (((impl_allHeights.lv i).take j).flatMap (impl_allHeights.kids i) ++ (impl_allHeights.kids i row).take h).length ≤ 132 := by
              intro h
              refine Nat.le_trans ?_ hsn1
              have e : impl_allHeights.lv (i + 1) = ((impl_allHeights.lv i).take (j + 1)).flatMap (impl_allHeights.kids i) ++ ((impl_allHeights.lv i).drop (j + 1)).flatMap (impl_allHeights.kids i) := by
                rw [← List.flatMap_append, List.take_append_drop]
                rfl
              rw [e, htk]
              simp only [List.length_append, List.length_take]
              omega
            have HLEN := Aside0.mk hlen
            obtain ⟨mm, hmm⟩ : ∃ mm, mm = impl_allHeights.most i row := ⟨_, rfl⟩
            have hkl : (impl_allHeights.kids i row).length = mm + 1 := by rw [impl_allHeights.kids, hmm]; simp
            have HKL := Aside0.mk hkl
            have HMM := Aside0.mk hmm
            by_cases hi0 : 0 < i
            · obtain ⟨ai, hai, hxc⟩ := Kd.at_int (Kd.R_reads' RL.out).2.2 ((i : Int) - 1) (by omega) (by omega)
              subst hai
              have hxb := hrb (rd row ((i : Int) - 1)) (by
                unfold rd
                rw [List.getD_eq_getElem?_getD, List.getElem?_eq_getElem (by omega)]
                exact List.getElem_mem _)
              have hmx : rd row ((i : Int) - 1) = (mm : Int) - 1 := by
                rw [hmm, impl_allHeights.most, if_pos hi0]
                omega
              have hmm7 : mm ≤ 7 := by omega
              rw [hmx, show ((i : Int) - 1).toNat = i - 1 by omega] at hxc
              have hwi : wrap64 ((i : Int) - 1) = (i : Int) - 1 := by unfold wrap64; omega
              have hwm : wrap64 ((mm : Int) - 1 + 1) = (mm : Int) := by unfold wrap64; omega
              clear hxb hmx hR hcc hcell hcl hoki hH hrow hrow2 htk hlen hkl hmm z hrb
              go_wp2
              have hclone := impl_allHeights.clone row (by omega)
              have HCL := Aside0.mk hclone
              have HLI : Aside0 (impl_allHeights.AH w wr n1 (.slice (some ⟨g, 0, none⟩) (impl_allHeights.lv i).length c3) (impl_allHeights.lv i) (.slice A5 (((impl_allHeights.lv i).take j).flatMap (impl_allHeights.kids i)).length c5) (((impl_allHeights.lv i).take j).flatMap (impl_allHeights.kids i) ++ (impl_allHeights.kids i row).take 0) ∧ Kd.R (Kd.int .i64) 3 wr w.heap.size (fun k => k < n1) (.slice (some ai) row.length cj) row) := ⟨by rw [List.take_zero, List.append_nil]; exact HY.out, RL.out⟩
              clear hclone HY RL hce
              go_loopw [5, 33] (fun v5 v33 wr3 => ∃ (h : Nat), v33 = .int .i64 (h : Int) ∧ h ≤ mm + 1 ∧ Aside0 (impl_allHeights.AH w wr3 n1 (.slice (some ⟨g, 0, none⟩) (impl_allHeights.lv i).length c3) (impl_allHeights.lv i) v5 (((impl_allHeights.lv i).take j).flatMap (impl_allHeights.kids i) ++ (impl_allHeights.kids i row).take h) ∧ Kd.R (Kd.int .i64) 3 wr3 w.heap.size (fun k => k < n1) (.slice (some ai) row.length cj) row)) (fun _ v33 _ => mm + 1 - (intOf v33).toNat)
              case atStart => exact ⟨0, rfl, Nat.zero_le _, HLI⟩
              case round =>
                clear HLI
                obtain ⟨h, rfl, hhm, HZ⟩ := hrel
                obtain ⟨A6, c6, rfl⟩ := Kd.S_slice HZ.out.1.sn
                by_cases hht : h < mm + 1
                · have cC := slices_Clone_int_int.calls (some ai) cj row row wr (Kd.R_reads' HZ.out.2).2.2 (Kd.R_reads' HZ.out.2).2.1 HCL.out
                  rw [hrl] at cC
                  have HCC := Aside0.mk cC
                  obtain ⟨nx, hnx⟩ : ∃ nx, nx = ((impl_allHeights.lv i).take j).flatMap (impl_allHeights.kids i) ++ (impl_allHeights.kids i row).take h := ⟨_, rfl⟩
                  have hnl : nx.length ≤ 132 := by rw [hnx]; exact HLEN.out h
                  have hnx2 : ((impl_allHeights.lv i).take j).flatMap (impl_allHeights.kids i) ++ (impl_allHeights.kids i row).take (h + 1) = nx ++ [row ++ [(h : Int)]] := by
                    rw [impl_allHeights.kids_take i row h (by rw [← HMM.out]; exact hht), ← List.append_assoc, ← hnx]
                  rw [← hnx] at HZ ⊢
                  have HNX := Aside0.mk hnx2
                  clear cC hnx hnx2
                  go_wp2_with (first
                    | (go_at_call 94; refine HCC.out.mono ?_; rintro e W1 ⟨v38, rfl, hR38, hb38⟩; obtain ⟨A38, c38, rfl⟩ := Kd.R_slice hR38; have S1 := Aside0.mk (And.intro hR38 hb38); clear hR38 hb38 HCC; simp only [hrl])
                    | ((with_reducible refine gate_builtin (b := .append) (xs := #[.tmp 38, .tmp 40]) rfl ?_); at_builtin; refine Kd.R_append (Kd.int .i64) (w0 := wr) wr.heap.size rfl (.tmp 38) (.tmp 40) 24 3 (.int .i64 0) 8 rfl Try.underlying24 info3 rfl (by decide) (by omega) (.slice A38 row.length c38) row (h : Int) [.int .i64 (h : Int)] (fun _ => True) (fun _ => False) (by rw [hrl]; rfl) rfl ?aP (fun _ hk => hk.elim) (fun _ _ => trivial) S1.out.1 S1.out.2 S1.out.2.size ?aL ?_; (case aP => rfl); (case aL => omega); intro v41 w5 ho hb hg hat; clear hg hat S1; obtain ⟨A41, c41, rfl⟩ := Kd.R_slice ho; rw [show (row ++ [(h : Int)]).length = i + 1 by simp [hrl]] at ho; have S2 := Aside0.mk (And.intro ho hb); clear ho hb)
                    | ((with_reducible refine gate_builtin (b := .append) (xs := #[.tmp 36, .tmp 42]) rfl ?_); at_builtin; have z := HZ.out.1.below (S2.out.2.mono (Nat.le_refl _)); refine Kd.S_append (Kd.slice 3 (Kd.int .i64)) (w0 := w) w.heap.size rfl (.tmp 36) (.tmp 42) 28 24 (.slice none 0 0) 24 rfl Try.underlying28 info24 rfl (by decide) (by omega) (.slice A6 nx.length c6) nx (row ++ [(h : Int)]) [.slice A41 (i + 1) c41] (fun k_ => n1 ≤ k_) (fun k_ => some k_ = (.slice A41 (i + 1) c41 : Value).ownBlock) rfl rfl ?aP ?aK ?aF ?aO ?aB ?aS ?aL ?_; (case aP => exact Kd.M_row (Kd.R_tight rfl (Kd.R_lower S2.out.1 HZ.out.1.bel.size))); (case aK => exact fun k_ hk => have h1 := Kd.R_base S2.out.1 k_ hk.symm; ⟨Nat.le_trans HZ.out.1.l1 h1, fun e_ => Nat.not_le.2 (Kd.S_lt HZ.out.1.sn k_ e_.symm) h1⟩); (case aF => exact fun k_ hk => Nat.le_trans HZ.out.1.l1 (Nat.le_trans S2.out.2.size hk)); (case aO => exact Kd.S_below (Kd.S_mono (Kd.S_bound HZ.out.1.sn) (fun k_ hk => ⟨hk.1, fun e_ => Nat.not_le.2 hk.2.2.1 (Kd.R_base S2.out.1 k_ e_.symm)⟩)) S2.out.2); (case aB => exact z.bel); (case aS => exact z.bel.size); (case aL => omega); intro v43 w7 ho hb hg hat; have S3 : Aside0 (impl_allHeights.AH w w7 n1 (.slice (some ⟨g, 0, none⟩) (impl_allHeights.lv i).length c3) (impl_allHeights.lv i) v43 (nx ++ [row ++ [(h : Int)]]) ∧ Kd.R (Kd.int .i64) 3 w7 w.heap.size (fun k => k < n1) (.slice (some ai) row.length cj) row) := ⟨⟨hb, Kd.S_grown z.so hg (fun k_ hk e_ => Nat.not_le.2 hk ((Kd.S_R z.sn).1 k_ e_.symm)), ho, Nat.le_trans z.l1 hg.size⟩, Kd.R_grown (Kd.R_below HZ.out.2 S2.out.2) hg (fun k_ hk e_ => Nat.not_le.2 hk ((Kd.S_R z.sn).1 k_ e_.symm))⟩; clear ho hb hg hat z S2 HZ))
                  go_roundw
                  case rel => exact ⟨h + 1, by congr 1, by omega, by rw [HNX.out]; exact S3⟩
                  case measure => first | (simp [intOf]; done) | (simp [intOf]; omega)
                · obtain rfl : h = mm + 1 := by omega
                  have HE3 : Aside0 (impl_allHeights.AH w wr n1 (.slice (some ⟨g, 0, none⟩) (impl_allHeights.lv i).length c3) (impl_allHeights.lv i) (.slice A6 (((impl_allHeights.lv i).take j).flatMap (impl_allHeights.kids i) ++ (impl_allHeights.kids i row).take (mm + 1)).length c6) (((impl_allHeights.lv i).take (j + 1)).flatMap (impl_allHeights.kids i))) := ⟨by have h9 := HZ.out.1; rw [HTK.out]; rw [← HKL.out, List.take_length] at h9 ⊢; exact h9⟩
                  clear HZ
                  go_wp2
                  go_roundw
                  case rel => exact ⟨j + 1, by congr 1, by omega, HE3⟩
                  case measure => first | (simp [intOf]; done) | (simp [intOf]; omega)
            · have HI0 := Aside0.mk hi0
              have hd0 : decide (0 < i) = false := decide_eq_false hi0
              have hmm0 : mm = 0 := by rw [hmm, impl_allHeights.most, if_neg hi0]
              have HM0 := Aside0.mk hmm0
              have hmm7 : mm ≤ 7 := by omega
              clear hR hcc hcell hcl hoki hH hrow hrow2 htk hlen hkl hmm z hrb hmm0 hi0
              go_wp2
              have hclone := impl_allHeights.clone row (by omega)
              have HCL := Aside0.mk hclone
              have HLI : Aside0 (impl_allHeights.AH w wr n1 (.slice (some ⟨g, 0, none⟩) (impl_allHeights.lv i).length c3) (impl_allHeights.lv i) (.slice A5 (((impl_allHeights.lv i).take j).flatMap (impl_allHeights.kids i)).length c5) (((impl_allHeights.lv i).take j).flatMap (impl_allHeights.kids i) ++ (impl_allHeights.kids i row).take 0) ∧ Kd.R (Kd.int .i64) 3 wr w.heap.size (fun k => k < n1) (.slice Aj row.length cj) row) := ⟨by rw [List.take_zero, List.append_nil]; exact HY.out, RL.out⟩
              clear hclone HY RL hce
              go_loopw [5, 33] (fun v5 v33 wr3 => ∃ (h : Nat), v33 = .int .i64 (h : Int) ∧ h ≤ mm + 1 ∧ Aside0 (impl_allHeights.AH w wr3 n1 (.slice (some ⟨g, 0, none⟩) (impl_allHeights.lv i).length c3) (impl_allHeights.lv i) v5 (((impl_allHeights.lv i).take j).flatMap (impl_allHeights.kids i) ++ (impl_allHeights.kids i row).take h) ∧ Kd.R (Kd.int .i64) 3 wr3 w.heap.size (fun k => k < n1) (.slice Aj row.length cj) row)) (fun _ v33 _ => mm + 1 - (intOf v33).toNat)
              case atStart => exact ⟨0, rfl, Nat.zero_le _, HLI⟩
              case round =>
                clear HLI
                obtain ⟨h, rfl, hhm, HZ⟩ := hrel
                obtain ⟨A6, c6, rfl⟩ := Kd.S_slice HZ.out.1.sn
                by_cases hht : h < mm + 1
                · have d1 : decide ((h : Int) < 1) = true := decide_eq_true (by have := HM0.out; omega)
                  have d2 : decide (h < 1) = true := decide_eq_true (by have := HM0.out; omega)
                  have cC := slices_Clone_int_int.calls Aj cj row row wr (Kd.R_reads' HZ.out.2).2.2 (Kd.R_reads' HZ.out.2).2.1 HCL.out
                  rw [hrl] at cC
                  have HCC := Aside0.mk cC
                  obtain ⟨nx, hnx⟩ : ∃ nx, nx = ((impl_allHeights.lv i).take j).flatMap (impl_allHeights.kids i) ++ (impl_allHeights.kids i row).take h := ⟨_, rfl⟩
                  have hnl : nx.length ≤ 132 := by rw [hnx]; exact HLEN.out h
                  have hnx2 : ((impl_allHeights.lv i).take j).flatMap (impl_allHeights.kids i) ++ (impl_allHeights.kids i row).take (h + 1) = nx ++ [row ++ [(h : Int)]] := by
                    rw [impl_allHeights.kids_take i row h (by rw [← HMM.out]; exact hht), ← List.append_assoc, ← hnx]
                  rw [← hnx] at HZ ⊢
                  have HNX := Aside0.mk hnx2
                  clear cC hnx hnx2
                  go_wp2_with (first
                    | (go_at_call 94; refine HCC.out.mono ?_; rintro e W1 ⟨v38, rfl, hR38, hb38⟩; obtain ⟨A38, c38, rfl⟩ := Kd.R_slice hR38; have S1 := Aside0.mk (And.intro hR38 hb38); clear hR38 hb38 HCC; simp only [hrl])
                    | ((with_reducible refine gate_builtin (b := .append) (xs := #[.tmp 38, .tmp 40]) rfl ?_); at_builtin; refine Kd.R_append (Kd.int .i64) (w0 := wr) wr.heap.size rfl (.tmp 38) (.tmp 40) 24 3 (.int .i64 0) 8 rfl Try.underlying24 info3 rfl (by decide) (by omega) (.slice A38 row.length c38) row (h : Int) [.int .i64 (h : Int)] (fun _ => True) (fun _ => False) (by rw [hrl]; rfl) rfl ?aP (fun _ hk => hk.elim) (fun _ _ => trivial) S1.out.1 S1.out.2 S1.out.2.size ?aL ?_; (case aP => rfl); (case aL => omega); intro v41 w5 ho hb hg hat; clear hg hat S1; obtain ⟨A41, c41, rfl⟩ := Kd.R_slice ho; rw [show (row ++ [(h : Int)]).length = i + 1 by simp [hrl]] at ho; have S2 := Aside0.mk (And.intro ho hb); clear ho hb)
                    | ((with_reducible refine gate_builtin (b := .append) (xs := #[.tmp 36, .tmp 42]) rfl ?_); at_builtin; have z := HZ.out.1.below (S2.out.2.mono (Nat.le_refl _)); refine Kd.S_append (Kd.slice 3 (Kd.int .i64)) (w0 := w) w.heap.size rfl (.tmp 36) (.tmp 42) 28 24 (.slice none 0 0) 24 rfl Try.underlying28 info24 rfl (by decide) (by omega) (.slice A6 nx.length c6) nx (row ++ [(h : Int)]) [.slice A41 (i + 1) c41] (fun k_ => n1 ≤ k_) (fun k_ => some k_ = (.slice A41 (i + 1) c41 : Value).ownBlock) rfl rfl ?aP ?aK ?aF ?aO ?aB ?aS ?aL ?_; (case aP => exact Kd.M_row (Kd.R_tight rfl (Kd.R_lower S2.out.1 HZ.out.1.bel.size))); (case aK => exact fun k_ hk => have h1 := Kd.R_base S2.out.1 k_ hk.symm; ⟨Nat.le_trans HZ.out.1.l1 h1, fun e_ => Nat.not_le.2 (Kd.S_lt HZ.out.1.sn k_ e_.symm) h1⟩); (case aF => exact fun k_ hk => Nat.le_trans HZ.out.1.l1 (Nat.le_trans S2.out.2.size hk)); (case aO => exact Kd.S_below (Kd.S_mono (Kd.S_bound HZ.out.1.sn) (fun k_ hk => ⟨hk.1, fun e_ => Nat.not_le.2 hk.2.2.1 (Kd.R_base S2.out.1 k_ e_.symm)⟩)) S2.out.2); (case aB => exact z.bel); (case aS => exact z.bel.size); (case aL => omega); intro v43 w7 ho hb hg hat; have S3 : Aside0 (impl_allHeights.AH w w7 n1 (.slice (some ⟨g, 0, none⟩) (impl_allHeights.lv i).length c3) (impl_allHeights.lv i) v43 (nx ++ [row ++ [(h : Int)]]) ∧ Kd.R (Kd.int .i64) 3 w7 w.heap.size (fun k => k < n1) (.slice Aj row.length cj) row) := ⟨⟨hb, Kd.S_grown z.so hg (fun k_ hk e_ => Nat.not_le.2 hk ((Kd.S_R z.sn).1 k_ e_.symm)), ho, Nat.le_trans z.l1 hg.size⟩, Kd.R_grown (Kd.R_below HZ.out.2 S2.out.2) hg (fun k_ hk e_ => Nat.not_le.2 hk ((Kd.S_R z.sn).1 k_ e_.symm))⟩; clear ho hb hg hat z S2 HZ))
                  go_roundw
                  case rel => exact ⟨h + 1, by congr 1, by omega, by rw [HNX.out]; exact S3⟩
                  case measure => first | (simp [intOf]; done) | (simp [intOf]; omega)
                · obtain rfl : h = mm + 1 := by omega
                  have HE3 : Aside0 (impl_allHeights.AH w wr n1 (.slice (some ⟨g, 0, none⟩) (impl_allHeights.lv i).length c3) (impl_allHeights.lv i) (.slice A6 (((impl_allHeights.lv i).take j).flatMap (impl_allHeights.kids i) ++ (impl_allHeights.kids i row).take (mm + 1)).length c6) (((impl_allHeights.lv i).take (j + 1)).flatMap (impl_allHeights.kids i))) := ⟨by have h9 := HZ.out.1; rw [HTK.out]; rw [← HKL.out, List.take_length] at h9 ⊢; exact h9⟩
                  clear HZ
                  go_wp2
                  go_roundw
                  case rel => exact ⟨j + 1, by congr 1, by omega, HE3⟩
                  case measure => first | (simp [intOf]; done) | (simp [intOf]; omega)
          · obtain rfl : j = (impl_allHeights.lv i).length := by omega
            have HE : Aside0 (Kd.S (Kd.slice 3 (Kd.int .i64)) 24 wr w.heap.size (fun _ => True) (.slice A5 (List.flatMap (impl_allHeights.kids i) (List.take (impl_allHeights.lv i).length (impl_allHeights.lv i))).length c5) (impl_allHeights.lv (i + 1)) ∧ Below w.heap.size w wr) := ⟨by have h9 := HY.out.sn; rw [List.take_length] at h9 ⊢; exact Kd.S_mono h9 (fun _ _ => trivial), HY.out.bel⟩
            clear HY
            go_wp2
            go_roundw
            case rel => exact ⟨i + 1, by congr 1, by omega, HE⟩
            case measure => first | (simp [intOf]; done) | (simp [intOf]; omega)
      · obtain rfl : i = n := by omega
        go_wp2
        go_ret
        exact ⟨_, rfl, HX.out.1, HX.out.2⟩
  next => cases h
end

/-! ### impl_AllHeights: function 21 -/
def impl_AllHeights.f (k : Nat) (a0 : Int) : Option ((List (List Int)) × Bool) := (impl_between.f a0 0 6).bind fun t392 => (if t392 = true then ((impl_allHeights.f k a0).bind fun t393 => (some (t393, true))) else (some (([] : List (List Int)), false)))
theorem impl_AllHeights.mono : ∀ a0 k, LeO (impl_AllHeights.f k a0) (impl_AllHeights.f (k + 1) a0) := by
 intro a0 k
 unfold impl_AllHeights.f
 repeat' first
   | (with_reducible exact impl_allHeights.mono _ _)
   | (with_reducible exact LeO.refl _)
   | (with_reducible exact LeO.none _)
   | (with_reducible refine LeO.ite ?_ ?_)
   | (with_reducible refine LeO.bind ?_ (fun _ => ?_))
   | exact LeO.none _
   | refine LeO.ite ?_ ?_
   | refine LeO.bind ?_ (fun _ => ?_)
set_option maxHeartbeats 8000000 in
set_option maxRecDepth 100000 in
theorem impl_AllHeights.calls (k : Nat) (a0 : Int) (r1 : List (List Int)) (r2 : Bool) (w : World) (h : impl_AllHeights.f k a0 = some (r1, r2)) :
  Calls Try.prog 21 #[.int .i64 a0] w fun e w' => ∃ v0_ : Value, e = .returned (.tuple #[v0_, .bool r2]) ∧ Kd.S (Kd.slice 3 (Kd.int .i64)) 24 w' w.heap.size (fun _ => True) v0_ r1 ∧ Below w.heap.size w w' := by
 have HB := Aside0.mk (Below.refl w.heap.size w)
 have H : ((impl_between.f a0 0 6).bind fun t392 => (if t392 = true then ((impl_allHeights.f k a0).bind fun t393 => (some (t393, true))) else (some (([] : List (List Int)), false)))) = some (r1, r2) := h
 clear h
 replace H := Option.bind_eq_some_iff.mp H
 obtain ⟨t392, A20, H⟩ := H
 replace H : (if t392 = true then ((impl_allHeights.f k a0).bind fun t393 => (some (t393, true))) else (some (([] : List (List Int)), false))) = some (r1, r2) := H
 have A2 := Aside0.mk A20
 clear A20
 by_cases c3 : t392 = true
 ·subst c3
  have H1 : ((impl_allHeights.f k a0).bind fun t393 => (some (t393, true))) = some (r1, r2) := by rw [if_pos rfl] at H; exact H
  clear H
  have H := H1
  clear H1
  replace H := Option.bind_eq_some_iff.mp H
  obtain ⟨t393, A40, H⟩ := H
  replace H : (some (t393, true)) = some (r1, r2) := H
  have A4 := Aside0.mk A40
  clear A40
  simp only [Option.some.injEq, Prod.mk.injEq] at H
  obtain ⟨rfl, rfl⟩ := H
  go_enter Try.func21, Try.ntmps21
  go_wp2_with (first | ((with_reducible refine gate_callee (f := 64) rfl ?_); refine goesL_ (some 5) rfl rfl Try.func64 (by kernel_rfl) rfl #[.int .i64 a0, .int .i64 0, .int .i64 6] rfl (by (try simp only [List.map_toArray, List.map_cons, List.map_nil]); first | done | rfl | (simp only [List.length_drop, List.length_take]; rfl)) ?_; (with_reducible refine (impl_between.calls a0 0 6 true _ A2.out).mono ?_); rintro e w' ⟨rfl, ⟨nd, rfl⟩⟩; refine ⟨_, rfl, ?_⟩) | ((with_reducible refine gate_callee (f := 73) rfl ?_); refine goesL_ (some 8) rfl rfl Try.func73 (by kernel_rfl) rfl #[.int .i64 a0] rfl (by (try simp only [List.map_toArray, List.map_cons, List.map_nil]); first | done | rfl | (simp only [List.length_drop, List.length_take]; rfl)) ?_; (with_reducible refine (impl_allHeights.calls k a0 t393 _ A4.out).mono ?_); rintro e w5 ⟨v394, rfl, ho0, hb⟩; refine ⟨_, rfl, ?_⟩; have n0_ := Aside0.mk (Kd.S_lower ho0 (below_size (by repeat (first | (with_reducible first | exact HB.out | apply below_alloc | apply pw_below_drewN | apply below_drew1) | exact HB.out)))); have n1_ := Aside0.mk (below_step (by repeat (first | (with_reducible first | exact HB.out | apply below_alloc | apply pw_below_drewN | apply below_drew1) | exact HB.out)) hb); clear HB; have HO395 := n0_; have HB := n1_; clear n0_ n1_; (try clear hb); (try clear hb2); (try clear hk); (try clear hi); (try clear ho0)))
  go_ret2
  exact ⟨_, by first | rfl | (simp [errW_none, errW_some] <;> rfl) | (simp [*, errW_none, errW_some] <;> rfl), by (with_reducible repeat (first | apply Kd.S_alloc | apply Kd.S_drewN | apply Kd.S_drew)); exact HO395.out, by repeat (first | (with_reducible first | exact HB.out | apply below_alloc | apply pw_below_drewN | apply below_drew1) | exact HB.out)⟩
 ·replace c3 := Bool.eq_false_iff.mpr c3
  subst c3
  have H1 : (some (([] : List (List Int)), false)) = some (r1, r2) := by rw [if_neg (show ¬ (false = true) by decide)] at H; exact H
  clear H
  have H := H1
  clear H1
  simp only [Option.some.injEq, Prod.mk.injEq] at H
  obtain ⟨rfl, rfl⟩ := H
  go_enter Try.func21, Try.ntmps21
  go_wp2_with (first | ((with_reducible refine gate_callee (f := 64) rfl ?_); refine goesL_ (some 5) rfl rfl Try.func64 (by kernel_rfl) rfl #[.int .i64 a0, .int .i64 0, .int .i64 6] rfl (by (try simp only [List.map_toArray, List.map_cons, List.map_nil]); first | done | rfl | (simp only [List.length_drop, List.length_take]; rfl)) ?_; (with_reducible refine (impl_between.calls a0 0 6 false _ A2.out).mono ?_); rintro e w' ⟨rfl, ⟨nd, rfl⟩⟩; refine ⟨_, rfl, ?_⟩))
  go_ret2
  exact ⟨_, by first | rfl | (simp [errW_none, errW_some] <;> rfl) | (simp [*, errW_none, errW_some] <;> rfl), by first | exact Kd.S_nil _ _ _ _ _ | exact Kd.N_nil _ _ _ _ _ | exact Kd.V_nil _ _ _ _ _ | exact Kd.Q_nil _ _ _ _ _ | exact Kd.R_nil _ _ _ _ _, by repeat (first | (with_reducible first | exact HB.out | apply below_alloc | apply pw_below_drewN | apply below_drew1) | exact HB.out)⟩

/-! ### spec_waAll: function 74 -/
mutual
def spec_waAll.j0 : Nat → List Int → Int → Int → Option ((List (List Int)))
 | 0, _, _, _ => none
 | k + 1, x0, x1, x5 => spec_waAll.l0 k x0 x1 x5 ([] : List (List Int)) 0
def spec_waAll.l0 : Nat → List Int → Int → Int → List (List Int) → Int → Option ((List (List Int)))
 | 0, _, _, _, _, _ => none
 | k + 1, x0, x1, x5, x6, x7 => if x7 ≤ x5 then ((spec_l1Own.f x0).bind fun t403 => (if t403.length < 17592186044416 then ((spec_waAll.f k (t403 ++ [x7]) x1).bind fun t409 => (if x6.length + t409.length < 5864062014805 then (spec_waAll.l0 k x0 x1 x5 (x6 ++ t409) (wrap64 (x7 + 1))) else (none))) else (none))) else (some x6)
def spec_waAll.f : Nat → List Int → Int → Option ((List (List Int)))
 | 0, _, _ => none
 | k + 1, l0, a1 => if (l0.length : Int) = a1 then ((spec_l1Own.f l0).bind fun t396 => (some (([t396] : List (List Int))))) else (if (l0.length : Int) > 0 then (if 0 ≤ (wrap64 ((l0.length : Int) - 1)) then (if (wrap64 ((l0.length : Int) - 1)) < (l0.length : Int) then (spec_waAll.j0 k l0 a1 (wrap64 ((rd l0 (wrap64 ((l0.length : Int) - 1))) + 1))) else (none)) else (none)) else (spec_waAll.j0 k l0 a1 0))
end
theorem spec_waAll.mono_l : ∀ k, (∀ y0 y1, LeO (spec_waAll.f k y0 y1) (spec_waAll.f (k + 1) y0 y1)) ∧ (∀ y0 y1 y2, LeO (spec_waAll.j0 k y0 y1 y2) (spec_waAll.j0 (k + 1) y0 y1 y2)) ∧ (∀ y0 y1 y2 y3 y4, LeO (spec_waAll.l0 k y0 y1 y2 y3 y4) (spec_waAll.l0 (k + 1) y0 y1 y2 y3 y4))
 | 0 => ⟨fun _ _ r h => by simp [spec_waAll.f] at h, fun _ _ _ r h => by simp [spec_waAll.j0] at h, fun _ _ _ _ _ r h => by simp [spec_waAll.l0] at h⟩
 | k + 1 => by
  obtain ⟨ih0, ih1, ih2⟩ := spec_waAll.mono_l k
  refine ⟨?_, ?_, ?_⟩
  ·intro y0 y1
   unfold spec_waAll.f
   repeat' first
   | (with_reducible exact ih0 _ _)
   | (with_reducible exact ih1 _ _ _)
   | (with_reducible exact ih2 _ _ _ _ _)
   | (with_reducible exact LeO.refl _)
   | (with_reducible exact LeO.none _)
   | (with_reducible refine LeO.ite ?_ ?_)
   | (with_reducible refine LeO.bind ?_ (fun _ => ?_))
   | exact LeO.none _
   | refine LeO.ite ?_ ?_
   | refine LeO.bind ?_ (fun _ => ?_)
  ·intro y0 y1 y2
   unfold spec_waAll.j0
   repeat' first
   | (with_reducible exact ih0 _ _)
   | (with_reducible exact ih1 _ _ _)
   | (with_reducible exact ih2 _ _ _ _ _)
   | (with_reducible exact LeO.refl _)
   | (with_reducible exact LeO.none _)
   | (with_reducible refine LeO.ite ?_ ?_)
   | (with_reducible refine LeO.bind ?_ (fun _ => ?_))
   | exact LeO.none _
   | refine LeO.ite ?_ ?_
   | refine LeO.bind ?_ (fun _ => ?_)
  ·intro y0 y1 y2 y3 y4
   unfold spec_waAll.l0
   repeat' first
   | (with_reducible exact ih0 _ _)
   | (with_reducible exact ih1 _ _ _)
   | (with_reducible exact ih2 _ _ _ _ _)
   | (with_reducible exact LeO.refl _)
   | (with_reducible exact LeO.none _)
   | (with_reducible refine LeO.ite ?_ ?_)
   | (with_reducible refine LeO.bind ?_ (fun _ => ?_))
   | exact LeO.none _
   | refine LeO.ite ?_ ?_
   | refine LeO.bind ?_ (fun _ => ?_)
theorem spec_waAll.mono : ∀ a0 a1 k, LeO (spec_waAll.f k a0 a1) (spec_waAll.f (k + 1) a0 a1) := by
 intro a0 a1 k
 obtain ⟨ih0, ih1, ih2⟩ := spec_waAll.mono_l k
 exact ih0 a0 a1
set_option maxHeartbeats 8000000 in
set_option maxRecDepth 100000 in
theorem spec_waAll.calls (k : Nat) : ∀ (A0 : Option Addr) (c0 : Nat) (l0 : List Int) (a1 : Int) (r : List (List Int)) (w : World) (hr0 : Kd.C (Kd.int .i64) w A0 l0.length l0) (hc0 : l0.length ≤ c0) (h : spec_waAll.f k l0 a1 = some r),
  Calls Try.prog 74 #[.slice A0 l0.length c0, .int .i64 a1] w fun e w' => ∃ v0_ : Value, e = .returned (v0_) ∧ Kd.N (Kd.slice 3 (Kd.int .i64)) 24 w' w.heap.size (fun k_ => (w.heap.size ≤ k_)) v0_ r ∧ Below w.heap.size w w' := by
 induction k using Nat.strongRecOn with
 | _ k ih =>
 intro A0 c0 l0 a1 r w hr0 hc0 h
 cases k with
 | zero => exact absurd h (by simp [spec_waAll.f])
 | succ k =>
 simp only [spec_waAll.f] at h
 have HR0 := Aside0.mk hr0
 have HC0 := Aside0.mk hc0
 clear hr0 hc0
 have HB := Aside0.mk (Below.refl w.heap.size w)
 have H : (if (l0.length : Int) = a1 then ((spec_l1Own.f l0).bind fun t396 => (some (([t396] : List (List Int))))) else (if (l0.length : Int) > 0 then (if 0 ≤ (wrap64 ((l0.length : Int) - 1)) then (if (wrap64 ((l0.length : Int) - 1)) < (l0.length : Int) then (spec_waAll.j0 k l0 a1 (wrap64 ((rd l0 (wrap64 ((l0.length : Int) - 1))) + 1))) else (none)) else (none)) else (spec_waAll.j0 k l0 a1 0))) = some r := h
 clear h
 by_cases c3 : (l0.length : Int) = a1
 ·rw [if_pos c3] at H
  have c3b0 : ((l0.length : Int) == a1) = true := beq_iff_eq.mpr c3
  have c3b1 : ((l0.length : Int) != a1) = false := bne_eq_false_iff_eq.mpr c3
  clear c3
  replace H := Option.bind_eq_some_iff.mp H
  obtain ⟨t396, A40, H⟩ := H
  replace H : (some (([t396] : List (List Int)))) = some r := H
  have A4 := Aside0.mk A40
  clear A40
  obtain ⟨y399, hy399⟩ : ∃ y_ : List (List Int), y_ = (([t396] : List (List Int))) := ⟨_, rfl⟩
  replace H : (some y399) = some r := by first | (rw [hy399]; with_reducible exact H) | (have H2_ := (Option.bind_some _ _).symm.trans H; rw [hy399]; with_reducible exact H2_) | (have H2_ := (Option.bind_some _ _).symm.trans H; with_reducible exact H2_) | with_reducible exact H | (rw [hy399]; exact H) | exact H
  have Ny399 := Aside0.mk hy399
  clear hy399
  obtain rfl := Option.some.inj H
  go_enter Try.func74, Try.ntmps74
  go_wp2_with (first | ((with_reducible refine gate_callee (f := 106) rfl ?_); refine goesL_ (some 13) rfl rfl Try.func106 (by kernel_rfl) rfl #[.slice A0 l0.length c0] rfl (by (try simp only [List.map_toArray, List.map_cons, List.map_nil]); first | done | rfl | (simp only [List.length_drop, List.length_take]; rfl)) ?_; (with_reducible refine (spec_l1Own.calls _ _ l0 t396 _ ?side1 ?side2 A4.out).mono ?_); (case side1 => repeat (first | exact HR0.out | (with_reducible refine Kd.C_alloc ?_ _) | (with_reducible refine Kd.C_drewN ?_ _) | (with_reducible refine Kd.C_drew ?_))); (case side2 => exact HC0.out); rintro e w5 ⟨v397, rfl, ho0, hb⟩; refine ⟨_, rfl, ?_⟩; have n0_ := Aside0.mk (Kd.R_lower (Kd.R_newM (M := fun k_ => (w.heap.size ≤ k_)) ho0 (below_size (by repeat (first | (with_reducible first | exact HB.out | apply below_alloc | apply pw_below_drewN | apply below_drew1) | exact HB.out))) (fun k_ h_ => h_)) (below_size (by repeat (first | (with_reducible first | exact HB.out | apply below_alloc | apply pw_below_drewN | apply below_drew1) | exact HB.out)))); have n1_ := Aside0.mk (below_step (by repeat (first | (with_reducible first | exact HB.out | apply below_alloc | apply pw_below_drewN | apply below_drew1) | exact HB.out)) hb); clear HB; have HO398 := n0_; have HB := n1_; clear n0_ n1_; (try clear hb); (try clear hb2); (try clear hk); (try clear hi); (try clear ho0); obtain ⟨Ao6, co6, eo6⟩ := Kd.R_slice HO398.out; subst eo6) | ((with_reducible refine gate_dst (N := 14) rfl ?_); refine Kd.N_lit (Kd.slice 3 (Kd.int .i64)) _ 24 ?hg (N' := 14) ?hd (xs := ([t396] : List (List Int))) (inner := [.slice Ao6 t396.length co6]) (ok := (fun k_ => (w.heap.size ≤ k_))) (okp := (fun k_ => (w.heap.size ≤ k_))) ?hr ?hp (fun _ hk => hk) ((show ∀ k_, w5.heap.size ≤ k_ → (fun k_ => (w.heap.size ≤ k_)) k_ from fun k_ hk => (Nat.le_trans (below_size (by repeat (first | (with_reducible first | exact HB.out | apply below_alloc | apply pw_below_drewN | apply below_drew1) | exact HB.out))) hk)) _ (Nat.le_refl _)) (Below.refl _ _) (Nat.le_refl _) (by simp) ?_; (case hd => rfl); (case hg => rfl); (case hr => first | (go_simp; done) | (go_simp; rfl)); (case hp => exact (Reps.one (show Kd.FK (Kd.slice 3 (Kd.int .i64)) _ _ t396 [.slice Ao6 t396.length co6] from (Kd.FK_slice_mk (Kd.R_reads' (Kd.R_mono (ok' := (fun k_ => (w.heap.size ≤ k_))) (HO398.out) (fun k_ hk => hk.1))).2.1 (Kd.R_F (Kd.R_mono (ok' := (fun k_ => (w.heap.size ≤ k_))) (HO398.out) (fun k_ hk => hk.1))))) (Reps.none _ _))); intro v400 w7 ho8 hb hg_ hnew_; clear hg_ hnew_; (first | rw [← Ny399.out] at ho8 | (simp only [Int.reduceToNat] at ho8; rw [← Ny399.out] at ho8)); have n0_ := Aside0.mk (Kd.N_lower ho8 (below_size (by repeat (first | (with_reducible first | exact HB.out | apply below_alloc | apply pw_below_drewN | apply below_drew1) | exact HB.out)))); have n1_ := Aside0.mk (below_step (by repeat (first | (with_reducible first | exact HB.out | apply below_alloc | apply pw_below_drewN | apply below_drew1) | exact HB.out)) hb); clear HB; clear HO398; have HO401 := n0_; have HB := n1_; clear n0_ n1_; clear hb ho8))
  go_ret
  exact ⟨_, by first | rfl | (simp [errW_none, errW_some] <;> rfl) | (simp [*, errW_none, errW_some] <;> rfl), by (with_reducible repeat (first | apply Kd.N_alloc | apply Kd.N_drewN | apply Kd.N_drew)); exact HO401.out, by repeat (first | (with_reducible first | exact HB.out | apply below_alloc | apply pw_below_drewN | apply below_drew1) | exact HB.out)⟩
 ·rw [if_neg c3] at H
  have c3b0 : ((l0.length : Int) == a1) = false := beq_eq_false_iff_ne.mpr c3
  have c3b1 : ((l0.length : Int) != a1) = true := bne_iff_ne.mpr c3
  have HC9 := Aside0.mk H
  clear H
  go_enter Try.func74, Try.ntmps74
  go_upto_if 17 with (fail)
  go_cut [5] (fun v5 wc => ∃ (kq : Nat) (x5_8 : Int), v5 = .int .i64 x5_8 ∧ Aside0 (spec_waAll.j0 kq l0 a1 x5_8 = some r) ∧ Aside0 (kq ≤ k) ∧ Aside0 (Below w.heap.size w wc))
  case first =>
   have H := HC9.out
   clear HC9
   by_cases c10 : (l0.length : Int) > 0
   ·rw [if_pos c10] at H
    have c10b0 : decide (0 < (l0.length : Int)) = true := decide_eq_true c10
    have c10b1 : decide (0 < l0.length) = true := decide_eq_true (by omega)
    clear c10
    (first | rw [c10b0] | (simp only [i64_w, i32_w]; rw [c10b0]) | rw [c10b1] | skip)
    obtain ⟨ji11, hji11⟩ : ∃ j_ : Int, (wrap64 ((l0.length : Int) - 1)) = j_ := ⟨_, rfl⟩
    replace H : (if 0 ≤ (ji11) then (if (ji11) < (l0.length : Int) then (spec_waAll.j0 k l0 a1 (wrap64 ((rd l0 (ji11)) + 1))) else (none)) else (none)) = some r := by first | (rw [hji11] at H; exact H) | (simp only [hji11] at H ⊢; exact H)
    have hji11w : (IntKind.i64.wrap ((l0.length : Int) - 1)) = ji11 := (i64_w _).trans hji11
    by_cases c12 : 0 ≤ (ji11)
    ·rw [if_pos c12] at H
     have c12b0 : decide (0 ≤ (ji11)) = true := decide_eq_true c12
     clear c12
     by_cases c13 : (ji11) < (l0.length : Int)
     ·rw [if_pos c13] at H
      have c13b0 : decide ((ji11) < (l0.length : Int)) = true := decide_eq_true c13
      clear c13
      have H' := Aside0.mk H
      clear H
      have p402 : 0 ≤ ((ji11) : Int) := of_decide_eq_true (by first | (with_reducible assumption) | assumption)
      have q402 : (ji11) < (l0.length : Int) := of_decide_eq_true (by first | (with_reducible assumption) | assumption)
      obtain ⟨ad402, e402, hx402_0⟩ := Kd.at_int HR0.out (ji11) p402 q402
      cases e402
      replace hx402_0 := (HB.out.cell (World.block_lt_of_cell? w _ hx402_0)).trans hx402_0
      replace p402 := eq_true p402
      replace q402 := eq_true q402
      go_wp2
      go_meet
      case rel => exact ⟨_, (wrap64 ((rd l0 (ji11)) + 1)), (by first | rfl | (simp; done) | (simp only [← hji11] <;> (first | rfl | simp)) | (simp [*]; done)), H', ⟨by first | omega | exact Nat.le_refl _⟩, ⟨by repeat (first | (with_reducible first | exact HB.out | apply below_alloc | apply pw_below_drewN | apply below_drew1) | exact HB.out)⟩⟩
     ·rw [if_neg c13] at H
      exact absurd H (by simp)
    ·rw [if_neg c12] at H
     exact absurd H (by simp)
   ·rw [if_neg c10] at H
    have c10b0 : decide (0 < (l0.length : Int)) = false := decide_eq_false c10
    have c10b1 : decide (0 < l0.length) = false := decide_eq_false (by omega)
    clear c10
    (first | rw [c10b0] | (simp only [i64_w, i32_w]; rw [c10b0]) | rw [c10b1] | skip)
    have H' := Aside0.mk H
    clear H
    go_wp2
    go_meet
    case rel => exact ⟨_, (0), (by first | rfl | (simp; done) | (simp [*]; done)), H', ⟨by first | omega | exact Nat.le_refl _⟩, ⟨by repeat (first | (with_reducible first | exact HB.out | apply below_alloc | apply pw_below_drewN | apply below_drew1) | exact HB.out)⟩⟩
  case rest =>
   clear HC9
   try clear c1
   try clear p2
   try clear c3
   try clear c3b0
   try clear c3b1
   try clear p4
   try clear q4
   try clear hx4
   try clear p6
   try clear c7
   try clear c10
   try clear c10b0
   try clear c10b1
   try clear c12
   try clear c12b0
   try clear c13
   try clear c13b0
   try clear hx402_0
   try clear p402
   try clear q402
   obtain ⟨kq, x5_8, rfl, HA, HJ8, HB⟩ := hcut
   cases kq with
   | zero => exact absurd HA.out (by simp [spec_waAll.j0])
   | succ kj8 =>
    have H := HA.out
    clear HA
    simp only [spec_waAll.j0] at H
    have H' := Aside0.mk H
    clear H
    go_wp2
    go_loopg [6, 7] kj8 (fun kq v6 v7 w' => ∃ (x6_2 : List (List Int)) (x7_2 : Int), v7 = .int .i64 x7_2 ∧ Aside0 (spec_waAll.l0 kq l0 a1 x5_8 x6_2 x7_2 = some r) ∧ Aside0 (kq ≤ kj8) ∧ Aside0 (Kd.N (Kd.slice 3 (Kd.int .i64)) 24 w' w.heap.size (fun k_ => (w.heap.size ≤ k_)) v6 x6_2) ∧ Aside0 (Below w.heap.size w w'))
    case atStart => exact ⟨(([] : List (List Int))), (0), (by first | rfl | (simp; done) | (simp [*]; done)), H', ⟨Nat.le_refl _⟩, ⟨by first | exact Kd.S_nil _ _ _ _ _ | exact Kd.N_nil _ _ _ _ _ | exact Kd.V_nil _ _ _ _ _ | exact Kd.Q_nil _ _ _ _ _ | exact Kd.R_nil _ _ _ _ _⟩, ⟨by repeat (first | (with_reducible first | exact HB.out | apply below_alloc | apply pw_below_drewN | apply below_drew1) | exact HB.out)⟩⟩
    case round =>
     clear H'
     try clear c1
     try clear p2
     try clear c3
     try clear c3b0
     try clear c3b1
     try clear p4
     try clear q4
     try clear hx4
     try clear p6
     try clear c7
     try clear c10
     try clear c10b0
     try clear c10b1
     try clear c12
     try clear c12b0
     try clear c13
     try clear c13b0
     try clear hx402_0
     try clear p2
     try clear p4
     try clear p402
     try clear p6
     try clear q4
     try clear q402
     obtain ⟨x6_2, x7_2, rfl, HA, HK2, HO_6, HB⟩ := hrel
     cases gk with
     | zero => exact absurd HA.out (by simp [spec_waAll.l0])
     | succ k2 =>
      have H := HA.out
      clear HA
      simp only [spec_waAll.l0] at H
      by_cases c14 : x7_2 ≤ x5_8
      ·rw [if_pos c14] at H
       have c14b0 : decide (x7_2 ≤ x5_8) = true := decide_eq_true c14
       clear c14
       replace H := Option.bind_eq_some_iff.mp H
       obtain ⟨t403, A150, H⟩ := H
       replace H : (if t403.length < 17592186044416 then ((spec_waAll.f k2 (t403 ++ [x7_2]) a1).bind fun t409 => (if x6_2.length + t409.length < 5864062014805 then (spec_waAll.l0 k2 l0 a1 x5_8 (x6_2 ++ t409) (wrap64 (x7_2 + 1))) else (none))) else (none)) = some r := H
       have A15 := Aside0.mk A150
       clear A150
       by_cases c16 : t403.length < 17592186044416
       ·rw [if_pos c16] at H
        have LMc16 := Aside0.mk c16
        clear c16
        obtain ⟨y406, hy406⟩ : ∃ y_ : List Int, y_ = (t403 ++ [x7_2]) := ⟨_, rfl⟩
        replace H : ((spec_waAll.f k2 y406 a1).bind fun t409 => (if x6_2.length + t409.length < 5864062014805 then (spec_waAll.l0 k2 l0 a1 x5_8 (x6_2 ++ t409) (wrap64 (x7_2 + 1))) else (none))) = some r := by first | (rw [hy406]; with_reducible exact H) | (have H2_ := (Option.bind_some _ _).symm.trans H; rw [hy406]; with_reducible exact H2_) | (have H2_ := (Option.bind_some _ _).symm.trans H; with_reducible exact H2_) | with_reducible exact H | (rw [hy406]; exact H) | exact H
        have Ny406 := Aside0.mk hy406
        clear hy406
        replace H := Option.bind_eq_some_iff.mp H
        obtain ⟨t409, A170, H⟩ := H
        replace H : (if x6_2.length + t409.length < 5864062014805 then (spec_waAll.l0 k2 l0 a1 x5_8 (x6_2 ++ t409) (wrap64 (x7_2 + 1))) else (none)) = some r := H
        have A17 := Aside0.mk A170
        clear A170
        by_cases c18 : x6_2.length + t409.length < 5864062014805
        ·rw [if_pos c18] at H
         have LMc18 := Aside0.mk c18
         clear c18
         obtain ⟨y412, hy412⟩ : ∃ y_ : List (List Int), y_ = (x6_2 ++ t409) := ⟨_, rfl⟩
         replace H : (spec_waAll.l0 k2 l0 a1 x5_8 y412 (wrap64 (x7_2 + 1))) = some r := by first | (rw [hy412]; with_reducible exact H) | (have H2_ := (Option.bind_some _ _).symm.trans H; rw [hy412]; with_reducible exact H2_) | (have H2_ := (Option.bind_some _ _).symm.trans H; with_reducible exact H2_) | with_reducible exact H | (rw [hy412]; exact H) | exact H
         have Ny412 := Aside0.mk hy412
         clear hy412
         have H' := Aside0.mk H
         clear H
         go_wp2_with (first | ((with_reducible refine gate_callee (f := 106) rfl ?_); refine goesL_ (some 32) rfl rfl Try.func106 (by kernel_rfl) rfl #[.slice A0 l0.length c0] rfl (by (try simp only [List.map_toArray, List.map_cons, List.map_nil]); first | done | rfl | (simp only [List.length_drop, List.length_take]; rfl)) ?_; (with_reducible refine (spec_l1Own.calls _ _ l0 t403 _ ?side1 ?side2 A15.out).mono ?_); (case side1 => repeat (first | exact (Kd.C_below HR0.out HB.out) | (with_reducible refine Kd.C_alloc ?_ _) | (with_reducible refine Kd.C_drewN ?_ _) | (with_reducible refine Kd.C_drew ?_))); (case side2 => exact HC0.out); rintro e w19 ⟨v404, rfl, ho0, hb⟩; refine ⟨_, rfl, ?_⟩; have n0_ := Aside0.mk (Kd.N_elder' (by (with_reducible repeat (first | apply Kd.N_alloc | apply Kd.N_drewN | apply Kd.N_drew)); exact HO_6.out) (Kd.R_base ho0) hb); have n1_ := Aside0.mk (Kd.R_lower (Kd.R_newM (M := fun k_ => (w.heap.size ≤ k_)) ho0 (below_size (by repeat (first | (with_reducible first | exact HB.out | apply below_alloc | apply pw_below_drewN | apply below_drew1) | exact HB.out))) (fun k_ h_ => h_)) (below_size (by repeat (first | (with_reducible first | exact HB.out | apply below_alloc | apply pw_below_drewN | apply below_drew1) | exact HB.out)))); have n2_ := Aside0.mk (below_step (by repeat (first | (with_reducible first | exact HB.out | apply below_alloc | apply pw_below_drewN | apply below_drew1) | exact HB.out)) hb); clear HO_6; clear HB; have HO_6 := n0_; have HO405 := n1_; have HB := n2_; clear n0_ n1_ n2_; (try clear hb); (try clear hb2); (try clear hk); (try clear hi); (try clear ho0)) | ((with_reducible refine gate_builtin (b := .append) (xs := #[.tmp 32, .tmp 34]) rfl ?_); at_builtin; refine Kd.R_append (Kd.int .i64) (w0 := w) w.heap.size rfl (.tmp 32) (.tmp 34) 24 3 (.int .i64 0) 8 rfl Try.underlying24 info3 rfl (by decide) (by omega) v404 t403 x7_2 [.int .i64 x7_2] (fun k_ => (w.heap.size ≤ k_)) (fun _ => False) rfl rfl ?aP (fun _ hk => hk.elim) ?aF ?aO ?aB ?aS ?aL ?_; (case aP => exact rfl); (case aB => exact (by repeat (first | (with_reducible first | exact HB.out | apply below_alloc | apply pw_below_drewN | apply below_drew1) | exact HB.out))); (case aF => exact (fun k_ hk => (Nat.le_trans (below_size (by repeat (first | (with_reducible first | exact HB.out | apply below_alloc | apply pw_below_drewN | apply below_drew1) | exact HB.out))) hk))); (case aO => exact (by (with_reducible repeat (first | apply Kd.R_alloc | apply Kd.R_drewN | apply Kd.R_drew)); exact Kd.R_mono HO405.out (fun _ hk => hk.1))); (case aS => exact (below_size (by repeat (first | (with_reducible first | exact HB.out | apply below_alloc | apply pw_below_drewN | apply below_drew1) | exact HB.out)))); (case aL => have := LMc16.out; omega); intro v407 w20 ho hb hg hat; rw [← Ny406.out] at ho; have n0_ := Aside0.mk (Kd.N_afterv (ok := (fun k_ => (w.heap.size ≤ k_))) (by (with_reducible repeat (first | apply Kd.N_alloc | apply Kd.N_drewN | apply Kd.N_drew)); exact HO_6.out) hg hat); have n1_ := Aside0.mk (hb); have n2_ := Aside0.mk (ho); clear HO_6; clear HB; clear HO405; have HO_6 := n0_; have HB := n1_; have HO408 := n2_; clear n0_ n1_ n2_; clear ho hb hg hat; obtain ⟨Ao21, co21, eo21⟩ := Kd.R_slice HO408.out; subst eo21) | ((with_reducible refine gate_callee (f := 74) rfl ?_); refine goesL_ (some 37) rfl rfl Try.func74 (by kernel_rfl) rfl #[.slice Ao21 y406.length co21, .int .i64 a1] rfl (by (try simp only [List.map_toArray, List.map_cons, List.map_nil]); first | done | rfl | (simp only [List.length_drop, List.length_take]; rfl)) ?_; (with_reducible refine (ih k2 (by have := HJ8.out; have := HK2.out; omega) _ _ y406 a1 t409 _ ?side1 ?side2 A17.out).mono ?_); (case side1 => repeat (first | exact (Kd.R_reads' HO408.out).2.2 | (with_reducible refine Kd.C_alloc ?_ _) | (with_reducible refine Kd.C_drewN ?_ _) | (with_reducible refine Kd.C_drew ?_))); (case side2 => exact (Kd.R_reads' HO408.out).2.1); rintro e w22 ⟨v410, rfl, ho0, hb⟩; refine ⟨_, rfl, ?_⟩; have n0_ := Aside0.mk (Kd.N_elder' (by (with_reducible repeat (first | apply Kd.N_alloc | apply Kd.N_drewN | apply Kd.N_drew)); exact HO_6.out) (Kd.N_base ho0) hb); have n1_ := Aside0.mk (Kd.R_below (by (with_reducible repeat (first | apply Kd.R_alloc | apply Kd.R_drewN | apply Kd.R_drew)); exact HO408.out) hb); have n2_ := Aside0.mk (Kd.N_lower (Kd.N_mono (ok' := fun k_ => (w.heap.size ≤ k_) ∧ some k_ ≠ (u6 : Value).ownBlock ∧ some k_ ≠ (.slice Ao21 y406.length co21 : Value).ownBlock) ho0 (fun k_ hk_ => ⟨(Nat.le_trans (below_size (by repeat (first | (with_reducible first | exact HB.out | apply below_alloc | apply pw_below_drewN | apply below_drew1) | exact HB.out))) hk_), (Kd.fresh' (Kd.N_lt (by (with_reducible repeat (first | apply Kd.N_alloc | apply Kd.N_drewN | apply Kd.N_drew)); exact HO_6.out)) k_ hk_), (Kd.fresh' (Kd.R_lt (by (with_reducible repeat (first | apply Kd.R_alloc | apply Kd.R_drewN | apply Kd.R_drew)); exact HO408.out)) k_ hk_)⟩)) (below_size (by repeat (first | (with_reducible first | exact HB.out | apply below_alloc | apply pw_below_drewN | apply below_drew1) | exact HB.out)))); have n3_ := Aside0.mk (below_step (by repeat (first | (with_reducible first | exact HB.out | apply below_alloc | apply pw_below_drewN | apply below_drew1) | exact HB.out)) hb); clear HO_6; clear HO408; clear HB; have HO_6 := n0_; have HO408 := n1_; have HO411 := n2_; have HB := n3_; clear n0_ n1_ n2_ n3_; (try clear hb); (try clear hb2); (try clear hk); (try clear hi); (try clear ho0); obtain ⟨Ao24, co24, eo24⟩ := Kd.N_slice HO411.out; subst eo24) | ((with_reducible refine gate_builtin (b := .append) (xs := #[.tmp 30, .tmp 37]) rfl ?_); at_builtin; refine Kd.N_append_rows (Kd.slice 3 (Kd.int .i64)) (w0 := w) w.heap.size rfl (.tmp 30) (.tmp 37) 28 24 (.slice none 0 0) 24 rfl Try.underlying28 info24 rfl (by decide) (by omega) u6 x6_2 t409 _ _ _ (fun k_ => (w.heap.size ≤ k_) ∧ some k_ ≠ (.slice Ao21 y406.length co21 : Value).ownBlock) (fun k_ => ((fun k_ => (w.heap.size ≤ k_) ∧ some k_ ≠ (.slice Ao21 y406.length co21 : Value).ownBlock)) k_ ∧ some k_ ≠ (u6 : Value).ownBlock) rfl rfl ?aO ?aR (fun _ hk => hk) ?aF ?aB ?aS ?aL ?_; (case aR => exact (by skip; exact Kd.N_F (Kd.N_mono (ok' := (fun k_ => ((fun k_ => (w.heap.size ≤ k_) ∧ some k_ ≠ (.slice Ao21 y406.length co21 : Value).ownBlock)) k_ ∧ some k_ ≠ (u6 : Value).ownBlock)) (HO411.out) (fun k_ hk => ⟨⟨hk.1, hk.2.2⟩, hk.2.1⟩)))); (case aB => exact (by repeat (first | (with_reducible first | exact HB.out | apply below_alloc | apply pw_below_drewN | apply below_drew1) | exact HB.out))); (case aF => exact (fun k_ hk => ⟨(Nat.le_trans (below_size (by repeat (first | (with_reducible first | exact HB.out | apply below_alloc | apply pw_below_drewN | apply below_drew1) | exact HB.out))) hk), Kd.fresh' (Kd.R_lt (by (with_reducible repeat (first | apply Kd.R_alloc | apply Kd.R_drewN | apply Kd.R_drew)); exact HO408.out)) k_ hk⟩)); (case aO => exact (by (with_reducible repeat (first | apply Kd.N_alloc | apply Kd.N_drewN | apply Kd.N_drew)); exact Kd.N_mono HO_6.out (fun _ hk => ⟨hk.1.1, hk.1.2⟩))); (case aS => exact (below_size (by repeat (first | (with_reducible first | exact HB.out | apply below_alloc | apply pw_below_drewN | apply below_drew1) | exact HB.out)))); (case aL => have := LMc18.out; omega); intro v413 w23 ho hb hg hat; rw [← Ny412.out] at ho; have n0_ := Aside0.mk (Kd.R_over' (by (with_reducible repeat (first | apply Kd.R_alloc | apply Kd.R_drewN | apply Kd.R_drew)); exact HO408.out) (Kd.N_typed (by (with_reducible repeat (first | apply Kd.N_alloc | apply Kd.N_drewN | apply Kd.N_drew)); exact HO_6.out)) (by decide) hg); have n1_ := Aside0.mk (Kd.N_afterv (ok := (fun k_ => (w.heap.size ≤ k_) ∧ some k_ ≠ (.slice Ao21 y406.length co21 : Value).ownBlock)) (by (with_reducible repeat (first | apply Kd.N_alloc | apply Kd.N_drewN | apply Kd.N_drew)); exact Kd.N_mono HO411.out (fun _ hk => ⟨⟨hk.1, hk.2.2⟩, hk.2.1⟩)) hg hat); have n2_ := Aside0.mk (hb); have n3_ := Aside0.mk (ho); clear HO408; clear HO411; clear HB; clear HO_6; have HO408 := n0_; have HO411 := n1_; have HB := n2_; have HO414 := n3_; clear n0_ n1_ n2_ n3_; clear ho hb hg hat))
         go_roundg k2
         case measure => have := HJ8.out; have := HK2.out; omega
         case rel => exact ⟨(y412), (wrap64 (x7_2 + 1)), (by first | rfl | (simp; done) | (simp [*]; done)), H', ⟨by have := HJ8.out; have := HK2.out; omega⟩, ⟨by (with_reducible repeat (first | apply Kd.N_alloc | apply Kd.N_drewN | apply Kd.N_drew)); exact Kd.N_mono HO414.out (fun _ hk => hk.1)⟩, ⟨by repeat (first | (with_reducible first | exact HB.out | apply below_alloc | apply pw_below_drewN | apply below_drew1) | exact HB.out)⟩⟩
        ·rw [if_neg c18] at H
         exact absurd H (by simp)
       ·rw [if_neg c16] at H
        exact absurd H (by simp)
      ·rw [if_neg c14] at H
       have c14b0 : decide (x7_2 ≤ x5_8) = false := decide_eq_false c14
       clear c14
       obtain rfl := Option.some.inj H
       go_wp2
       go_ret
       exact ⟨_, by first | rfl | (simp [errW_none, errW_some] <;> rfl) | (simp [*, errW_none, errW_some] <;> rfl), by (with_reducible repeat (first | apply Kd.N_alloc | apply Kd.N_drewN | apply Kd.N_drew)); exact HO_6.out, by repeat (first | (with_reducible first | exact HB.out | apply below_alloc | apply pw_below_drewN | apply below_drew1) | exact HB.out)⟩

/-! ### spec_AllHeights: function 22 -/
def spec_AllHeights.f (k : Nat) (a0 : Int) : Option ((List (List Int)) × Bool) := (spec_l1In.f a0 0 6).bind fun t415 => (if t415 = true then ((spec_waAll.f k ([] : List Int) a0).bind fun t416 => (some (t416, true))) else (some (([] : List (List Int)), false)))
theorem spec_AllHeights.mono : ∀ a0 k, LeO (spec_AllHeights.f k a0) (spec_AllHeights.f (k + 1) a0) := by
 intro a0 k
 unfold spec_AllHeights.f
 repeat' first
   | (with_reducible exact spec_waAll.mono _ _ _)
   | (with_reducible exact LeO.refl _)
   | (with_reducible exact LeO.none _)
   | (with_reducible refine LeO.ite ?_ ?_)
   | (with_reducible refine LeO.bind ?_ (fun _ => ?_))
   | exact LeO.none _
   | refine LeO.ite ?_ ?_
   | refine LeO.bind ?_ (fun _ => ?_)
set_option maxHeartbeats 8000000 in
set_option maxRecDepth 100000 in
theorem spec_AllHeights.calls (k : Nat) (a0 : Int) (r1 : List (List Int)) (r2 : Bool) (w : World) (h : spec_AllHeights.f k a0 = some (r1, r2)) :
  Calls Try.prog 22 #[.int .i64 a0] w fun e w' => ∃ v0_ : Value, e = .returned (.tuple #[v0_, .bool r2]) ∧ Kd.N (Kd.slice 3 (Kd.int .i64)) 24 w' w.heap.size (fun k_ => (w.heap.size ≤ k_)) v0_ r1 ∧ Below w.heap.size w w' := by
 have HB := Aside0.mk (Below.refl w.heap.size w)
 have H : ((spec_l1In.f a0 0 6).bind fun t415 => (if t415 = true then ((spec_waAll.f k ([] : List Int) a0).bind fun t416 => (some (t416, true))) else (some (([] : List (List Int)), false)))) = some (r1, r2) := h
 clear h
 replace H := Option.bind_eq_some_iff.mp H
 obtain ⟨t415, A20, H⟩ := H
 replace H : (if t415 = true then ((spec_waAll.f k ([] : List Int) a0).bind fun t416 => (some (t416, true))) else (some (([] : List (List Int)), false))) = some (r1, r2) := H
 have A2 := Aside0.mk A20
 clear A20
 by_cases c3 : t415 = true
 ·subst c3
  have H1 : ((spec_waAll.f k ([] : List Int) a0).bind fun t416 => (some (t416, true))) = some (r1, r2) := by rw [if_pos rfl] at H; exact H
  clear H
  have H := H1
  clear H1
  replace H := Option.bind_eq_some_iff.mp H
  obtain ⟨t416, A40, H⟩ := H
  replace H : (some (t416, true)) = some (r1, r2) := H
  have A4 := Aside0.mk A40
  clear A40
  simp only [Option.some.injEq, Prod.mk.injEq] at H
  obtain ⟨rfl, rfl⟩ := H
  go_enter Try.func22, Try.ntmps22
  go_wp2_with (first | ((with_reducible refine gate_callee (f := 68) rfl ?_); refine goesL_ (some 5) rfl rfl Try.func68 (by kernel_rfl) rfl #[.int .i64 a0, .int .i64 0, .int .i64 6] rfl (by (try simp only [List.map_toArray, List.map_cons, List.map_nil]); first | done | rfl | (simp only [List.length_drop, List.length_take]; rfl)) ?_; (with_reducible refine (spec_l1In.calls a0 0 6 true _ A2.out).mono ?_); rintro e w' ⟨rfl, ⟨nd, rfl⟩⟩; refine ⟨_, rfl, ?_⟩) | ((with_reducible refine gate_callee (f := 74) rfl ?_); refine goesL_ (some 8) rfl rfl Try.func74 (by kernel_rfl) rfl #[.slice none 0 0, .int .i64 a0] rfl (by (try simp only [List.map_toArray, List.map_cons, List.map_nil]); first | done | rfl | (simp only [List.length_drop, List.length_take]; rfl)) ?_; (refine (spec_waAll.calls k _ _ ([] : List Int) a0 t416 _ ?side1 ?side2 A4.out).mono ?_); (case side1 => exact Kd.C_nil _ _); (case side2 => exact Nat.le_refl _); rintro e w5 ⟨v417, rfl, ho0, hb⟩; refine ⟨_, rfl, ?_⟩; have n0_ := Aside0.mk (Kd.N_lower (Kd.N_mono (ok' := fun k_ => (w.heap.size ≤ k_)) ho0 (fun k_ hk_ => (Nat.le_trans (below_size (by repeat (first | (with_reducible first | exact HB.out | apply below_alloc | apply pw_below_drewN | apply below_drew1) | exact HB.out))) hk_))) (below_size (by repeat (first | (with_reducible first | exact HB.out | apply below_alloc | apply pw_below_drewN | apply below_drew1) | exact HB.out)))); have n1_ := Aside0.mk (below_step (by repeat (first | (with_reducible first | exact HB.out | apply below_alloc | apply pw_below_drewN | apply below_drew1) | exact HB.out)) hb); clear HB; have HO418 := n0_; have HB := n1_; clear n0_ n1_; (try clear hb); (try clear hb2); (try clear hk); (try clear hi); (try clear ho0)))
  go_ret2
  exact ⟨_, by first | rfl | (simp [errW_none, errW_some] <;> rfl) | (simp [*, errW_none, errW_some] <;> rfl), by (with_reducible repeat (first | apply Kd.N_alloc | apply Kd.N_drewN | apply Kd.N_drew)); exact HO418.out, by repeat (first | (with_reducible first | exact HB.out | apply below_alloc | apply pw_below_drewN | apply below_drew1) | exact HB.out)⟩
 ·replace c3 := Bool.eq_false_iff.mpr c3
  subst c3
  have H1 : (some (([] : List (List Int)), false)) = some (r1, r2) := by rw [if_neg (show ¬ (false = true) by decide)] at H; exact H
  clear H
  have H := H1
  clear H1
  simp only [Option.some.injEq, Prod.mk.injEq] at H
  obtain ⟨rfl, rfl⟩ := H
  go_enter Try.func22, Try.ntmps22
  go_wp2_with (first | ((with_reducible refine gate_callee (f := 68) rfl ?_); refine goesL_ (some 5) rfl rfl Try.func68 (by kernel_rfl) rfl #[.int .i64 a0, .int .i64 0, .int .i64 6] rfl (by (try simp only [List.map_toArray, List.map_cons, List.map_nil]); first | done | rfl | (simp only [List.length_drop, List.length_take]; rfl)) ?_; (with_reducible refine (spec_l1In.calls a0 0 6 false _ A2.out).mono ?_); rintro e w' ⟨rfl, ⟨nd, rfl⟩⟩; refine ⟨_, rfl, ?_⟩))
  go_ret2
  exact ⟨_, by first | rfl | (simp [errW_none, errW_some] <;> rfl) | (simp [*, errW_none, errW_some] <;> rfl), by first | exact Kd.S_nil _ _ _ _ _ | exact Kd.N_nil _ _ _ _ _ | exact Kd.V_nil _ _ _ _ _ | exact Kd.Q_nil _ _ _ _ _ | exact Kd.R_nil _ _ _ _ _, by repeat (first | (with_reducible first | exact HB.out | apply below_alloc | apply pw_below_drewN | apply below_drew1) | exact HB.out)⟩

/-! ### impl_isCars: function 77 -/
def impl_isCars.f (a0 : Int) : Option (Bool) := (impl_between.f a0 0 8).bind fun t419 => (some t419)
set_option maxHeartbeats 8000000 in
set_option maxRecDepth 100000 in
theorem impl_isCars.calls (a0 : Int) (r : Bool) (w : World) (h : impl_isCars.f a0 = some r) :
    Calls Try.prog 77 #[.int .i64 a0] w fun e w' => e = .returned (.bool r) ∧ Drawn0 w w' := by
  have H : ((impl_between.f a0 0 8).bind fun t419 => (some t419)) = some r := h
  clear h
  replace H := Option.bind_eq_some_iff.mp H
  obtain ⟨t419, A20, H⟩ := H
  replace H : (some t419) = some r := H
  have A2 := Aside0.mk A20
  clear A20
  obtain rfl := Option.some.inj H
  go_enter Try.func77, Try.ntmps77
  go_wp2_with (first | ((with_reducible refine gate_callee (f := 64) rfl ?_); refine goesL_ (some 4) rfl rfl Try.func64 (by kernel_rfl) rfl #[.int .i64 a0, .int .i64 0, .int .i64 8] rfl (by (try simp only [List.map_toArray, List.map_cons, List.map_nil]); first | done | rfl | (simp only [List.length_drop, List.length_take]; rfl)) ?_; (with_reducible refine (impl_between.calls a0 0 8 t419 _ A2.out).mono ?_); rintro e w' ⟨rfl, ⟨nd, rfl⟩⟩; refine ⟨_, rfl, ?_⟩))
  go_ret
  exact ⟨by first | rfl | (simp; done) | (simp [*]; done), by repeat (first | exact Drawn0.refl _ | apply Drawn0.step)⟩

/-! ### impl_CountSorted: function 75 -/
def impl_CountSorted.f (k : Nat) (a0 : Int) : Option (Int × Bool) := (impl_isCars.f a0).bind fun t420 => (if t420 = true then ((impl_choose.f k (wrap64 (2 * a0)) a0).bind fun t421 => (if (wrap64 (a0 + 1)) = 0 then (none) else (some (wrap64 (Int.tdiv t421 (wrap64 (a0 + 1))), true)))) else (some (0, false)))
theorem impl_CountSorted.mono : ∀ a0 k, LeO (impl_CountSorted.f k a0) (impl_CountSorted.f (k + 1) a0) := by
 intro a0 k
 unfold impl_CountSorted.f
 repeat' first
   | (with_reducible exact impl_choose.mono _ _ _)
   | (with_reducible exact LeO.refl _)
   | (with_reducible exact LeO.none _)
   | (with_reducible refine LeO.ite ?_ ?_)
   | (with_reducible refine LeO.bind ?_ (fun _ => ?_))
   | exact LeO.none _
   | refine LeO.ite ?_ ?_
   | refine LeO.bind ?_ (fun _ => ?_)
set_option maxHeartbeats 8000000 in
set_option maxRecDepth 100000 in
theorem impl_CountSorted.calls (k : Nat) (a0 : Int) (r1 : Int) (r2 : Bool) (w : World) (h : impl_CountSorted.f k a0 = some (r1, r2)) :
  Calls Try.prog 75 #[.int .i64 a0] w fun e w' => e = .returned (.tuple #[.int .i64 r1, .bool r2]) ∧ Drawn0 w w' := by
 have H : ((impl_isCars.f a0).bind fun t420 => (if t420 = true then ((impl_choose.f k (wrap64 (2 * a0)) a0).bind fun t421 => (if (wrap64 (a0 + 1)) = 0 then (none) else (some (wrap64 (Int.tdiv t421 (wrap64 (a0 + 1))), true)))) else (some (0, false)))) = some (r1, r2) := h
 clear h
 replace H := Option.bind_eq_some_iff.mp H
 obtain ⟨t420, A20, H⟩ := H
 replace H : (if t420 = true then ((impl_choose.f k (wrap64 (2 * a0)) a0).bind fun t421 => (if (wrap64 (a0 + 1)) = 0 then (none) else (some (wrap64 (Int.tdiv t421 (wrap64 (a0 + 1))), true)))) else (some (0, false))) = some (r1, r2) := H
 have A2 := Aside0.mk A20
 clear A20
 by_cases c3 : t420 = true
 ·subst c3
  have H1 : ((impl_choose.f k (wrap64 (2 * a0)) a0).bind fun t421 => (if (wrap64 (a0 + 1)) = 0 then (none) else (some (wrap64 (Int.tdiv t421 (wrap64 (a0 + 1))), true)))) = some (r1, r2) := by rw [if_pos rfl] at H; exact H
  clear H
  have H := H1
  clear H1
  replace H := Option.bind_eq_some_iff.mp H
  obtain ⟨t421, A40, H⟩ := H
  replace H : (if (wrap64 (a0 + 1)) = 0 then (none) else (some (wrap64 (Int.tdiv t421 (wrap64 (a0 + 1))), true))) = some (r1, r2) := H
  have A4 := Aside0.mk A40
  clear A40
  by_cases c5 : (wrap64 (a0 + 1)) = 0
  ·rw [if_pos c5] at H
   exact absurd H (by simp)
  ·rw [if_neg c5] at H
   have c5b0 : ((wrap64 (a0 + 1)) == 0) = false := beq_eq_false_iff_ne.mpr c5
   have c5b1 : ((wrap64 (a0 + 1)) != 0) = true := bne_iff_ne.mpr c5
   simp only [Option.some.injEq, Prod.mk.injEq] at H
   obtain ⟨rfl, rfl⟩ := H
   go_enter Try.func75, Try.ntmps75
   go_wp2_with (first | ((with_reducible refine gate_callee (f := 77) rfl ?_); refine goesL_ (some 5) rfl rfl Try.func77 (by kernel_rfl) rfl #[.int .i64 a0] rfl (by (try simp only [List.map_toArray, List.map_cons, List.map_nil]); first | done | rfl | (simp only [List.length_drop, List.length_take]; rfl)) ?_; (with_reducible refine (impl_isCars.calls a0 true _ A2.out).mono ?_); rintro e w' ⟨rfl, ⟨nd, rfl⟩⟩; refine ⟨_, rfl, ?_⟩) | ((with_reducible refine gate_callee (f := 107) rfl ?_); refine goesL_ (some 10) rfl rfl Try.func107 (by kernel_rfl) rfl #[.int .i64 (wrap64 (2 * a0)), .int .i64 a0] rfl (by (try simp only [List.map_toArray, List.map_cons, List.map_nil]); first | done | rfl | (simp only [List.length_drop, List.length_take]; rfl)) ?_; (with_reducible refine (impl_choose.calls k (wrap64 (2 * a0)) a0 t421 _ A4.out).mono ?_); rintro e w' ⟨rfl, ⟨nd, rfl⟩⟩; refine ⟨_, rfl, ?_⟩))
   go_ret2
   exact ⟨by first | rfl | (simp; done) | (simp [*]; done), by repeat (first | exact Drawn0.refl _ | apply Drawn0.step)⟩
 ·replace c3 := Bool.eq_false_iff.mpr c3
  subst c3
  have H1 : (some (0, false)) = some (r1, r2) := by rw [if_neg (show ¬ (false = true) by decide)] at H; exact H
  clear H
  have H := H1
  clear H1
  simp only [Option.some.injEq, Prod.mk.injEq] at H
  obtain ⟨rfl, rfl⟩ := H
  go_enter Try.func75, Try.ntmps75
  go_wp2_with (first | ((with_reducible refine gate_callee (f := 77) rfl ?_); refine goesL_ (some 5) rfl rfl Try.func77 (by kernel_rfl) rfl #[.int .i64 a0] rfl (by (try simp only [List.map_toArray, List.map_cons, List.map_nil]); first | done | rfl | (simp only [List.length_drop, List.length_take]; rfl)) ?_; (with_reducible refine (impl_isCars.calls a0 false _ A2.out).mono ?_); rintro e w' ⟨rfl, ⟨nd, rfl⟩⟩; refine ⟨_, rfl, ?_⟩))
  go_ret2
  exact ⟨by first | rfl | (simp; done) | (simp [*]; done), by repeat (first | exact Drawn0.refl _ | apply Drawn0.step)⟩

/-! ### impl_CountHeights: function 23 -/
def impl_CountHeights.f (k : Nat) (a0 : Int) : Option (Int × Bool) := (impl_CountSorted.f k a0).bind fun bt422 => (some (bt422.1, bt422.2))
theorem impl_CountHeights.mono : ∀ a0 k, LeO (impl_CountHeights.f k a0) (impl_CountHeights.f (k + 1) a0) := by
  intro a0 k
  unfold impl_CountHeights.f
  repeat' first
      | (with_reducible exact impl_CountSorted.mono _ _)
      | (with_reducible exact LeO.refl _)
      | (with_reducible exact LeO.none _)
      | (with_reducible refine LeO.ite ?_ ?_)
      | (with_reducible refine LeO.bind ?_ (fun _ => ?_))
      | exact LeO.none _
      | refine LeO.ite ?_ ?_
      | refine LeO.bind ?_ (fun _ => ?_)
set_option maxHeartbeats 8000000 in
set_option maxRecDepth 100000 in
theorem impl_CountHeights.calls (k : Nat) (a0 : Int) (r1 : Int) (r2 : Bool) (w : World) (h : impl_CountHeights.f k a0 = some (r1, r2)) :
    Calls Try.prog 23 #[.int .i64 a0] w fun e w' => e = .returned (.tuple #[.int .i64 r1, .bool r2]) ∧ Drawn0 w w' := by
  have H : ((impl_CountSorted.f k a0).bind fun bt422 => (some (bt422.1, bt422.2))) = some (r1, r2) := h
  clear h
  replace H := Option.bind_eq_some_iff.mp H
  obtain ⟨⟨t422, t423⟩, A20, H⟩ := H
  replace H : (some (t422, t423)) = some (r1, r2) := H
  have A2 := Aside0.mk A20
  clear A20
  simp only [Option.some.injEq, Prod.mk.injEq] at H
  obtain ⟨rfl, rfl⟩ := H
  go_enter Try.func23, Try.ntmps23
  go_wp2_with (first | ((with_reducible refine gate_callee (f := 75) rfl ?_); refine goesL_ (some 5) rfl rfl Try.func75 (by kernel_rfl) rfl #[.int .i64 a0] rfl (by (try simp only [List.map_toArray, List.map_cons, List.map_nil]); first | done | rfl | (simp only [List.length_drop, List.length_take]; rfl)) ?_; (with_reducible refine (impl_CountSorted.calls k a0 t422 t423 _ A2.out).mono ?_); rintro e w' ⟨rfl, ⟨nd, rfl⟩⟩; refine ⟨_, rfl, ?_⟩))
  go_ret2
  exact ⟨by first | rfl | (simp; done) | (simp [*]; done), by repeat (first | exact Drawn0.refl _ | apply Drawn0.step)⟩

/-! ### spec_CountHeights: function 24 -/
def spec_CountHeights.l0 : Nat → Int → Int → Int → Option (Int × Bool)
 | 0, _, _, _ => none
 | k + 1, x0, x4, x5 => if x5 < x0 then (if (wrap64 (x5 + 2)) = 0 then (none) else (spec_CountHeights.l0 k x0 (wrap64 (Int.tdiv (wrap64 ((wrap64 (x4 * 2)) * (wrap64 ((wrap64 (2 * x5)) + 1)))) (wrap64 (x5 + 2)))) (wrap64 (x5 + 1)))) else (some (x4, true))
def spec_CountHeights.f (k : Nat) (a0 : Int) : Option (Int × Bool) := (spec_l1In.f a0 0 8).bind fun t424 => (if t424 = true then (spec_CountHeights.l0 k a0 1 0) else (some (0, false)))
theorem spec_CountHeights.mono_l : ∀ k, (∀ y0 y1 y2, LeO (spec_CountHeights.l0 k y0 y1 y2) (spec_CountHeights.l0 (k + 1) y0 y1 y2))
 | 0 => fun _ _ _ r h => by simp [spec_CountHeights.l0] at h
 | k + 1 => by
  have ih0 := spec_CountHeights.mono_l k
  ·intro y0 y1 y2
   unfold spec_CountHeights.l0
   repeat' first
   | (with_reducible exact ih0 _ _ _)
   | (with_reducible exact LeO.refl _)
   | (with_reducible exact LeO.none _)
   | (with_reducible refine LeO.ite ?_ ?_)
   | (with_reducible refine LeO.bind ?_ (fun _ => ?_))
   | exact LeO.none _
   | refine LeO.ite ?_ ?_
   | refine LeO.bind ?_ (fun _ => ?_)
theorem spec_CountHeights.mono : ∀ a0 k, LeO (spec_CountHeights.f k a0) (spec_CountHeights.f (k + 1) a0) := by
 intro a0 k
 have ih0 := spec_CountHeights.mono_l k
 unfold spec_CountHeights.f
 repeat' first
   | (with_reducible exact ih0 _ _ _)
   | (with_reducible exact LeO.refl _)
   | (with_reducible exact LeO.none _)
   | (with_reducible refine LeO.ite ?_ ?_)
   | (with_reducible refine LeO.bind ?_ (fun _ => ?_))
   | exact LeO.none _
   | refine LeO.ite ?_ ?_
   | refine LeO.bind ?_ (fun _ => ?_)
set_option maxHeartbeats 8000000 in
set_option maxRecDepth 100000 in
theorem spec_CountHeights.calls (k : Nat) (a0 : Int) (r1 : Int) (r2 : Bool) (w : World) (h : spec_CountHeights.f k a0 = some (r1, r2)) :
  Calls Try.prog 24 #[.int .i64 a0] w fun e w' => e = .returned (.tuple #[.int .i64 r1, .bool r2]) ∧ Drawn0 w w' := by
 have H : ((spec_l1In.f a0 0 8).bind fun t424 => (if t424 = true then (spec_CountHeights.l0 k a0 1 0) else (some (0, false)))) = some (r1, r2) := h
 clear h
 replace H := Option.bind_eq_some_iff.mp H
 obtain ⟨t424, A20, H⟩ := H
 replace H : (if t424 = true then (spec_CountHeights.l0 k a0 1 0) else (some (0, false))) = some (r1, r2) := H
 have A2 := Aside0.mk A20
 clear A20
 by_cases c3 : t424 = true
 ·subst c3
  have H1 : (spec_CountHeights.l0 k a0 1 0) = some (r1, r2) := by rw [if_pos rfl] at H; exact H
  clear H
  have H := H1
  clear H1
  have H' := Aside0.mk H
  clear H
  go_enter Try.func24, Try.ntmps24
  go_wp2_with (first | ((with_reducible refine gate_callee (f := 68) rfl ?_); refine goesL_ (some 7) rfl rfl Try.func68 (by kernel_rfl) rfl #[.int .i64 a0, .int .i64 0, .int .i64 8] rfl (by (try simp only [List.map_toArray, List.map_cons, List.map_nil]); first | done | rfl | (simp only [List.length_drop, List.length_take]; rfl)) ?_; (with_reducible refine (spec_l1In.calls a0 0 8 true _ A2.out).mono ?_); rintro e w' ⟨rfl, ⟨nd, rfl⟩⟩; refine ⟨_, rfl, ?_⟩))
  go_loopg [4, 5] k (fun kq v4 v5 w' => ∃ (x4_1 : Int) (x5_1 : Int), v4 = .int .i64 x4_1 ∧ v5 = .int .i64 x5_1 ∧ Aside0 (spec_CountHeights.l0 kq a0 x4_1 x5_1 = some (r1, r2)) ∧ Aside0 (kq ≤ k) ∧ Drawn0 w w')
  case atStart => exact ⟨(1), (0), (by first | rfl | (simp; done) | (simp [*]; done)), (by first | rfl | (simp; done) | (simp [*]; done)), H', ⟨Nat.le_refl _⟩, by repeat (first | exact Drawn0.refl _ | apply Drawn0.step)⟩
  case round =>
   clear H'
   try clear c2
   try clear p2
   try clear c3
   obtain ⟨x4_1, x5_1, rfl, rfl, HA, HK1, ⟨m1, rfl⟩⟩ := hrel
   cases gk with
   | zero => exact absurd HA.out (by simp [spec_CountHeights.l0])
   | succ k1 =>
    have H := HA.out
    clear HA
    simp only [spec_CountHeights.l0] at H
    by_cases c4 : x5_1 < a0
    ·rw [if_pos c4] at H
     have c4b0 : decide (x5_1 < a0) = true := decide_eq_true c4
     clear c4
     by_cases c5 : (wrap64 (x5_1 + 2)) = 0
     ·rw [if_pos c5] at H
      exact absurd H (by simp)
     ·rw [if_neg c5] at H
      have c5b0 : ((wrap64 (x5_1 + 2)) == 0) = false := beq_eq_false_iff_ne.mpr c5
      have c5b1 : ((wrap64 (x5_1 + 2)) != 0) = true := bne_iff_ne.mpr c5
      have H' := Aside0.mk H
      clear H
      go_wp2
      go_roundg k1
      case measure => have := HK1.out; omega
      case rel => exact ⟨(wrap64 (Int.tdiv (wrap64 ((wrap64 (x4_1 * 2)) * (wrap64 ((wrap64 (2 * x5_1)) + 1)))) (wrap64 (x5_1 + 2)))), (wrap64 (x5_1 + 1)), (by first | rfl | (simp; done) | (simp [*]; done)), (by first | rfl | (simp; done) | (simp [*]; done)), H', ⟨by have := HK1.out; omega⟩, by repeat (first | exact Drawn0.refl _ | apply Drawn0.step)⟩
    ·rw [if_neg c4] at H
     have c4b0 : decide (x5_1 < a0) = false := decide_eq_false c4
     clear c4
     simp only [Option.some.injEq, Prod.mk.injEq] at H
     obtain ⟨rfl, rfl⟩ := H
     go_wp2
     go_ret2
     exact ⟨by first | rfl | (simp; done) | (simp [*]; done), by repeat (first | exact Drawn0.refl _ | apply Drawn0.step)⟩
 ·replace c3 := Bool.eq_false_iff.mpr c3
  subst c3
  have H1 : (some (0, false)) = some (r1, r2) := by rw [if_neg (show ¬ (false = true) by decide)] at H; exact H
  clear H
  have H := H1
  clear H1
  simp only [Option.some.injEq, Prod.mk.injEq] at H
  obtain ⟨rfl, rfl⟩ := H
  go_enter Try.func24, Try.ntmps24
  go_wp2_with (first | ((with_reducible refine gate_callee (f := 68) rfl ?_); refine goesL_ (some 7) rfl rfl Try.func68 (by kernel_rfl) rfl #[.int .i64 a0, .int .i64 0, .int .i64 8] rfl (by (try simp only [List.map_toArray, List.map_cons, List.map_nil]); first | done | rfl | (simp only [List.length_drop, List.length_take]; rfl)) ?_; (with_reducible refine (spec_l1In.calls a0 0 8 false _ A2.out).mono ?_); rintro e w' ⟨rfl, ⟨nd, rfl⟩⟩; refine ⟨_, rfl, ?_⟩))
  go_ret2
  exact ⟨by first | rfl | (simp; done) | (simp [*]; done), by repeat (first | exact Drawn0.refl _ | apply Drawn0.step)⟩

end Go.Proofs.Ytkbdjbmalpkkfaa.PFnAreaAndPairsAlike
