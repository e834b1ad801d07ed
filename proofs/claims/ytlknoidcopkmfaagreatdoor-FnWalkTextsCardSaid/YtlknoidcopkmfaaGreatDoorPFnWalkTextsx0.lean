-- Written by a program of this session for this claim (its own turn of the print).
import Derived.Test.YtlknoidcopkmfaaGreatDoorProg
import Derived.Below
import Derived.Deep.Draws
import Derived.Deep.AppendLies
import Derived.Maps.AppendAt
import Derived.OwnWalk
import Derived.Laws.BytesArg
import Derived.Laws.MakeOwn
import Derived.Laws.OwnMore
import Derived.Deep.OwnRows
import Derived.Tactics
import Derived.Lib.ConvBytes
import Derived.Laws.Slices
import Derived.WalkKit
import Derived.KernelRfl
import Derived.RowKit3
import Derived.Deep.LoopGhost
import Derived.Deep.QuietTactic
import Derived.BigQuiet
import Derived.WideLaws
import Derived.Deep.DeepCutAuto
import Derived.Deep.CutBlock
import Derived.Deep.RegionHeld3
import Derived.Laws.Rows
import Derived.Lib.AppendStr
import Derived.ArgAppend
import Derived.Laws.IdiomCopy
import Derived.OrdersHeld
import Derived.Laws.BitsLemmas
import Derived.RowKit
import Derived.Shelf.Abstract
import Derived.Lib.SliceRun
import Derived.RangeFuncBox
import Derived.RangeFuncLeaves
import Derived.RangeFuncWrites
import Derived.OwnWalkIn
import Derived.TacticsInMore
import Derived.LoopNIn
import Derived.LoopIn
import Derived.Maps.AppendAt
import Derived.Shelf.Sort.Plain
import Derived.Shelf.Slices.In.SortNone
import Derived.Shelf.Lay
import Derived.Ground.NamesProg
import Derived.Lib.SortBridge
import Derived.Shelf.Bits.Mul64
import Derived.Laws.CopyOwn
import Derived.Deep.RegionLaw
import Derived.RangeFuncNested
import Derived.RangeFuncBound
import Derived.Shelf.Strconv.Itoa3
import Derived.Shelf.Strings.OnBuilder
import Derived.Shelf.Strings.Split
import Derived.Shelf.Strings.Prefix
import Derived.Shelf.Strconv.AtoiAll
import Derived.Lib.AtoiAllCases
import Derived.Lib.SplitLaws
import Derived.Shelf.Strings.Cut
import Derived.Shelf.Slices.CompactI
import Derived.Ground.Names2Prog
import Derived.Test.YtlknoidcopkmfaaGreatDoorVFnWalkTextsWords
import Derived.Test.YtlknoidcopkmfaaGreatDoorVFnWalkTextsLast
import Derived.Test.YtlknoidcopkmfaaGreatDoorVFnWalkTextsTab
import Derived.Test.YtlknoidcopkmfaaGreatDoorVFnWalkTextsFour
import Derived.Test.YtlknoidcopkmfaaGreatDoorVFnWalkTextsQPut
import Derived.Test.YtlknoidcopkmfaaGreatDoorVFnWalkTextsApart
import Derived.Test.YtlknoidcopkmfaaGreatDoorVFnWalkTextsArr
import Derived.Test.YtlknoidcopkmfaaGreatDoorVFnWalkTextsZeros
import Derived.Test.YtlknoidcopkmfaaGreatDoorVFnWalkTextsFoot
import Derived.Test.YtlknoidcopkmfaaGreatDoorVFnWalkTextsKept
import Derived.Test.YtlknoidcopkmfaaGreatDoorVFnWalkTextsShare
import Derived.Test.YtlknoidcopkmfaaGreatDoorVFnWalkTextsN
import Derived.Test.YtlknoidcopkmfaaGreatDoorVFnWalkTextsFootNe
import Derived.Test.YtlknoidcopkmfaaGreatDoorVFnWalkTextsAt
import Derived.Test.YtlknoidcopkmfaaGreatDoorVFnWalkTextsEqStruct
import Derived.Test.YtlknoidcopkmfaaGreatDoorVFnWalkTextsRepsOne
import Derived.Test.YtlknoidcopkmfaaGreatDoorVFnWalkTextsInv
import Derived.Test.YtlknoidcopkmfaaGreatDoorVFnWalkTextsInvWords
import Derived.Test.YtlknoidcopkmfaaGreatDoorVFnWalkTextsGuard
import Derived.Test.YtlknoidcopkmfaaGreatDoorVFnWalkTextsNEv
import Derived.Test.YtlknoidcopkmfaaGreatDoorVFnWalkTextsMore
namespace Go.Proofs.YtlknoidcopkmfaaGreatDoor.PFnWalkTexts
open Go.RowKit Go.Proofs.YtlknoidcopkmfaaGreatDoorW.PrintWords Go.Proofs.YtlknoidcopkmfaaGreatDoorW.PrintLast Go.Proofs.YtlknoidcopkmfaaGreatDoorW.PrintMore
attribute [local go_sem] max2_int min2_int max_two min_two max_three min_three max_four min_four   -- for this text's walks alone
set_option linter.unusedVariables false
set_option linter.unusedSimpArgs false



def errW : Option Int → Value
  | none => .nilIface
  | some c => .iface 0 (.int .i64 c)
theorem errW_none : errW none = .nilIface := rfl
theorem errW_some (c : Int) : errW (some c) = .iface 0 (.int .i64 c) := rfl

theorem info3 : (Tryz.prog.info? 3).map (fun i => (i.zero, i.size, i.bytes)) = some (some (.int .i64 0), 1, 8) := by kernel_rfl
theorem info4 : (Tryz.prog.info? 4).map (fun i => (i.zero, i.size, i.bytes)) = some (some (.bool false), 1, 1) := by kernel_rfl
theorem info5 : (Tryz.prog.info? 5).map (fun i => (i.zero, i.size, i.bytes)) = some (some (.int .u8 0), 1, 1) := by kernel_rfl
theorem info9 : (Tryz.prog.info? 9).map (fun i => (i.zero, i.size, i.bytes)) = some (some (.string ⟨#[]⟩), 1, 16) := by kernel_rfl
-- the values' own types

/-- The world ahead, and what holds behind allocations and draws (told as an instance, so that a term finds it). -/
def Src (W : World) (_ _ : Unit) : Prop := True
def Dst (w W : World) (_ _ : Unit) : Prop := Below w.heap.size w W
theorem beh {w W : World} [t : Trans (Src W) (Src W) (Dst w W)] : Below w.heap.size w W := t.trans (a := ()) (b := ()) (c := ()) trivial trivial
instance (priority := low) beh_refl (w : World) : Trans (Src w) (Src w) (Dst w w) := ⟨fun _ _ => Below.refl _ _⟩
instance beh_drew (w W : World) [h : Trans (Src W) (Src W) (Dst w W)] : Trans (Src W.drew) (Src W.drew) (Dst w W.drew) := ⟨fun _ _ => below_drew (beh (w := w) (W := W))⟩
instance beh_drewN (w W : World) (n : Nat) [h : Trans (Src W) (Src W) (Dst w W)] : Trans (Src (W.drewN n)) (Src (W.drewN n)) (Dst w (W.drewN n)) := ⟨fun _ _ => pw_below_drewN (beh (w := w) (W := W)) n⟩
instance beh_alloc (w W : World) (o : Obj) [h : Trans (Src W) (Src W) (Dst w W)] : Trans (Src (W.alloc o)) (Src (W.alloc o)) (Dst w (W.alloc o)) := ⟨fun _ _ => below_alloc (beh (w := w) (W := W)) o⟩
theorem rbW {α : Type} {d : Kd α} {e : Nat} {w W : World} {base : Nat} {ok : Nat → Prop} {v : Value} {xs : List α} [Trans (Src W) (Src W) (Dst w W)] (h : d.R e w base ok v xs) : d.R e W base ok v xs := Kd.R_below h beh
theorem cbW {α : Type} {d : Kd α} {w W : World} {A : Option Addr} {n : Nat} {xs : List α} [Trans (Src W) (Src W) (Dst w W)] (h : d.C w A n xs) : d.C W A n xs := Kd.C_below h beh
theorem kbW {w W : World} {g : Nat} {o : Obj} [Trans (Src W) (Src W) (Dst w W)] (h : w.heap[g]? = some o) : W.heap[g]? = some o := blk_below h beh
theorem nbW {w0 w W : World} [Trans (Src W) (Src W) (Dst w W)] (h : Below w0.heap.size w0 w) : Below w0.heap.size w0 W := h.trans (beh.mono h.size)

/-- An operation of a region that yields in every world, told by its number and its variable alone. -/
theorem puW {P : Program} {ops : Array Oper} {Q : Exit → Act → World → Prop} {md : Region.Mode} {S : World → Prop} {ds : List Nat} {T : Bool × List (List Nat × List Nat)} {oi : Oper} {v : Value} {fuel : Nat} {l : Array Bool} {a a' : Act} {w : World} (i : Nat) (N : Tmp) (hT : rtab md ops = T)
    (h : wpAnyLast P md ops Q S ds fuel (l.setIfInBounds i true) a' w) (hc : anyT T l.toList (l.setIfInBounds i true).toList i = true := by kernel_rfl) (hi : ops[i]? = some oi := by exact rfl) (hN : oi.dst = some N := by exact rfl) (hQ : ∀ c a w, Q (.panic c) (a.put oi.dst v) w → Q (.panic c) a w := by exact fun _ _ _ h => h) (hg : Region.wanted oi (yielded ops a.tmps) = true := by rfl) (hv : ∀ w, (execOp a.eval oi).run P w = .ok (.value v) w := by intro w'; go_simp; with_reducible rfl)
    (ha : a.put (some N) v = a' := by simp only [Act.put, List.setIfInBounds_toArray, List.set_cons_zero, List.set_cons_succ, i64_w, i32_w]; rfl) : wpAnyLast P md ops Q S ds (fuel + 1) l a w :=
  pure_ (l.setIfInBounds i true) hi hN (any_of hT hc) hQ (Or.inl ⟨hg, hv⟩) ha h
/-- What a variable holds, in plain words. -/
theorem noW {P : Program} {ops : Array Oper} {Q : Exit → Act → World → Prop} {md : Region.Mode} {S : World → Prop} {ds : List Nat} {fuel : Nat} {l : Array Bool} {a a' : Act} {N : Option Tmp} {v : Value} {w : World} (h : wpAnyLast P md ops Q S ds fuel l a' w)
    (ha : a.put N v = a' := by simp only [Act.put, List.setIfInBounds_toArray, List.set_cons_zero, List.set_cons_succ, i64_w, i32_w]; rfl) : wpAnyLast P md ops Q S ds fuel l (a.put N v) w := norm_ ha h
/-- A call in a plain region. -/
theorem gcW {P : Program} {ops : Array Oper} {Q : Exit → Act → World → Prop} {rest : List Oper} {oi : Oper} {a : Act} {w : World} (N : Tmp) {f : FuncId} {fn : Func} {os : Array Operand} {ts : Array TypeId} (hf : P.funcs[f]? = some fn) (args : Array Value) (hop : oi.op = .call { callee := .value (.func f), args := os, argTypes := ts })
    (h : Calls P f args w fun e w' => ∃ v, e = .returned v ∧ wpList P ops Q rest (a.put (some N) v) w') (hd : oi.dst = some N := by exact rfl) (hg : oi.guard = none := by exact rfl) (hname : (fn.name == "runtime.NumGoroutine") = false := by kernel_rfl) (hb : fn.body.isSome = true := by exact rfl)
    (hargs : os.map a.eval = args := by ((try simp only [List.map_toArray, List.map_cons, List.map_nil]); first | done | rfl | (simp only [List.length_drop, List.length_take]; rfl))) : wpList P ops Q (oi :: rest) a w :=
  goesL_ (some N) hd hg hf hname hb args hop hargs h

/-- An operation of a region whose guard is off. -/
theorem ofW {P : Program} {ops : Array Oper} {Q : Exit → Act → World → Prop} {md : Region.Mode} {S : World → Prop} {ds : List Nat} {T : Bool × List (List Nat × List Nat)} {oi : Oper} {fuel : Nat} {l : Array Bool} {a a' : Act} {w : World} (i : Nat) (N : Tmp) (hT : rtab md ops = T)
    (h : wpAnyLast P md ops Q S ds fuel (l.setIfInBounds i true) a' w) (hc : anyT T l.toList (l.setIfInBounds i true).toList i = true := by kernel_rfl) (hi : ops[i]? = some oi := by exact rfl) (hN : oi.dst = some N := by exact rfl) (hQ : ∀ c a w, Q (.panic c) (a.put oi.dst undef) w → Q (.panic c) a w := by exact fun _ _ _ h => h) (hg : Region.wanted oi (yielded ops a.tmps) = false := by rfl)
    (ha : a.put (some N) undef = a' := by simp only [Act.put, List.setIfInBounds_toArray, List.set_cons_zero, List.set_cons_succ, i64_w, i32_w]; rfl) : wpAnyLast P md ops Q S ds (fuel + 1) l a w :=
  pure_ (l.setIfInBounds i true) hi hN (any_of hT hc) hQ (Or.inr ⟨hg, rfl⟩) ha h
/-- An operation of a region that reads what is held. -/
theorem taW {P : Program} {ops : Array Oper} {Q : Exit → Act → World → Prop} {md : Region.Mode} {S : World → Prop} {ds : List Nat} {T : Bool × List (List Nat × List Nat)} {B : List Nat} {oi : Oper} {v : Value} {fuel : Nat} {l : Array Bool} {a a' : Act} {w : World} (i : Nat) (N : Tmp) (hT : rtab md ops = T) (hB : waitsOk T.2 B = true) (hS : S w)
    (hi : ops[i]? = some oi) (hv : ∀ w, S w → (execOp a.eval oi).run P w = .ok (.value v) w) (h : wpAnyLast P md ops Q S ds fuel (l.setIfInBounds i true) a' w) (hc : takeW T B ds l.toList (l.setIfInBounds i true).toList i = true := by kernel_rfl) (hN : oi.dst = some N := by exact rfl) (hQ : ∀ c a w, Q (.panic c) (a.put oi.dst v) w → Q (.panic c) a w := by exact fun _ _ _ h => h) (hg : Region.wanted oi (yielded ops a.tmps) = true := by rfl)
    (ha : a.put (some N) v = a' := by simp only [Act.put, List.setIfInBounds_toArray, List.set_cons_zero, List.set_cons_succ, i64_w, i32_w]; rfl) : wpAnyLast P md ops Q S ds (fuel + 1) l a w :=
  take_ (l.setIfInBounds i true) hi hN (take_ofW hT hB hc) hQ (Or.inl ⟨hg, hv⟩) hS ha h

/-- What is kept, behind allocations and draws. -/
theorem kpW {w0 w W : World} {g : Nat} {row : Option Nat} [Trans (Src W) (Src W) (Dst w W)] (h : KeepBut w0 w g row) : KeepBut w0 W g row := KeepBut.trans h (KeepBut.of_below beh g row) (.inl rfl)

end Go.Proofs.YtlknoidcopkmfaaGreatDoor.PFnWalkTexts
