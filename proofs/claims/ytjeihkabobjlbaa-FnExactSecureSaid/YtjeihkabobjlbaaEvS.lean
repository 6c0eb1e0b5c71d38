import Derived.Test.YtjeihkabobjlbaaTbS
import Derived.KernelRfl
set_option linter.unusedVariables false
set_option linter.unusedSimpArgs false
namespace Go.Proofs.Tb
open Go.AI
def ow0 : Owns := fun _ => []

abbrev I (n : Int) : V := .lit (.int .i64 n)
def inr (n a b : Int) : Bool := decide (a ≤ n) && decide (n ≤ b)

theorem c32 (n a b : Int) : AI.Call tab ow0 32 [.lit (.int .i64 n), .lit (.int .i64 a), .lit (.int .i64 b)] [] = some (.lit (.bool (inr n a b)), []) := by
  rw [Call_eq, tab32]
  simp only [a32, Exec_seq, Exec_region, regionA, stepsA, stepA, St.want, St.get, St.put, St.ev, Opd.ev, opSem, binLit, AI.start, AI.number, aget, trim, Exec_ret, List.map, Option.getD, reduceIte, Nat.reduceEqDiff, St.upd, updL, inr]
  cases hd : decide (a ≤ n) <;> simp [AI.finish, ressOf, resOf, finAs, finA, finC, finBs, oneV, St.get, aget]

theorem c33 (n a b : Int) : AI.Call tab ow0 33 [.lit (.int .i64 n), .lit (.int .i64 a), .lit (.int .i64 b)] [] = some (.lit (.bool (inr n a b)), []) := by
  rw [Call_eq, tab33]
  simp only [a33, Exec_seq, Exec_region, regionA, stepsA, stepA, St.want, St.get, St.put, St.ev, Opd.ev, opSem, binLit, AI.start, AI.number, aget, trim, Exec_ret, List.map, Option.getD, reduceIte, Nat.reduceEqDiff, St.upd, updL, inr]
  cases hd : decide (a ≤ n) <;> simp [AI.finish, ressOf, resOf, finAs, finA, finC, finBs, oneV, St.get, aget]

theorem c11 (r q g : Int) : AI.Call tab ow0 11 [.agg [.lit (.int .i64 r), .lit (.int .i64 q), .lit (.int .i64 g)]] [] = some (.agg [.lit (.int .i64 r), .lit (.int .i64 q), .lit (.int .i64 g)], []) := by
  rw [Call_eq, tab11]
  simp [a11, Exec_seq, Exec_region, regionA, stepsA, stepA, St.want, St.get, St.put, St.ev, Opd.ev, opSem, binLit, AI.start, AI.number, aget, aset, trim, Exec_ret, St.upd, updL, fresh, St.heap, V.cells, V.cell, litCell, rowOf, AI.part,
    AI.finish, ressOf, resOf, finAs, finA, finC, finCs, finBs, oneV]

theorem c28 (r q g : Int) : AI.Call tab ow0 28 [.agg [.lit (.int .i64 r), .lit (.int .i64 q), .lit (.int .i64 g)]] [] = some (.lit (.bool (inr r 1 3 && (inr q 1 8 && inr g 0 12))), []) := by
  rw [Call_eq, tab28]
  cases h1 : inr r 1 3 <;> cases h2 : inr q 1 8 <;> cases h3 : inr g 0 12 <;>
  simp [a28, Exec_seq, Exec_region, regionA, stepsA, stepA, St.want, St.get, St.put, St.ev, Opd.ev, opSem, binLit, AI.start, AI.number, aget, aset, trim, Exec_ret, St.upd, updL, fresh, St.heap, V.cells, V.cell, litCell, rowOf, AI.part,
    AI.finish, ressOf, resOf, finAs, finA, finC, finCs, finBs, oneV, callOp, callPrep, locArgs, locArg, locCell, locBlks, callPost, unRes, unArg, unV, zipUpd, c32, h1, h2, h3]

theorem c30 (r q g : Int) : AI.Call tab ow0 30 [.agg [.lit (.int .i64 r), .lit (.int .i64 q), .lit (.int .i64 g)]] [] = some (.lit (.bool (inr r 1 3 && (inr q 1 8 && inr g 0 12))), []) := by
  rw [Call_eq, tab30]
  cases h1 : inr r 1 3 <;> cases h2 : inr q 1 8 <;> cases h3 : inr g 0 12 <;>
  simp [a30, Exec_seq, Exec_cond, Exec_skip, Exec_region, regionA, stepsA, stepA, St.want, St.get, St.put, St.ev, Opd.ev, opSem, binLit, unLit, AI.start, AI.number, aget, aset, trim, Exec_ret, St.upd, updL, fresh, St.heap, V.cells, V.cell, litCell, rowOf, AI.part, AI.finish, ressOf, resOf, finAs, finA, finC, finCs, finBs, oneV, callOp, callPrep, locArgs, locArg, locCell, locCells, locBlks, callPost, unRes, unArg, unV, zipUpd, c33, h1, h2, h3]


theorem c13t (r q g b n : Int) (h : (inr r 1 3 && (inr q 1 8 && inr g 0 12)) = true) (hb : inr b 0 16 = true) (h29 : AI.Call tab ow0 29 [.lit (.int .i64 r), .lit (.int .i64 q)] [] = some (.lit (.int .i64 n), [])) :
    AI.Call tab ow0 13 [.agg [.lit (.int .i64 r), .lit (.int .i64 q), .lit (.int .i64 g)], .lit (.int .i64 b)] [] = some (.tup [.lit (.bool (decide (IntKind.i64.wrap (n + g) ≥ b))), .lit (.int .i64 0)], []) := by
  rw [Call_eq, tab13]
  simp [a13, Exec_seq, Exec_cond, Exec_block, Exec_skip, Exec_region, Exec_drawn, drawnA, stepsD, stepD, restrict, fpOf, AOp.opds, refA, refC, okWith, pairsOK, clash, Rec.loud, regionA, stepsA, stepA, St.want, St.get, St.put, St.ev, Opd.ev, opSem, binLit, unLit, AI.start, AI.number, aget, aset, trim, Exec_ret, St.upd, updL, fresh, St.heap, V.cells, V.cell, litCell, rowOf, AI.part, AI.finish, ressOf, resOf, finAs, finA, finC, finCs, finBs, oneV, callOp, callPrep, locArgs, locArg, locCell, locCells, locBlks, callPost, unRes, unArg, unV, zipUpd, fpCall, c28, c32, -Bool.and_eq_true, h, hb, h29]

theorem c14t (r q g b n : Int) (h : (inr r 1 3 && (inr q 1 8 && inr g 0 12)) = true) (hb : inr b 0 16 = true) (h31 : AI.Call tab ow0 31 [.agg [.lit (.int .i64 r), .lit (.int .i64 q), .lit (.int .i64 g)]] [] = some (.lit (.int .i64 (IntKind.i64.wrap (n + g))), [])) :
    AI.Call tab ow0 14 [.agg [.lit (.int .i64 r), .lit (.int .i64 q), .lit (.int .i64 g)], .lit (.int .i64 b)] [] = some (.tup [.lit (.bool (decide (IntKind.i64.wrap (n + g) ≥ b))), .lit (.int .i64 0)], []) := by
  rw [Call_eq, tab14]
  simp [a14, Exec_seq, Exec_cond, Exec_block, Exec_skip, Exec_region, Exec_drawn, drawnA, stepsD, stepD, restrict, fpOf, AOp.opds, refA, refC, okWith, pairsOK, clash, Rec.loud, regionA, stepsA, stepA, St.want, St.get, St.put, St.ev, Opd.ev, opSem, binLit, unLit, AI.start, AI.number, aget, aset, trim, Exec_ret, St.upd, updL, fresh, St.heap, V.cells, V.cell, litCell, rowOf, AI.part, AI.finish, ressOf, resOf, finAs, finA, finC, finCs, finBs, oneV, callOp, callPrep, locArgs, locArg, locCell, locCells, locBlks, callPost, unRes, unArg, unV, zipUpd, fpCall, c30, c33, -Bool.and_eq_true, h, hb, h31]

theorem c13f (r q g b : Int) (h : (inr r 1 3 && (inr q 1 8 && inr g 0 12)) = false) : AI.Call tab ow0 13 [.agg [.lit (.int .i64 r), .lit (.int .i64 q), .lit (.int .i64 g)], .lit (.int .i64 b)] [] = some (.tup [.lit (.bool false), .lit (.int .i64 1)], []) := by
  rw [Call_eq, tab13]
  simp [a13, Exec_seq, Exec_cond, Exec_block, Exec_skip, Exec_region, Exec_drawn, drawnA, stepsD, stepD, restrict, fpOf, AOp.opds, refA, refC, okWith, pairsOK, clash, Rec.loud, regionA, stepsA, stepA, St.want, St.get, St.put, St.ev, Opd.ev, opSem, binLit, unLit, AI.start, AI.number, aget, aset, trim, Exec_ret, St.upd, updL, fresh, St.heap, V.cells, V.cell, litCell, rowOf, AI.part, AI.finish, ressOf, resOf, finAs, finA, finC, finCs, finBs, oneV, callOp, callPrep, locArgs, locArg, locCell, locCells, locBlks, callPost, unRes, unArg, unV, zipUpd, fpCall, c28, c32, -Bool.and_eq_false_imp, h]
theorem c13r (r q g b : Int) (h : (inr r 1 3 && (inr q 1 8 && inr g 0 12)) = true) (hb : inr b 0 16 = false) : AI.Call tab ow0 13 [.agg [.lit (.int .i64 r), .lit (.int .i64 q), .lit (.int .i64 g)], .lit (.int .i64 b)] [] = some (.tup [.lit (.bool false), .lit (.int .i64 4)], []) := by
  rw [Call_eq, tab13]
  simp [a13, Exec_seq, Exec_cond, Exec_block, Exec_skip, Exec_region, Exec_drawn, drawnA, stepsD, stepD, restrict, fpOf, AOp.opds, refA, refC, okWith, pairsOK, clash, Rec.loud, regionA, stepsA, stepA, St.want, St.get, St.put, St.ev, Opd.ev, opSem, binLit, unLit, AI.start, AI.number, aget, aset, trim, Exec_ret, St.upd, updL, fresh, St.heap, V.cells, V.cell, litCell, rowOf, AI.part, AI.finish, ressOf, resOf, finAs, finA, finC, finCs, finBs, oneV, callOp, callPrep, locArgs, locArg, locCell, locCells, locBlks, callPost, unRes, unArg, unV, zipUpd, fpCall, c28, c32, -Bool.and_eq_true, h, hb]

theorem c14f (r q g b : Int) (h : (inr r 1 3 && (inr q 1 8 && inr g 0 12)) = false) : AI.Call tab ow0 14 [.agg [.lit (.int .i64 r), .lit (.int .i64 q), .lit (.int .i64 g)], .lit (.int .i64 b)] [] = some (.tup [.lit (.bool false), .lit (.int .i64 1)], []) := by
  rw [Call_eq, tab14]
  simp [a14, Exec_seq, Exec_cond, Exec_block, Exec_skip, Exec_region, Exec_drawn, drawnA, stepsD, stepD, restrict, fpOf, AOp.opds, refA, refC, okWith, pairsOK, clash, Rec.loud, regionA, stepsA, stepA, St.want, St.get, St.put, St.ev, Opd.ev, opSem, binLit, unLit, AI.start, AI.number, aget, aset, trim, Exec_ret, St.upd, updL, fresh, St.heap, V.cells, V.cell, litCell, rowOf, AI.part, AI.finish, ressOf, resOf, finAs, finA, finC, finCs, finBs, oneV, callOp, callPrep, locArgs, locArg, locCell, locCells, locBlks, callPost, unRes, unArg, unV, zipUpd, fpCall, c30, c33, -Bool.and_eq_false_imp, h]
theorem c14r (r q g b : Int) (h : (inr r 1 3 && (inr q 1 8 && inr g 0 12)) = true) (hb : inr b 0 16 = false) : AI.Call tab ow0 14 [.agg [.lit (.int .i64 r), .lit (.int .i64 q), .lit (.int .i64 g)], .lit (.int .i64 b)] [] = some (.tup [.lit (.bool false), .lit (.int .i64 4)], []) := by
  rw [Call_eq, tab14]
  simp [a14, Exec_seq, Exec_cond, Exec_block, Exec_skip, Exec_region, Exec_drawn, drawnA, stepsD, stepD, restrict, fpOf, AOp.opds, refA, refC, okWith, pairsOK, clash, Rec.loud, regionA, stepsA, stepA, St.want, St.get, St.put, St.ev, Opd.ev, opSem, binLit, unLit, AI.start, AI.number, aget, aset, trim, Exec_ret, St.upd, updL, fresh, St.heap, V.cells, V.cell, litCell, rowOf, AI.part, AI.finish, ressOf, resOf, finAs, finA, finC, finCs, finBs, oneV, callOp, callPrep, locArgs, locArg, locCell, locCells, locBlks, callPost, unRes, unArg, unV, zipUpd, fpCall, c30, c33, -Bool.and_eq_true, h, hb]
theorem b29_11 : callN tab ow0 70 29 [.lit (.int .i64 1), .lit (.int .i64 1)] [] = some (.lit (.int .i64 0), []) := by kernel_rfl
theorem b31_11 (g : Int) : callN tab ow0 70 31 [.agg [.lit (.int .i64 1), .lit (.int .i64 1), .lit (.int .i64 g)]] [] = some (.lit (.int .i64 (IntKind.i64.wrap (0 + g))), []) := by kernel_rfl
theorem b29_12 : callN tab ow0 70 29 [.lit (.int .i64 1), .lit (.int .i64 2)] [] = some (.lit (.int .i64 0), []) := by kernel_rfl
theorem b31_12 (g : Int) : callN tab ow0 70 31 [.agg [.lit (.int .i64 1), .lit (.int .i64 2), .lit (.int .i64 g)]] [] = some (.lit (.int .i64 (IntKind.i64.wrap (0 + g))), []) := by kernel_rfl
theorem b29_13 : callN tab ow0 70 29 [.lit (.int .i64 1), .lit (.int .i64 3)] [] = some (.lit (.int .i64 1), []) := by kernel_rfl
theorem b31_13 (g : Int) : callN tab ow0 70 31 [.agg [.lit (.int .i64 1), .lit (.int .i64 3), .lit (.int .i64 g)]] [] = some (.lit (.int .i64 (IntKind.i64.wrap (1 + g))), []) := by kernel_rfl
theorem b29_14 : callN tab ow0 70 29 [.lit (.int .i64 1), .lit (.int .i64 4)] [] = some (.lit (.int .i64 1), []) := by kernel_rfl
theorem b31_14 (g : Int) : callN tab ow0 70 31 [.agg [.lit (.int .i64 1), .lit (.int .i64 4), .lit (.int .i64 g)]] [] = some (.lit (.int .i64 (IntKind.i64.wrap (1 + g))), []) := by kernel_rfl
theorem b29_15 : callN tab ow0 70 29 [.lit (.int .i64 1), .lit (.int .i64 5)] [] = some (.lit (.int .i64 2), []) := by kernel_rfl
theorem b31_15 (g : Int) : callN tab ow0 70 31 [.agg [.lit (.int .i64 1), .lit (.int .i64 5), .lit (.int .i64 g)]] [] = some (.lit (.int .i64 (IntKind.i64.wrap (2 + g))), []) := by kernel_rfl
theorem b29_16 : callN tab ow0 70 29 [.lit (.int .i64 1), .lit (.int .i64 6)] [] = some (.lit (.int .i64 2), []) := by kernel_rfl
theorem b31_16 (g : Int) : callN tab ow0 70 31 [.agg [.lit (.int .i64 1), .lit (.int .i64 6), .lit (.int .i64 g)]] [] = some (.lit (.int .i64 (IntKind.i64.wrap (2 + g))), []) := by kernel_rfl
theorem b29_17 : callN tab ow0 70 29 [.lit (.int .i64 1), .lit (.int .i64 7)] [] = some (.lit (.int .i64 2), []) := by kernel_rfl
theorem b31_17 (g : Int) : callN tab ow0 70 31 [.agg [.lit (.int .i64 1), .lit (.int .i64 7), .lit (.int .i64 g)]] [] = some (.lit (.int .i64 (IntKind.i64.wrap (2 + g))), []) := by kernel_rfl
theorem b29_18 : callN tab ow0 70 29 [.lit (.int .i64 1), .lit (.int .i64 8)] [] = some (.lit (.int .i64 3), []) := by kernel_rfl
theorem b31_18 (g : Int) : callN tab ow0 70 31 [.agg [.lit (.int .i64 1), .lit (.int .i64 8), .lit (.int .i64 g)]] [] = some (.lit (.int .i64 (IntKind.i64.wrap (3 + g))), []) := by kernel_rfl
theorem b29_21 : callN tab ow0 70 29 [.lit (.int .i64 2), .lit (.int .i64 1)] [] = some (.lit (.int .i64 0), []) := by kernel_rfl
theorem b31_21 (g : Int) : callN tab ow0 70 31 [.agg [.lit (.int .i64 2), .lit (.int .i64 1), .lit (.int .i64 g)]] [] = some (.lit (.int .i64 (IntKind.i64.wrap (0 + g))), []) := by kernel_rfl
theorem b29_22 : callN tab ow0 70 29 [.lit (.int .i64 2), .lit (.int .i64 2)] [] = some (.lit (.int .i64 1), []) := by kernel_rfl
theorem b31_22 (g : Int) : callN tab ow0 70 31 [.agg [.lit (.int .i64 2), .lit (.int .i64 2), .lit (.int .i64 g)]] [] = some (.lit (.int .i64 (IntKind.i64.wrap (1 + g))), []) := by kernel_rfl
theorem b29_23 : callN tab ow0 70 29 [.lit (.int .i64 2), .lit (.int .i64 3)] [] = some (.lit (.int .i64 2), []) := by kernel_rfl
theorem b31_23 (g : Int) : callN tab ow0 70 31 [.agg [.lit (.int .i64 2), .lit (.int .i64 3), .lit (.int .i64 g)]] [] = some (.lit (.int .i64 (IntKind.i64.wrap (2 + g))), []) := by kernel_rfl
theorem b29_24 : callN tab ow0 70 29 [.lit (.int .i64 2), .lit (.int .i64 4)] [] = some (.lit (.int .i64 2), []) := by kernel_rfl
theorem b31_24 (g : Int) : callN tab ow0 70 31 [.agg [.lit (.int .i64 2), .lit (.int .i64 4), .lit (.int .i64 g)]] [] = some (.lit (.int .i64 (IntKind.i64.wrap (2 + g))), []) := by kernel_rfl
theorem b29_25 : callN tab ow0 70 29 [.lit (.int .i64 2), .lit (.int .i64 5)] [] = some (.lit (.int .i64 3), []) := by kernel_rfl
theorem b31_25 (g : Int) : callN tab ow0 70 31 [.agg [.lit (.int .i64 2), .lit (.int .i64 5), .lit (.int .i64 g)]] [] = some (.lit (.int .i64 (IntKind.i64.wrap (3 + g))), []) := by kernel_rfl
theorem b29_26 : callN tab ow0 70 29 [.lit (.int .i64 2), .lit (.int .i64 6)] [] = some (.lit (.int .i64 4), []) := by kernel_rfl
theorem b31_26 (g : Int) : callN tab ow0 70 31 [.agg [.lit (.int .i64 2), .lit (.int .i64 6), .lit (.int .i64 g)]] [] = some (.lit (.int .i64 (IntKind.i64.wrap (4 + g))), []) := by kernel_rfl
theorem b29_27 : callN tab ow0 70 29 [.lit (.int .i64 2), .lit (.int .i64 7)] [] = some (.lit (.int .i64 4), []) := by kernel_rfl
theorem b31_27 (g : Int) : callN tab ow0 70 31 [.agg [.lit (.int .i64 2), .lit (.int .i64 7), .lit (.int .i64 g)]] [] = some (.lit (.int .i64 (IntKind.i64.wrap (4 + g))), []) := by kernel_rfl
theorem b29_28 : callN tab ow0 70 29 [.lit (.int .i64 2), .lit (.int .i64 8)] [] = some (.lit (.int .i64 5), []) := by kernel_rfl
theorem b31_28 (g : Int) : callN tab ow0 70 31 [.agg [.lit (.int .i64 2), .lit (.int .i64 8), .lit (.int .i64 g)]] [] = some (.lit (.int .i64 (IntKind.i64.wrap (5 + g))), []) := by kernel_rfl
theorem b29_31 : callN tab ow0 70 29 [.lit (.int .i64 3), .lit (.int .i64 1)] [] = some (.lit (.int .i64 0), []) := by kernel_rfl
theorem b31_31 (g : Int) : callN tab ow0 70 31 [.agg [.lit (.int .i64 3), .lit (.int .i64 1), .lit (.int .i64 g)]] [] = some (.lit (.int .i64 (IntKind.i64.wrap (0 + g))), []) := by kernel_rfl
theorem b29_32 : callN tab ow0 70 29 [.lit (.int .i64 3), .lit (.int .i64 2)] [] = some (.lit (.int .i64 1), []) := by kernel_rfl
theorem b31_32 (g : Int) : callN tab ow0 70 31 [.agg [.lit (.int .i64 3), .lit (.int .i64 2), .lit (.int .i64 g)]] [] = some (.lit (.int .i64 (IntKind.i64.wrap (1 + g))), []) := by kernel_rfl
theorem b29_33 : callN tab ow0 70 29 [.lit (.int .i64 3), .lit (.int .i64 3)] [] = some (.lit (.int .i64 2), []) := by kernel_rfl
theorem b31_33 (g : Int) : callN tab ow0 70 31 [.agg [.lit (.int .i64 3), .lit (.int .i64 3), .lit (.int .i64 g)]] [] = some (.lit (.int .i64 (IntKind.i64.wrap (2 + g))), []) := by kernel_rfl
theorem b29_34 : callN tab ow0 70 29 [.lit (.int .i64 3), .lit (.int .i64 4)] [] = some (.lit (.int .i64 3), []) := by kernel_rfl
theorem b31_34 (g : Int) : callN tab ow0 70 31 [.agg [.lit (.int .i64 3), .lit (.int .i64 4), .lit (.int .i64 g)]] [] = some (.lit (.int .i64 (IntKind.i64.wrap (3 + g))), []) := by kernel_rfl
theorem b29_35 : callN tab ow0 70 29 [.lit (.int .i64 3), .lit (.int .i64 5)] [] = some (.lit (.int .i64 4), []) := by kernel_rfl
theorem b31_35 (g : Int) : callN tab ow0 70 31 [.agg [.lit (.int .i64 3), .lit (.int .i64 5), .lit (.int .i64 g)]] [] = some (.lit (.int .i64 (IntKind.i64.wrap (4 + g))), []) := by kernel_rfl
theorem b29_36 : callN tab ow0 70 29 [.lit (.int .i64 3), .lit (.int .i64 6)] [] = some (.lit (.int .i64 4), []) := by kernel_rfl
theorem b31_36 (g : Int) : callN tab ow0 70 31 [.agg [.lit (.int .i64 3), .lit (.int .i64 6), .lit (.int .i64 g)]] [] = some (.lit (.int .i64 (IntKind.i64.wrap (4 + g))), []) := by kernel_rfl
theorem b29_37 : callN tab ow0 70 29 [.lit (.int .i64 3), .lit (.int .i64 7)] [] = some (.lit (.int .i64 5), []) := by kernel_rfl
theorem b31_37 (g : Int) : callN tab ow0 70 31 [.agg [.lit (.int .i64 3), .lit (.int .i64 7), .lit (.int .i64 g)]] [] = some (.lit (.int .i64 (IntKind.i64.wrap (5 + g))), []) := by kernel_rfl
theorem b29_38 : callN tab ow0 70 29 [.lit (.int .i64 3), .lit (.int .i64 8)] [] = some (.lit (.int .i64 6), []) := by kernel_rfl
theorem b31_38 (g : Int) : callN tab ow0 70 31 [.agg [.lit (.int .i64 3), .lit (.int .i64 8), .lit (.int .i64 g)]] [] = some (.lit (.int .i64 (IntKind.i64.wrap (6 + g))), []) := by kernel_rfl

theorem law4s (r q g b : Int) (x : V) (h13 : AI.Call tab ow0 13 [.agg [.lit (.int .i64 r), .lit (.int .i64 q), .lit (.int .i64 g)], .lit (.int .i64 b)] [] = some (x, [])) (h14 : AI.Call tab ow0 14 [.agg [.lit (.int .i64 r), .lit (.int .i64 q), .lit (.int .i64 g)], .lit (.int .i64 b)] [] = some (x, [])) (hx : ∃ (t : Bool) (m : Int), x = .tup [.lit (.bool t), .lit (.int .i64 m)]) :
    AI.Call tab ow0 4 [.agg [.lit (.int .i64 r), .lit (.int .i64 q), .lit (.int .i64 g)], .lit (.int .i64 b)] [] = some (.lit (.bool true), []) := by
  obtain ⟨t, m, rfl⟩ := hx
  rw [Call_eq, tab4]
  simp [a4, Exec_seq, Exec_cond, Exec_block, Exec_skip, Exec_region, Exec_drawn, drawnA, stepsD, stepD, restrict, fpOf, AOp.opds, refA, refC, okWith, pairsOK, clash, Rec.loud, regionA, stepsA, stepA, St.want, St.get, St.put, St.ev, Opd.ev, opSem, binLit, unLit, AI.start, AI.number, aget, aset, trim, Exec_ret, St.upd, updL, fresh, St.heap, V.cells, V.cell, litCell, rowOf, AI.part, AI.finish, ressOf, resOf, finAs, finA, finC, finCs, finBs, oneV, callOp, callPrep, locArgs, locArg, locCell, locCells, locBlks, callPost, unRes, unArg, unV, zipUpd, fpCall, c11, h13, h14]

theorem law4 (r q g b : Int) : AI.Call tab ow0 4 [.agg [.lit (.int .i64 r), .lit (.int .i64 q), .lit (.int .i64 g)], .lit (.int .i64 b)] [] = some (.lit (.bool true), []) := by
  cases h : (inr r 1 3 && (inr q 1 8 && inr g 0 12)) with
  | false => exact law4s r q g b _ (c13f r q g b h) (c14f r q g b h) ⟨_, _, rfl⟩
  | true =>
    cases hb : inr b 0 16 with
    | false => exact law4s r q g b _ (c13r r q g b h hb) (c14r r q g b h hb) ⟨_, _, rfl⟩
    | true =>
      have h' := h
      simp only [inr, Bool.and_eq_true, decide_eq_true_eq] at h'
      obtain ⟨⟨r1, r2⟩, ⟨q1, q2⟩, g1, g2⟩ := h'
      have hr : r = 1 ∨ r = 2 ∨ r = 3 := by omega
      have hq : q = 1 ∨ q = 2 ∨ q = 3 ∨ q = 4 ∨ q = 5 ∨ q = 6 ∨ q = 7 ∨ q = 8 := by omega
      rcases hr with rfl | rfl | rfl <;> rcases hq with rfl | rfl | rfl | rfl | rfl | rfl | rfl | rfl
      · exact law4s _ _ g b _ (c13t _ _ g b _ h hb (Call_of b29_11)) (c14t _ _ g b _ h hb (Call_of (b31_11 g))) ⟨_, _, rfl⟩
      · exact law4s _ _ g b _ (c13t _ _ g b _ h hb (Call_of b29_12)) (c14t _ _ g b _ h hb (Call_of (b31_12 g))) ⟨_, _, rfl⟩
      · exact law4s _ _ g b _ (c13t _ _ g b _ h hb (Call_of b29_13)) (c14t _ _ g b _ h hb (Call_of (b31_13 g))) ⟨_, _, rfl⟩
      · exact law4s _ _ g b _ (c13t _ _ g b _ h hb (Call_of b29_14)) (c14t _ _ g b _ h hb (Call_of (b31_14 g))) ⟨_, _, rfl⟩
      · exact law4s _ _ g b _ (c13t _ _ g b _ h hb (Call_of b29_15)) (c14t _ _ g b _ h hb (Call_of (b31_15 g))) ⟨_, _, rfl⟩
      · exact law4s _ _ g b _ (c13t _ _ g b _ h hb (Call_of b29_16)) (c14t _ _ g b _ h hb (Call_of (b31_16 g))) ⟨_, _, rfl⟩
      · exact law4s _ _ g b _ (c13t _ _ g b _ h hb (Call_of b29_17)) (c14t _ _ g b _ h hb (Call_of (b31_17 g))) ⟨_, _, rfl⟩
      · exact law4s _ _ g b _ (c13t _ _ g b _ h hb (Call_of b29_18)) (c14t _ _ g b _ h hb (Call_of (b31_18 g))) ⟨_, _, rfl⟩
      · exact law4s _ _ g b _ (c13t _ _ g b _ h hb (Call_of b29_21)) (c14t _ _ g b _ h hb (Call_of (b31_21 g))) ⟨_, _, rfl⟩
      · exact law4s _ _ g b _ (c13t _ _ g b _ h hb (Call_of b29_22)) (c14t _ _ g b _ h hb (Call_of (b31_22 g))) ⟨_, _, rfl⟩
      · exact law4s _ _ g b _ (c13t _ _ g b _ h hb (Call_of b29_23)) (c14t _ _ g b _ h hb (Call_of (b31_23 g))) ⟨_, _, rfl⟩
      · exact law4s _ _ g b _ (c13t _ _ g b _ h hb (Call_of b29_24)) (c14t _ _ g b _ h hb (Call_of (b31_24 g))) ⟨_, _, rfl⟩
      · exact law4s _ _ g b _ (c13t _ _ g b _ h hb (Call_of b29_25)) (c14t _ _ g b _ h hb (Call_of (b31_25 g))) ⟨_, _, rfl⟩
      · exact law4s _ _ g b _ (c13t _ _ g b _ h hb (Call_of b29_26)) (c14t _ _ g b _ h hb (Call_of (b31_26 g))) ⟨_, _, rfl⟩
      · exact law4s _ _ g b _ (c13t _ _ g b _ h hb (Call_of b29_27)) (c14t _ _ g b _ h hb (Call_of (b31_27 g))) ⟨_, _, rfl⟩
      · exact law4s _ _ g b _ (c13t _ _ g b _ h hb (Call_of b29_28)) (c14t _ _ g b _ h hb (Call_of (b31_28 g))) ⟨_, _, rfl⟩
      · exact law4s _ _ g b _ (c13t _ _ g b _ h hb (Call_of b29_31)) (c14t _ _ g b _ h hb (Call_of (b31_31 g))) ⟨_, _, rfl⟩
      · exact law4s _ _ g b _ (c13t _ _ g b _ h hb (Call_of b29_32)) (c14t _ _ g b _ h hb (Call_of (b31_32 g))) ⟨_, _, rfl⟩
      · exact law4s _ _ g b _ (c13t _ _ g b _ h hb (Call_of b29_33)) (c14t _ _ g b _ h hb (Call_of (b31_33 g))) ⟨_, _, rfl⟩
      · exact law4s _ _ g b _ (c13t _ _ g b _ h hb (Call_of b29_34)) (c14t _ _ g b _ h hb (Call_of (b31_34 g))) ⟨_, _, rfl⟩
      · exact law4s _ _ g b _ (c13t _ _ g b _ h hb (Call_of b29_35)) (c14t _ _ g b _ h hb (Call_of (b31_35 g))) ⟨_, _, rfl⟩
      · exact law4s _ _ g b _ (c13t _ _ g b _ h hb (Call_of b29_36)) (c14t _ _ g b _ h hb (Call_of (b31_36 g))) ⟨_, _, rfl⟩
      · exact law4s _ _ g b _ (c13t _ _ g b _ h hb (Call_of b29_37)) (c14t _ _ g b _ h hb (Call_of (b31_37 g))) ⟨_, _, rfl⟩
      · exact law4s _ _ g b _ (c13t _ _ g b _ h hb (Call_of b29_38)) (c14t _ _ g b _ h hb (Call_of (b31_38 g))) ⟨_, _, rfl⟩
end Go.Proofs.Tb
