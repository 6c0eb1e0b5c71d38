import Derived.Test.YtjeihkabobjlbaaRunQ3
set_option linter.unusedVariables false
set_option linter.unusedSimpArgs false
namespace Go.Proofs.Tb
open Go.AI

abbrev I (n : Int) : V := .lit (.int .i64 n)
def inr (n a b : Int) : Bool := decide (a ≤ n) && decide (n ≤ b)

theorem c32 (n a b : Int) : AI.Call tab ow0 32 [.lit (.int .i64 n), .lit (.int .i64 a), .lit (.int .i64 b)] [] = some (.lit (.bool (inr n a b)), []) := by
  rw [Call_eq, tab32]
  simp only [a32, Exec_seq, Exec_region, regionA, stepsA, stepA, St.want, St.get, St.put, St.ev, Opd.ev, opSem, binLit, AI.start, AI.number, aget, trim, Exec_ret, List.map, Option.getD, reduceIte, Nat.reduceEqDiff, St.upd, updL, inr]
  cases hd : decide (a ≤ n) <;> simp [AI.finish, ressOf, resOf, finAs, finA, finC, finBs, oneV, St.get, aget]

theorem c33 (n a b : Int) : AI.Call tab ow0 33 [.lit (.int .i64 n), .lit (.int .i64 a), .lit (.int .i64 b)] [] = some (.lit (.bool (inr n a b)), []) := by
  rw [Call_eq, tab33]
  simp only [a33, Exec_seq, Exec_region, regionA, stepsA, stepA, St.want, St.get, St.put, St.ev, Opd.ev, opSem, binLit, AI.start, AI.number, aget, trim, Exec_ret, List.map, Option.getD, reduceIte, Nat.reduceEqDiff, St.upd, updL, inr]
  cases hd : decide (a ≤ n) <;> simp [AI.finish, ressOf, resOf, finAs, finA, finC, finBs, oneV, St.get, aget]

theorem c11 (r q g : Int) : AI.Call tab ow0 11 [.agg [.lit (.int .i64 r), .lit (.int .i64 q), .lit (.int .i64 g)]] [] = some (.agg [.lit (.int .i64 r), .lit (.int .i64 q), .lit (.int .i64 g)], []) := by
  rw [Call_eq, tab11]
  simp [a11, Exec_seq, Exec_region, regionA, stepsA, stepA, St.want, St.get, St.put, St.ev, Opd.ev, opSem, binLit, AI.start, AI.number, aget, aset, trim, Exec_ret, St.upd, updL, fresh, St.heap, V.cells, V.cell, litCell, rowOf, AI.part,
    AI.finish, ressOf, resOf, finAs, finA, finC, finCs, finBs, oneV]

theorem c28 (r q g : Int) : AI.Call tab ow0 28 [.agg [.lit (.int .i64 r), .lit (.int .i64 q), .lit (.int .i64 g)]] [] = some (.lit (.bool (inr r 1 3 && (inr q 1 8 && inr g 0 12))), []) := by
  rw [Call_eq, tab28]
  cases h1 : inr r 1 3 <;> cases h2 : inr q 1 8 <;> cases h3 : inr g 0 12 <;>
  simp [a28, Exec_seq, Exec_region, regionA, stepsA, stepA, St.want, St.get, St.put, St.ev, Opd.ev, opSem, binLit, AI.start, AI.number, aget, aset, trim, Exec_ret, St.upd, updL, fresh, St.heap, V.cells, V.cell, litCell, rowOf, AI.part,
    AI.finish, ressOf, resOf, finAs, finA, finC, finCs, finBs, oneV, callOp, callPrep, locArgs, locArg, locCell, locBlks, callPost, unRes, unArg, unV, zipUpd, c32, h1, h2, h3]

theorem c30 (r q g : Int) : AI.Call tab ow0 30 [.agg [.lit (.int .i64 r), .lit (.int .i64 q), .lit (.int .i64 g)]] [] = some (.lit (.bool (inr r 1 3 && (inr q 1 8 && inr g 0 12))), []) := by
  rw [Call_eq, tab30]
  cases h1 : inr r 1 3 <;> cases h2 : inr q 1 8 <;> cases h3 : inr g 0 12 <;>
  simp [a30, Exec_seq, Exec_cond, Exec_skip, Exec_region, regionA, stepsA, stepA, St.want, St.get, St.put, St.ev, Opd.ev, opSem, binLit, unLit, AI.start, AI.number, aget, aset, trim, Exec_ret, St.upd, updL, fresh, St.heap, V.cells, V.cell, litCell, rowOf, AI.part, AI.finish, ressOf, resOf, finAs, finA, finC, finCs, finBs, oneV, callOp, callPrep, locArgs, locArg, locCell, locCells, locBlks, callPost, unRes, unArg, unV, zipUpd, c33, h1, h2, h3]

theorem c10f (r q g : Int) (h : (inr r 1 3 && (inr q 1 8 && inr g 0 12)) = false) : AI.Call tab ow0 10 [.agg [.lit (.int .i64 r), .lit (.int .i64 q), .lit (.int .i64 g)]] [] = some (.tup [.lit (.int .i64 0), .lit (.int .i64 1)], []) := by
  rw [Call_eq, tab10]
  simp [a10, Exec_seq, Exec_cond, Exec_skip, Exec_region, regionA, stepsA, stepA, St.want, St.get, St.put, St.ev, Opd.ev, opSem, binLit, unLit, AI.start, AI.number, aget, aset, trim, Exec_ret, St.upd, updL, fresh, St.heap, V.cells, V.cell, litCell, rowOf, AI.part, AI.finish, ressOf, resOf, finAs, finA, finC, finCs, finBs, oneV, callOp, callPrep, locArgs, locArg, locCell, locCells, locBlks, callPost, unRes, unArg, unV, zipUpd, c28, -Bool.and_eq_false_imp, h]

theorem c12f (r q g : Int) (h : (inr r 1 3 && (inr q 1 8 && inr g 0 12)) = false) : AI.Call tab ow0 12 [.agg [.lit (.int .i64 r), .lit (.int .i64 q), .lit (.int .i64 g)]] [] = some (.tup [.lit (.int .i64 0), .lit (.int .i64 1)], []) := by
  rw [Call_eq, tab12]
  simp [a12, Exec_seq, Exec_cond, Exec_skip, Exec_region, regionA, stepsA, stepA, St.want, St.get, St.put, St.ev, Opd.ev, opSem, binLit, unLit, AI.start, AI.number, aget, aset, trim, Exec_ret, St.upd, updL, fresh, St.heap, V.cells, V.cell, litCell, rowOf, AI.part, AI.finish, ressOf, resOf, finAs, finA, finC, finCs, finBs, oneV, callOp, callPrep, locArgs, locArg, locCell, locCells, locBlks, callPost, unRes, unArg, unV, zipUpd, c30, -Bool.and_eq_false_imp, h]

theorem c3f (r q g : Int) (h : (inr r 1 3 && (inr q 1 8 && inr g 0 12)) = false) : AI.Call tab ow0 3 [.agg [.lit (.int .i64 r), .lit (.int .i64 q), .lit (.int .i64 g)]] [] = some (.lit (.bool true), []) := by
  rw [Call_eq, tab3]
  simp [a3, Exec_seq, Exec_cond, Exec_skip, Exec_region, regionA, stepsA, stepA, St.want, St.get, St.put, St.ev, Opd.ev, opSem, binLit, unLit, AI.start, AI.number, aget, aset, trim, Exec_ret, St.upd, updL, fresh, St.heap, V.cells, V.cell, litCell, rowOf, AI.part, AI.finish, ressOf, resOf, finAs, finA, finC, finCs, finBs, oneV, callOp, callPrep, locArgs, locArg, locCell, locCells, locBlks, callPost, unRes, unArg, unV, zipUpd, c11, c10f r q g h, c12f r q g h]
theorem law3 (r q g : Int) : AI.Call tab ow0 3 [.agg [.lit (.int .i64 r), .lit (.int .i64 q), .lit (.int .i64 g)]] [] = some (.lit (.bool true), []) := by
  cases h : (inr r 1 3 && (inr q 1 8 && inr g 0 12)) with
  | false => exact c3f r q g h
  | true =>
    simp only [inr, Bool.and_eq_true, decide_eq_true_eq] at h
    obtain ⟨⟨r1, r2⟩, ⟨q1, q2⟩, g1, g2⟩ := h
    have hg : ∃ gf : Fin 13, g = (gf.val : Nat) := ⟨⟨g.toNat, by omega⟩, by simp; omega⟩
    obtain ⟨gf, rfl⟩ := hg
    have hr : r = 1 ∨ r = 2 ∨ r = 3 := by omega
    have hq : q = 1 ∨ q = 2 ∨ q = 3 ∨ q = 4 ∨ q = 5 ∨ q = 6 ∨ q = 7 ∨ q = 8 := by omega
    rcases hr with rfl | rfl | rfl <;> rcases hq with rfl | rfl | rfl | rfl | rfl | rfl | rfl | rfl
    · exact Call_of (isT_eq (run11 gf))
    · exact Call_of (isT_eq (run12 gf))
    · exact Call_of (isT_eq (run13 gf))
    · exact Call_of (isT_eq (run14 gf))
    · exact Call_of (isT_eq (run15 gf))
    · exact Call_of (isT_eq (run16 gf))
    · exact Call_of (isT_eq (run17 gf))
    · exact Call_of (isT_eq (run18 gf))
    · exact Call_of (isT_eq (run21 gf))
    · exact Call_of (isT_eq (run22 gf))
    · exact Call_of (isT_eq (run23 gf))
    · exact Call_of (isT_eq (run24 gf))
    · exact Call_of (isT_eq (run25 gf))
    · exact Call_of (isT_eq (run26 gf))
    · exact Call_of (isT_eq (run27 gf))
    · exact Call_of (isT_eq (run28 gf))
    · exact Call_of (isT_eq (run31 gf))
    · exact Call_of (isT_eq (run32 gf))
    · exact Call_of (isT_eq (run33 gf))
    · exact Call_of (isT_eq (run34 gf))
    · exact Call_of (isT_eq (run35 gf))
    · exact Call_of (isT_eq (run36 gf))
    · exact Call_of (isT_eq (run37 gf))
    · exact Call_of (isT_eq (run38 gf))
end Go.Proofs.Tb
