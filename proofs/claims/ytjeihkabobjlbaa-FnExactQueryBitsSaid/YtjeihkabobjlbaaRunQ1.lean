import Derived.Test.YtjeihkabobjlbaaTbQ
namespace Go.Proofs.Tb
open Go.AI
def ow0 : Owns := fun _ => []
def isT : Option (V × List Blk) → Bool
  | some (.lit (.bool true), []) => true
  | _ => false
theorem isT_eq {r : Option (V × List Blk)} (h : isT r = true) : r = some (.lit (.bool true), []) := by
  unfold isT at h
  split at h
  · rfl
  · cases h
theorem run11 : ∀ g : Fin 13, isT (callN tab ow0 70 3 [.agg [.lit (.int .i64 1), .lit (.int .i64 1), .lit (.int .i64 (g.val : Nat))]] []) = true := by decide +kernel
theorem run12 : ∀ g : Fin 13, isT (callN tab ow0 70 3 [.agg [.lit (.int .i64 1), .lit (.int .i64 2), .lit (.int .i64 (g.val : Nat))]] []) = true := by decide +kernel
theorem run13 : ∀ g : Fin 13, isT (callN tab ow0 70 3 [.agg [.lit (.int .i64 1), .lit (.int .i64 3), .lit (.int .i64 (g.val : Nat))]] []) = true := by decide +kernel
theorem run14 : ∀ g : Fin 13, isT (callN tab ow0 70 3 [.agg [.lit (.int .i64 1), .lit (.int .i64 4), .lit (.int .i64 (g.val : Nat))]] []) = true := by decide +kernel
theorem run15 : ∀ g : Fin 13, isT (callN tab ow0 70 3 [.agg [.lit (.int .i64 1), .lit (.int .i64 5), .lit (.int .i64 (g.val : Nat))]] []) = true := by decide +kernel
theorem run16 : ∀ g : Fin 13, isT (callN tab ow0 70 3 [.agg [.lit (.int .i64 1), .lit (.int .i64 6), .lit (.int .i64 (g.val : Nat))]] []) = true := by decide +kernel
theorem run17 : ∀ g : Fin 13, isT (callN tab ow0 70 3 [.agg [.lit (.int .i64 1), .lit (.int .i64 7), .lit (.int .i64 (g.val : Nat))]] []) = true := by decide +kernel
theorem run18 : ∀ g : Fin 13, isT (callN tab ow0 70 3 [.agg [.lit (.int .i64 1), .lit (.int .i64 8), .lit (.int .i64 (g.val : Nat))]] []) = true := by decide +kernel
end Go.Proofs.Tb
