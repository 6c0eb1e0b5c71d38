import Derived.Test.YtjeihkabobjlbaaRunQ1
namespace Go.Proofs.Tb
open Go.AI
theorem run21 : ∀ g : Fin 13, isT (callN tab ow0 70 3 [.agg [.lit (.int .i64 2), .lit (.int .i64 1), .lit (.int .i64 (g.val : Nat))]] []) = true := by decide +kernel
theorem run22 : ∀ g : Fin 13, isT (callN tab ow0 70 3 [.agg [.lit (.int .i64 2), .lit (.int .i64 2), .lit (.int .i64 (g.val : Nat))]] []) = true := by decide +kernel
theorem run23 : ∀ g : Fin 13, isT (callN tab ow0 70 3 [.agg [.lit (.int .i64 2), .lit (.int .i64 3), .lit (.int .i64 (g.val : Nat))]] []) = true := by decide +kernel
theorem run24 : ∀ g : Fin 13, isT (callN tab ow0 70 3 [.agg [.lit (.int .i64 2), .lit (.int .i64 4), .lit (.int .i64 (g.val : Nat))]] []) = true := by decide +kernel
theorem run25 : ∀ g : Fin 13, isT (callN tab ow0 70 3 [.agg [.lit (.int .i64 2), .lit (.int .i64 5), .lit (.int .i64 (g.val : Nat))]] []) = true := by decide +kernel
theorem run26 : ∀ g : Fin 13, isT (callN tab ow0 70 3 [.agg [.lit (.int .i64 2), .lit (.int .i64 6), .lit (.int .i64 (g.val : Nat))]] []) = true := by decide +kernel
theorem run27 : ∀ g : Fin 13, isT (callN tab ow0 70 3 [.agg [.lit (.int .i64 2), .lit (.int .i64 7), .lit (.int .i64 (g.val : Nat))]] []) = true := by decide +kernel
theorem run28 : ∀ g : Fin 13, isT (callN tab ow0 70 3 [.agg [.lit (.int .i64 2), .lit (.int .i64 8), .lit (.int .i64 (g.val : Nat))]] []) = true := by decide +kernel
end Go.Proofs.Tb
