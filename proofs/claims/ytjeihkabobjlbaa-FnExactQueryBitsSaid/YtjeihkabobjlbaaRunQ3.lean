import Derived.Test.YtjeihkabobjlbaaRunQ2
namespace Go.Proofs.Tb
open Go.AI
theorem run31 : ∀ g : Fin 13, isT (callN tab ow0 70 3 [.agg [.lit (.int .i64 3), .lit (.int .i64 1), .lit (.int .i64 (g.val : Nat))]] []) = true := by decide +kernel
theorem run32 : ∀ g : Fin 13, isT (callN tab ow0 70 3 [.agg [.lit (.int .i64 3), .lit (.int .i64 2), .lit (.int .i64 (g.val : Nat))]] []) = true := by decide +kernel
theorem run33 : ∀ g : Fin 13, isT (callN tab ow0 70 3 [.agg [.lit (.int .i64 3), .lit (.int .i64 3), .lit (.int .i64 (g.val : Nat))]] []) = true := by decide +kernel
theorem run34 : ∀ g : Fin 13, isT (callN tab ow0 70 3 [.agg [.lit (.int .i64 3), .lit (.int .i64 4), .lit (.int .i64 (g.val : Nat))]] []) = true := by decide +kernel
theorem run35 : ∀ g : Fin 13, isT (callN tab ow0 70 3 [.agg [.lit (.int .i64 3), .lit (.int .i64 5), .lit (.int .i64 (g.val : Nat))]] []) = true := by decide +kernel
theorem run36 : ∀ g : Fin 13, isT (callN tab ow0 70 3 [.agg [.lit (.int .i64 3), .lit (.int .i64 6), .lit (.int .i64 (g.val : Nat))]] []) = true := by decide +kernel
theorem run37 : ∀ g : Fin 13, isT (callN tab ow0 70 3 [.agg [.lit (.int .i64 3), .lit (.int .i64 7), .lit (.int .i64 (g.val : Nat))]] []) = true := by decide +kernel
theorem run38 : ∀ g : Fin 13, isT (callN tab ow0 70 3 [.agg [.lit (.int .i64 3), .lit (.int .i64 8), .lit (.int .i64 (g.val : Nat))]] []) = true := by decide +kernel
end Go.Proofs.Tb
