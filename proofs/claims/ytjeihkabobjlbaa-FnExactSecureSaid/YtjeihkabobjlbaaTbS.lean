/- The functions of the program, as the abstract machine has them: printed by mktab.py. -/
import Derived.Test.YtjeihkabobjlbaaAiTop
import Derived.Test.YtjeihkabobjlbaaProg
import Derived.KernelRfl
set_option linter.unusedVariables false
namespace Go.Proofs.Tb
open Go.AI
def h3 : Hints := ⟨[(0, [1]), (1, [1, 3, 4]), (2, [3, 4, 5, 6]), (3, [26]), (4, [2]), (5, [2])], [], .false⟩
def a3 : AFunc := ⟨27, (.seq (.region 1000 [⟨(.some 1), (.box 3 (.t 0)), .none⟩, ⟨(.some 2), (.mv (.c (.bool .false))), .none⟩] [1]) (.seq (.region 2000 [⟨(.some 8), (.load (.some 3) (.t 1)), .none⟩, ⟨(.some 9), (.call 11 [(.t 8)]), .none⟩, ⟨(.some 10), (.call 10 [(.t 9)]), .none⟩, ⟨(.some 7), (.mv (.t 10)), .none⟩, ⟨(.some 11), (.ext (.t 7) 0), .none⟩, ⟨(.some 12), (.ext (.t 7) 1), .none⟩, ⟨(.some 3), (.mv (.t 11)), .none⟩, ⟨(.some 4), (.mv (.t 12)), .none⟩] [1, 3, 4]) (.seq (.region 3000 [⟨(.some 14), (.load (.some 3) (.t 1)), .none⟩, ⟨(.some 15), (.call 11 [(.t 14)]), .none⟩, ⟨(.some 16), (.call 12 [(.t 15)]), .none⟩, ⟨(.some 13), (.mv (.t 16)), .none⟩, ⟨(.some 17), (.ext (.t 13) 0), .none⟩, ⟨(.some 18), (.ext (.t 13) 1), .none⟩, ⟨(.some 5), (.mv (.t 17)), .none⟩, ⟨(.some 6), (.mv (.t 18)), .none⟩] [3, 4, 5, 6]) (.seq (.seq (.region 4000 [⟨(.some 19), (.mv (.t 5)), .none⟩, ⟨(.some 20), (.mv (.t 3)), .none⟩, ⟨(.some 21), (.bin .neq (.t 19) (.t 20)), .none⟩, ⟨(.some 22), (.mv (.t 21)), .none⟩, ⟨(.some 23), (.mv (.t 6)), (.some (22, .false))⟩, ⟨(.some 24), (.mv (.t 4)), (.some (22, .false))⟩, ⟨(.some 25), (.bin .neq (.t 23) (.t 24)), (.some (22, .false))⟩, ⟨(.some 26), (.pick (.t 22) (.c (.bool .true)) (.t 25)), .none⟩] [26]) (.cond (.t 26) (.seq (.region 5000 [⟨(.some 2), (.mv (.c (.bool .false))), .none⟩] [2]) .ret) .skip)) (.seq (.region 6000 [⟨(.some 2), (.mv (.c (.bool .true))), .none⟩] [2]) .ret))))), [(.tmp 2)], .false⟩
theorem ok3 : ∃ fn hn, Try.prog.funcs[3]? = some fn ∧ (fn.name == "runtime.NumGoroutine") = false ∧ compFunc Try.prog fn hn = some a3 := ⟨Try.f3, h3, Try.func3, by kernel_rfl, by kernel_rfl⟩
def h4 : Hints := ⟨[(0, [1, 2]), (1, [1, 2, 5, 6]), (2, [5, 6, 7, 8]), (3, [30]), (4, [4]), (5, [4])], [], .false⟩
def a4 : AFunc := ⟨31, (.seq (.region 1000 [⟨(.some 2), (.box 3 (.t 0)), .none⟩, ⟨(.some 4), (.mv (.c (.bool .false))), .none⟩] [1, 2]) (.seq (.region 2000 [⟨(.some 10), (.load (.some 3) (.t 2)), .none⟩, ⟨(.some 11), (.call 11 [(.t 10)]), .none⟩, ⟨(.some 12), (.mv (.t 1)), .none⟩, ⟨(.some 13), (.call 13 [(.t 11), (.t 12)]), .none⟩, ⟨(.some 9), (.mv (.t 13)), .none⟩, ⟨(.some 14), (.ext (.t 9) 0), .none⟩, ⟨(.some 15), (.ext (.t 9) 1), .none⟩, ⟨(.some 5), (.mv (.t 14)), .none⟩, ⟨(.some 6), (.mv (.t 15)), .none⟩] [1, 2, 5, 6]) (.seq (.region 3000 [⟨(.some 17), (.load (.some 3) (.t 2)), .none⟩, ⟨(.some 18), (.call 11 [(.t 17)]), .none⟩, ⟨(.some 19), (.mv (.t 1)), .none⟩, ⟨(.some 20), (.call 14 [(.t 18), (.t 19)]), .none⟩, ⟨(.some 16), (.mv (.t 20)), .none⟩, ⟨(.some 21), (.ext (.t 16) 0), .none⟩, ⟨(.some 22), (.ext (.t 16) 1), .none⟩, ⟨(.some 7), (.mv (.t 21)), .none⟩, ⟨(.some 8), (.mv (.t 22)), .none⟩] [5, 6, 7, 8]) (.seq (.seq (.region 4000 [⟨(.some 23), (.mv (.t 7)), .none⟩, ⟨(.some 24), (.mv (.t 5)), .none⟩, ⟨(.some 25), (.beq .true (.t 23) (.t 24)), .none⟩, ⟨(.some 26), (.mv (.t 25)), .none⟩, ⟨(.some 27), (.mv (.t 8)), (.some (26, .false))⟩, ⟨(.some 28), (.mv (.t 6)), (.some (26, .false))⟩, ⟨(.some 29), (.bin .neq (.t 27) (.t 28)), (.some (26, .false))⟩, ⟨(.some 30), (.pick (.t 26) (.c (.bool .true)) (.t 29)), .none⟩] [30]) (.cond (.t 30) (.seq (.region 5000 [⟨(.some 4), (.mv (.c (.bool .false))), .none⟩] [4]) .ret) .skip)) (.seq (.region 6000 [⟨(.some 4), (.mv (.c (.bool .true))), .none⟩] [4]) .ret))))), [(.tmp 4)], .false⟩
theorem ok4 : ∃ fn hn, Try.prog.funcs[4]? = some fn ∧ (fn.name == "runtime.NumGoroutine") = false ∧ compFunc Try.prog fn hn = some a4 := ⟨Try.f4, h4, Try.func4, by kernel_rfl, by kernel_rfl⟩
def h10 : Hints := ⟨[(0, [1]), (1, [1, 6]), (2, [2, 3]), (3, [2, 3])], [], .false⟩
def a10 : AFunc := ⟨15, (.seq (.region 1000 [⟨(.some 1), (.box 3 (.t 0)), .none⟩, ⟨(.some 2), (.mv (.c (.int .i64 0))), .none⟩, ⟨(.some 3), (.mv (.c (.int .i64 0))), .none⟩] [1]) (.seq (.seq (.region 2000 [⟨(.some 4), (.load (.some 3) (.t 1)), .none⟩, ⟨(.some 5), (.call 28 [(.t 4)]), .none⟩, ⟨(.some 6), (.un .not (.t 5)), .none⟩] [1, 6]) (.cond (.t 6) (.seq (.region 3000 [⟨(.some 2), (.mv (.c (.int .i64 0))), .none⟩, ⟨(.some 3), (.mv (.c (.int .i64 1))), .none⟩] [2, 3]) .ret) .skip)) (.seq (.drawn 4000 [⟨(.some 7), (.off 0 (.t 1)), .none⟩, ⟨(.some 8), (.load .none (.t 7)), .none⟩, ⟨(.some 9), (.off 1 (.t 1)), .none⟩, ⟨(.some 10), (.load .none (.t 9)), .none⟩, ⟨(.some 11), (.call 29 [(.t 8), (.t 10)]), .none⟩, ⟨(.some 12), (.off 2 (.t 1)), .none⟩, ⟨(.some 13), (.load .none (.t 12)), .none⟩, ⟨(.some 14), (.bin .add (.t 11) (.t 13)), .none⟩, ⟨(.some 2), (.mv (.t 14)), .none⟩, ⟨(.some 3), (.mv (.c (.int .i64 0))), .none⟩] [[], [0], [], [2], [1, 0, 3, 2], [], [5], [4, 1, 0, 3, 2, 6, 5], [7, 4, 1, 0, 3, 2, 6, 5], [8, 7, 4, 1, 0, 3, 2, 6, 5]] [2, 3]) .ret))), [(.tmp 2), (.tmp 3)], .false⟩
theorem ok10 : ∃ fn hn, Try.prog.funcs[10]? = some fn ∧ (fn.name == "runtime.NumGoroutine") = false ∧ compFunc Try.prog fn hn = some a10 := ⟨Try.f10, h10, Try.func10, by kernel_rfl, by kernel_rfl⟩
def h11 : Hints := ⟨[(0, [1, 2]), (1, [1, 2, 3]), (2, [1, 2, 3]), (3, [1, 2, 3]), (4, [2, 3]), (5, [2])], [], .false⟩
def a11 : AFunc := ⟨14, (.seq (.region 1000 [⟨(.some 1), (.box 3 (.t 0)), .none⟩, ⟨(.some 2), (.alloc [(.int .i64 0), (.int .i64 0), (.int .i64 0)]), .none⟩] [1, 2]) (.seq (.region 2000 [⟨(.some 3), (.alloc [(.int .i64 0), (.int .i64 0), (.int .i64 0)]), .none⟩] [1, 2, 3]) (.seq (.region 3000 [⟨(.some 4), (.off 0 (.t 1)), .none⟩, ⟨(.some 5), (.load .none (.t 4)), .none⟩, ⟨(.some 6), (.off 0 (.t 3)), .none⟩, ⟨.none, (.store 1 (.t 6) (.t 5)), .none⟩] [1, 2, 3]) (.seq (.region 4000 [⟨(.some 7), (.off 1 (.t 1)), .none⟩, ⟨(.some 8), (.load .none (.t 7)), .none⟩, ⟨(.some 9), (.off 1 (.t 3)), .none⟩, ⟨.none, (.store 1 (.t 9) (.t 8)), .none⟩] [1, 2, 3]) (.seq (.region 5000 [⟨(.some 10), (.off 2 (.t 1)), .none⟩, ⟨(.some 11), (.load .none (.t 10)), .none⟩, ⟨(.some 12), (.off 2 (.t 3)), .none⟩, ⟨.none, (.store 1 (.t 12) (.t 11)), .none⟩] [2, 3]) (.seq (.region 6000 [⟨(.some 13), (.load (.some 3) (.t 3)), .none⟩, ⟨.none, (.store 3 (.t 2) (.t 13)), .none⟩] [2]) .ret)))))), [(.cell 2 (.some 3))], .false⟩
theorem ok11 : ∃ fn hn, Try.prog.funcs[11]? = some fn ∧ (fn.name == "runtime.NumGoroutine") = false ∧ compFunc Try.prog fn hn = some a11 := ⟨Try.f11, h11, Try.func11, by kernel_rfl, by kernel_rfl⟩
def h12 : Hints := ⟨[(0, [1]), (1, [1, 6]), (2, [2, 3]), (3, [2, 3])], [], .false⟩
def a12 : AFunc := ⟨9, (.seq (.region 1000 [⟨(.some 1), (.box 3 (.t 0)), .none⟩, ⟨(.some 2), (.mv (.c (.int .i64 0))), .none⟩, ⟨(.some 3), (.mv (.c (.int .i64 0))), .none⟩] [1]) (.seq (.seq (.region 2000 [⟨(.some 4), (.load (.some 3) (.t 1)), .none⟩, ⟨(.some 5), (.call 30 [(.t 4)]), .none⟩, ⟨(.some 6), (.un .not (.t 5)), .none⟩] [1, 6]) (.cond (.t 6) (.seq (.region 3000 [⟨(.some 2), (.mv (.c (.int .i64 0))), .none⟩, ⟨(.some 3), (.mv (.c (.int .i64 1))), .none⟩] [2, 3]) .ret) .skip)) (.seq (.region 4000 [⟨(.some 7), (.load (.some 3) (.t 1)), .none⟩, ⟨(.some 8), (.call 31 [(.t 7)]), .none⟩, ⟨(.some 2), (.mv (.t 8)), .none⟩, ⟨(.some 3), (.mv (.c (.int .i64 0))), .none⟩] [2, 3]) .ret))), [(.tmp 2), (.tmp 3)], .false⟩
theorem ok12 : ∃ fn hn, Try.prog.funcs[12]? = some fn ∧ (fn.name == "runtime.NumGoroutine") = false ∧ compFunc Try.prog fn hn = some a12 := ⟨Try.f12, h12, Try.func12, by kernel_rfl, by kernel_rfl⟩
def h13 : Hints := ⟨[(0, [1, 2]), (1, [1, 2, 8]), (2, [4, 5]), (3, [1, 2, 11]), (4, [4, 5]), (5, [4, 5])], [], .false⟩
def a13 : AFunc := ⟨22, (.seq (.region 1000 [⟨(.some 2), (.box 3 (.t 0)), .none⟩, ⟨(.some 4), (.mv (.c (.bool .false))), .none⟩, ⟨(.some 5), (.mv (.c (.int .i64 0))), .none⟩] [1, 2]) (.seq (.seq (.region 2000 [⟨(.some 6), (.load (.some 3) (.t 2)), .none⟩, ⟨(.some 7), (.call 28 [(.t 6)]), .none⟩, ⟨(.some 8), (.un .not (.t 7)), .none⟩] [1, 2, 8]) (.cond (.t 8) (.seq (.region 3000 [⟨(.some 4), (.mv (.c (.bool .false))), .none⟩, ⟨(.some 5), (.mv (.c (.int .i64 1))), .none⟩] [4, 5]) .ret) .skip)) (.seq (.seq (.region 4000 [⟨(.some 9), (.mv (.t 1)), .none⟩, ⟨(.some 10), (.call 32 [(.t 9), (.c (.int .i64 0)), (.c (.int .i64 16))]), .none⟩, ⟨(.some 11), (.un .not (.t 10)), .none⟩] [1, 2, 11]) (.cond (.t 11) (.seq (.region 5000 [⟨(.some 4), (.mv (.c (.bool .false))), .none⟩, ⟨(.some 5), (.mv (.c (.int .i64 4))), .none⟩] [4, 5]) .ret) .skip)) (.seq (.drawn 6000 [⟨(.some 12), (.off 0 (.t 2)), .none⟩, ⟨(.some 13), (.load .none (.t 12)), .none⟩, ⟨(.some 14), (.off 1 (.t 2)), .none⟩, ⟨(.some 15), (.load .none (.t 14)), .none⟩, ⟨(.some 16), (.call 29 [(.t 13), (.t 15)]), .none⟩, ⟨(.some 17), (.off 2 (.t 2)), .none⟩, ⟨(.some 18), (.load .none (.t 17)), .none⟩, ⟨(.some 19), (.bin .add (.t 16) (.t 18)), .none⟩, ⟨(.some 20), (.mv (.t 1)), .none⟩, ⟨(.some 21), (.bin .geq (.t 19) (.t 20)), .none⟩, ⟨(.some 4), (.mv (.t 21)), .none⟩, ⟨(.some 5), (.mv (.c (.int .i64 0))), .none⟩] [[], [0], [], [2], [1, 0, 3, 2], [], [5], [4, 1, 0, 3, 2, 6, 5], [], [7, 4, 1, 0, 3, 2, 6, 5, 8], [9, 7, 4, 1, 0, 3, 2, 6, 5, 8], [10, 9, 7, 4, 1, 0, 3, 2, 6, 5, 8]] [4, 5]) .ret)))), [(.tmp 4), (.tmp 5)], .false⟩
theorem ok13 : ∃ fn hn, Try.prog.funcs[13]? = some fn ∧ (fn.name == "runtime.NumGoroutine") = false ∧ compFunc Try.prog fn hn = some a13 := ⟨Try.f13, h13, Try.func13, by kernel_rfl, by kernel_rfl⟩
def h14 : Hints := ⟨[(0, [1, 2]), (1, [1, 2, 6]), (2, [4, 5]), (3, [1, 2, 10]), (4, [4, 5]), (5, [4, 5])], [], .false⟩
def a14 : AFunc := ⟨18, (.seq (.region 1000 [⟨(.some 2), (.box 3 (.t 0)), .none⟩, ⟨(.some 4), (.mv (.c (.bool .false))), .none⟩, ⟨(.some 5), (.mv (.c (.int .i64 0))), .none⟩] [1, 2]) (.seq (.block 0 (.seq (.region 2000 [⟨(.some 7), (.load (.some 3) (.t 2)), .none⟩, ⟨(.some 8), (.call 30 [(.t 7)]), .none⟩, ⟨(.some 9), (.un .not (.t 8)), .none⟩, ⟨(.some 6), (.mv (.t 9)), .none⟩] [1, 2, 6]) (.cond (.t 6) (.seq (.region 3000 [⟨(.some 4), (.mv (.c (.bool .false))), .none⟩, ⟨(.some 5), (.mv (.c (.int .i64 1))), .none⟩] [4, 5]) .ret) (.seq (.region 4000 [⟨(.some 11), (.mv (.t 1)), .none⟩, ⟨(.some 12), (.call 33 [(.t 11), (.c (.int .i64 0)), (.c (.int .i64 16))]), .none⟩, ⟨(.some 13), (.un .not (.t 12)), .none⟩, ⟨(.some 10), (.mv (.t 13)), .none⟩] [1, 2, 10]) (.cond (.t 10) (.seq (.region 5000 [⟨(.some 4), (.mv (.c (.bool .false))), .none⟩, ⟨(.some 5), (.mv (.c (.int .i64 4))), .none⟩] [4, 5]) .ret) .skip))))) (.seq (.region 6000 [⟨(.some 14), (.load (.some 3) (.t 2)), .none⟩, ⟨(.some 15), (.call 31 [(.t 14)]), .none⟩, ⟨(.some 16), (.mv (.t 1)), .none⟩, ⟨(.some 17), (.bin .geq (.t 15) (.t 16)), .none⟩, ⟨(.some 4), (.mv (.t 17)), .none⟩, ⟨(.some 5), (.mv (.c (.int .i64 0))), .none⟩] [4, 5]) .ret))), [(.tmp 4), (.tmp 5)], .false⟩
theorem ok14 : ∃ fn hn, Try.prog.funcs[14]? = some fn ∧ (fn.name == "runtime.NumGoroutine") = false ∧ compFunc Try.prog fn hn = some a14 := ⟨Try.f14, h14, Try.func14, by kernel_rfl, by kernel_rfl⟩
def h28 : Hints := ⟨[(0, [1]), (1, [2])], [], .false⟩
def a28 : AFunc := ⟨16, (.seq (.region 1000 [⟨(.some 1), (.box 3 (.t 0)), .none⟩, ⟨(.some 2), (.mv (.c (.bool .false))), .none⟩] [1]) (.seq (.region 2000 [⟨(.some 3), (.off 0 (.t 1)), .none⟩, ⟨(.some 4), (.load .none (.t 3)), .none⟩, ⟨(.some 5), (.call 32 [(.t 4), (.c (.int .i64 1)), (.c (.int .i64 3))]), .none⟩, ⟨(.some 6), (.mv (.t 5)), .none⟩, ⟨(.some 7), (.off 1 (.t 1)), (.some (6, .true))⟩, ⟨(.some 8), (.load .none (.t 7)), (.some (6, .true))⟩, ⟨(.some 9), (.call 32 [(.t 8), (.c (.int .i64 1)), (.c (.int .i64 8))]), (.some (6, .true))⟩, ⟨(.some 10), (.pick (.t 6) (.t 9) (.c (.bool .false))), .none⟩, ⟨(.some 11), (.mv (.t 10)), .none⟩, ⟨(.some 12), (.off 2 (.t 1)), (.some (11, .true))⟩, ⟨(.some 13), (.load .none (.t 12)), (.some (11, .true))⟩, ⟨(.some 14), (.call 32 [(.t 13), (.c (.int .i64 0)), (.c (.int .i64 12))]), (.some (11, .true))⟩, ⟨(.some 15), (.pick (.t 11) (.t 14) (.c (.bool .false))), .none⟩, ⟨(.some 2), (.mv (.t 15)), .none⟩] [2]) .ret)), [(.tmp 2)], .false⟩
theorem ok28 : ∃ fn hn, Try.prog.funcs[28]? = some fn ∧ (fn.name == "runtime.NumGoroutine") = false ∧ compFunc Try.prog fn hn = some a28 := ⟨Try.f28, h28, Try.func28, by kernel_rfl, by kernel_rfl⟩
def h29 : Hints := ⟨[(0, [0, 1]), (1, [0, 1, 5]), (2, [0, 1, 5, 10]), (3, [0, 1, 5]), (4, [4])], [(2, (.close [3004]))], .false⟩
def a29 : AFunc := ⟨14, (.seq (.region 1000 [⟨(.some 4), (.mv (.c (.int .i64 0))), .none⟩] [0, 1]) (.seq (.region 2000 [⟨(.some 5), (.mv (.c (.int .i64 0))), .none⟩] [0, 1, 5]) (.seq (.block 0 (.loop (.seq (.seq (.ghost (.close [3004]) (.region 3000 [⟨(.some 6), (.mv (.t 0)), .none⟩, ⟨(.some 7), (.mv (.t 1)), .none⟩, ⟨(.some 8), (.mv (.t 5)), .none⟩, ⟨(.some 9), (.bin .add (.t 8) (.c (.int .i64 1))), .none⟩, ⟨(.some 10), (.call 46 [(.t 6), (.t 7), (.t 9)]), .none⟩] [0, 1, 5, 10])) (.cond (.t 10) .skip (.exit 0))) (.block 1 (.region 4000 [⟨(.some 11), (.mv (.t 5)), .none⟩, ⟨(.some 12), (.bin .add (.t 11) (.c (.int .i64 1))), .none⟩, ⟨(.some 5), (.mv (.t 12)), .none⟩] [0, 1, 5]))))) (.seq (.region 5000 [⟨(.some 13), (.mv (.t 5)), .none⟩, ⟨(.some 4), (.mv (.t 13)), .none⟩] [4]) .ret)))), [(.tmp 4)], .false⟩
theorem ok29 : ∃ fn hn, Try.prog.funcs[29]? = some fn ∧ (fn.name == "runtime.NumGoroutine") = false ∧ compFunc Try.prog fn hn = some a29 := ⟨Try.f29, h29, Try.func29, by kernel_rfl, by kernel_rfl⟩
def h30 : Hints := ⟨[(0, [1]), (1, [2])], [], .false⟩
def a30 : AFunc := ⟨16, (.seq (.region 1000 [⟨(.some 1), (.box 3 (.t 0)), .none⟩, ⟨(.some 2), (.mv (.c (.bool .false))), .none⟩] [1]) (.seq (.region 2000 [⟨(.some 3), (.off 0 (.t 1)), .none⟩, ⟨(.some 4), (.load .none (.t 3)), .none⟩, ⟨(.some 5), (.call 33 [(.t 4), (.c (.int .i64 1)), (.c (.int .i64 3))]), .none⟩, ⟨(.some 6), (.mv (.t 5)), .none⟩, ⟨(.some 7), (.off 1 (.t 1)), (.some (6, .true))⟩, ⟨(.some 8), (.load .none (.t 7)), (.some (6, .true))⟩, ⟨(.some 9), (.call 33 [(.t 8), (.c (.int .i64 1)), (.c (.int .i64 8))]), (.some (6, .true))⟩, ⟨(.some 10), (.pick (.t 6) (.t 9) (.c (.bool .false))), .none⟩, ⟨(.some 11), (.mv (.t 10)), .none⟩, ⟨(.some 12), (.off 2 (.t 1)), (.some (11, .true))⟩, ⟨(.some 13), (.load .none (.t 12)), (.some (11, .true))⟩, ⟨(.some 14), (.call 33 [(.t 13), (.c (.int .i64 0)), (.c (.int .i64 12))]), (.some (11, .true))⟩, ⟨(.some 15), (.pick (.t 11) (.t 14) (.c (.bool .false))), .none⟩, ⟨(.some 2), (.mv (.t 15)), .none⟩] [2]) .ret)), [(.tmp 2)], .false⟩
theorem ok30 : ∃ fn hn, Try.prog.funcs[30]? = some fn ∧ (fn.name == "runtime.NumGoroutine") = false ∧ compFunc Try.prog fn hn = some a30 := ⟨Try.f30, h30, Try.func30, by kernel_rfl, by kernel_rfl⟩
def h31 : Hints := ⟨[(0, [1]), (1, [1, 3, 4, 5]), (2, [1, 3, 4, 5, 7, 8]), (3, [1, 3, 4, 5, 7, 8, 9]), (4, [1, 3, 4, 5, 7, 8]), (5, [1, 3, 4, 5, 7, 8]), (6, [1, 3, 4, 5, 27]), (7, [1, 3, 4, 5]), (8, [2])], [], .false⟩
def a31 : AFunc := ⟨34, (.seq (.region 1000 [⟨(.some 1), (.box 3 (.t 0)), .none⟩, ⟨(.some 2), (.mv (.c (.int .i64 0))), .none⟩] [1]) (.seq (.region 2000 [⟨(.some 3), (.mv (.c (.int .i64 1))), .none⟩, ⟨(.some 4), (.mv (.c (.int .i64 1))), .none⟩, ⟨(.some 5), (.mv (.c (.int .i64 0))), .none⟩] [1, 3, 4, 5]) (.seq (.seq (.region 3000 [⟨(.some 6), (.off 1 (.t 1)), .none⟩, ⟨(.some 7), (.load .none (.t 6)), .none⟩, ⟨(.some 8), (.mv (.c (.int .i64 0))), .none⟩] [1, 3, 4, 5, 7, 8]) (.block 0 (.loop (.seq (.region 4000 [⟨(.some 9), (.bin .lss (.t 8) (.t 7)), .none⟩] [1, 3, 4, 5, 7, 8, 9]) (.seq (.cond (.t 9) .skip (.exit 0)) (.seq (.block 1 (.drawn 5000 [⟨(.some 10), (.mv (.t 3)), .none⟩, ⟨(.some 11), (.off 0 (.t 1)), .none⟩, ⟨(.some 12), (.load .none (.t 11)), .none⟩, ⟨(.some 13), (.bin .shl (.c (.int .i64 1)) (.t 12)), .none⟩, ⟨(.some 14), (.bin .add (.t 13) (.c (.int .i64 1))), .none⟩, ⟨(.some 15), (.bin .mul (.t 10) (.t 14)), .none⟩, ⟨(.some 16), (.mv (.t 4)), .none⟩, ⟨(.some 17), (.off 0 (.t 1)), .none⟩, ⟨(.some 18), (.load .none (.t 17)), .none⟩, ⟨(.some 19), (.bin .add (.t 18) (.c (.int .i64 1))), .none⟩, ⟨(.some 20), (.bin .shl (.t 16) (.t 19)), .none⟩, ⟨(.some 3), (.mv (.t 15)), .none⟩, ⟨(.some 4), (.mv (.t 20)), .none⟩] [[], [], [1], [2, 1], [3, 2, 1], [0, 4, 3, 2, 1], [], [], [7], [8, 7], [6, 9, 8, 7], [5, 0, 4, 3, 2, 1], [10, 6, 9, 8, 7, 11, 5, 0, 4, 3, 2, 1]] [1, 3, 4, 5, 7, 8])) (.region 6000 [⟨(.some 21), (.bin .add (.t 8) (.c (.int .i64 1))), .none⟩, ⟨(.some 8), (.mv (.t 21)), .none⟩] [1, 3, 4, 5, 7, 8]))))))) (.seq (.block 2 (.loop (.seq (.seq (.region 7000 [⟨(.some 22), (.mv (.t 3)), .none⟩, ⟨(.some 23), (.mv (.t 5)), .none⟩, ⟨(.some 24), (.bin .add (.t 23) (.c (.int .i64 1))), .none⟩, ⟨(.some 25), (.bin .shl (.t 22) (.t 24)), .none⟩, ⟨(.some 26), (.mv (.t 4)), .none⟩, ⟨(.some 27), (.bin .leq (.t 25) (.t 26)), .none⟩] [1, 3, 4, 5, 27]) (.cond (.t 27) .skip (.exit 2))) (.block 3 (.region 8000 [⟨(.some 28), (.mv (.t 5)), .none⟩, ⟨(.some 29), (.bin .add (.t 28) (.c (.int .i64 1))), .none⟩, ⟨(.some 5), (.mv (.t 29)), .none⟩] [1, 3, 4, 5]))))) (.seq (.region 9000 [⟨(.some 30), (.mv (.t 5)), .none⟩, ⟨(.some 31), (.off 2 (.t 1)), .none⟩, ⟨(.some 32), (.load .none (.t 31)), .none⟩, ⟨(.some 33), (.bin .add (.t 30) (.t 32)), .none⟩, ⟨(.some 2), (.mv (.t 33)), .none⟩] [2]) .ret))))), [(.tmp 2)], .false⟩
theorem ok31 : ∃ fn hn, Try.prog.funcs[31]? = some fn ∧ (fn.name == "runtime.NumGoroutine") = false ∧ compFunc Try.prog fn hn = some a31 := ⟨Try.f31, h31, Try.func31, by kernel_rfl, by kernel_rfl⟩
def h32 : Hints := ⟨[(0, [0, 1, 2]), (1, [6])], [], .false⟩
def a32 : AFunc := ⟨15, (.seq (.region 1000 [⟨(.some 6), (.mv (.c (.bool .false))), .none⟩] [0, 1, 2]) (.seq (.region 2000 [⟨(.some 7), (.mv (.t 1)), .none⟩, ⟨(.some 8), (.mv (.t 0)), .none⟩, ⟨(.some 9), (.bin .leq (.t 7) (.t 8)), .none⟩, ⟨(.some 10), (.mv (.t 9)), .none⟩, ⟨(.some 11), (.mv (.t 0)), (.some (10, .true))⟩, ⟨(.some 12), (.mv (.t 2)), (.some (10, .true))⟩, ⟨(.some 13), (.bin .leq (.t 11) (.t 12)), (.some (10, .true))⟩, ⟨(.some 14), (.pick (.t 10) (.t 13) (.c (.bool .false))), .none⟩, ⟨(.some 6), (.mv (.t 14)), .none⟩] [6]) .ret)), [(.tmp 6)], .false⟩
theorem ok32 : ∃ fn hn, Try.prog.funcs[32]? = some fn ∧ (fn.name == "runtime.NumGoroutine") = false ∧ compFunc Try.prog fn hn = some a32 := ⟨Try.f32, h32, Try.func32, by kernel_rfl, by kernel_rfl⟩
def h33 : Hints := ⟨[(0, [0, 1, 2]), (1, [6])], [], .false⟩
def a33 : AFunc := ⟨15, (.seq (.region 1000 [⟨(.some 6), (.mv (.c (.bool .false))), .none⟩] [0, 1, 2]) (.seq (.region 2000 [⟨(.some 7), (.mv (.t 1)), .none⟩, ⟨(.some 8), (.mv (.t 0)), .none⟩, ⟨(.some 9), (.bin .leq (.t 7) (.t 8)), .none⟩, ⟨(.some 10), (.mv (.t 9)), .none⟩, ⟨(.some 11), (.mv (.t 0)), (.some (10, .true))⟩, ⟨(.some 12), (.mv (.t 2)), (.some (10, .true))⟩, ⟨(.some 13), (.bin .leq (.t 11) (.t 12)), (.some (10, .true))⟩, ⟨(.some 14), (.pick (.t 10) (.t 13) (.c (.bool .false))), .none⟩, ⟨(.some 6), (.mv (.t 14)), .none⟩] [6]) .ret)), [(.tmp 6)], .false⟩
theorem ok33 : ∃ fn hn, Try.prog.funcs[33]? = some fn ∧ (fn.name == "runtime.NumGoroutine") = false ∧ compFunc Try.prog fn hn = some a33 := ⟨Try.f33, h33, Try.func33, by kernel_rfl, by kernel_rfl⟩
def h46 : Hints := ⟨[(0, [0, 1, 2]), (1, [0, 1, 2, 7]), (2, [0, 1, 2, 7, 8]), (3, [0, 1, 2, 7, 8, 12]), (5, [0, 1, 2, 7, 8]), (4, [0, 1, 2, 7, 8]), (6, [7, 9]), (7, [6])], [(3, (.close [6002]))], .false⟩
def a46 : AFunc := ⟨36, (.seq (.region 1000 [⟨(.some 6), (.mv (.c (.bool .false))), .none⟩] [0, 1, 2]) (.seq (.region 2000 [⟨(.some 7), (.mv (.c (.int .i64 1))), .none⟩] [0, 1, 2, 7]) (.seq (.seq (.region 3000 [⟨(.some 8), (.mv (.c (.int .i64 0))), .none⟩] [0, 1, 2, 7, 8]) (.block 0 (.loop (.seq (.seq (.ghost (.close [6002]) (.region 4000 [⟨(.some 10), (.mv (.t 8)), .none⟩, ⟨(.some 11), (.mv (.t 1)), .none⟩, ⟨(.some 12), (.bin .lss (.t 10) (.t 11)), .none⟩] [0, 1, 2, 7, 8, 12])) (.cond (.t 12) .skip (.exit 0))) (.seq (.block 1 (.region 6000 [⟨(.some 15), (.mv (.t 7)), .none⟩, ⟨(.some 16), (.mv (.t 0)), .none⟩, ⟨(.some 17), (.toInt .u64 (.t 16)), .none⟩, ⟨(.some 18), (.bin .shl (.c (.int .i64 1)) (.t 17)), .none⟩, ⟨(.some 19), (.bin .add (.t 18) (.c (.int .i64 1))), .none⟩, ⟨(.some 20), (.bin .mul (.t 15) (.t 19)), .none⟩, ⟨(.some 7), (.mv (.t 20)), .none⟩] [0, 1, 2, 7, 8])) (.region 5000 [⟨(.some 13), (.mv (.t 8)), .none⟩, ⟨(.some 14), (.bin .add (.t 13) (.c (.int .i64 1))), .none⟩, ⟨(.some 8), (.mv (.t 14)), .none⟩] [0, 1, 2, 7, 8])))))) (.seq (.region 7000 [⟨(.some 21), (.mv (.t 1)), .none⟩, ⟨(.some 22), (.mv (.t 0)), .none⟩, ⟨(.some 23), (.bin .add (.t 22) (.c (.int .i64 1))), .none⟩, ⟨(.some 24), (.bin .mul (.t 21) (.t 23)), .none⟩, ⟨(.some 25), (.mv (.t 2)), .none⟩, ⟨(.some 26), (.bin .sub (.t 24) (.t 25)), .none⟩, ⟨(.some 9), (.mv (.t 26)), .none⟩] [7, 9]) (.seq (.region 8000 [⟨(.some 27), (.mv (.t 9)), .none⟩, ⟨(.some 28), (.bin .geq (.t 27) (.c (.int .i64 0))), .none⟩, ⟨(.some 29), (.mv (.t 28)), .none⟩, ⟨(.some 30), (.mv (.t 7)), (.some (29, .true))⟩, ⟨(.some 31), (.mv (.t 9)), (.some (29, .true))⟩, ⟨(.some 32), (.toInt .u64 (.t 31)), (.some (29, .true))⟩, ⟨(.some 33), (.bin .shl (.c (.int .i64 1)) (.t 32)), (.some (29, .true))⟩, ⟨(.some 34), (.bin .leq (.t 30) (.t 33)), (.some (29, .true))⟩, ⟨(.some 35), (.pick (.t 29) (.t 34) (.c (.bool .false))), .none⟩, ⟨(.some 6), (.mv (.t 35)), .none⟩] [6]) .ret))))), [(.tmp 6)], .false⟩
theorem ok46 : ∃ fn hn, Try.prog.funcs[46]? = some fn ∧ (fn.name == "runtime.NumGoroutine") = false ∧ compFunc Try.prog fn hn = some a46 := ⟨Try.f46, h46, Try.func46, by kernel_rfl, by kernel_rfl⟩
def tabL : List (Nat × FDef) := [(3, .code a3), (4, .code a4), (10, .code a10), (11, .code a11), (12, .code a12), (13, .code a13), (14, .code a14), (28, .code a28), (29, .code a29), (30, .code a30), (31, .code a31), (32, .code a32), (33, .code a33), (46, .code a46)]
def tab : Tab := fun f => aget tabL f
theorem tab3 : tab 3 = some (.code a3) := rfl
theorem tab4 : tab 4 = some (.code a4) := rfl
theorem tab10 : tab 10 = some (.code a10) := rfl
theorem tab11 : tab 11 = some (.code a11) := rfl
theorem tab12 : tab 12 = some (.code a12) := rfl
theorem tab13 : tab 13 = some (.code a13) := rfl
theorem tab14 : tab 14 = some (.code a14) := rfl
theorem tab28 : tab 28 = some (.code a28) := rfl
theorem tab29 : tab 29 = some (.code a29) := rfl
theorem tab30 : tab 30 = some (.code a30) := rfl
theorem tab31 : tab 31 = some (.code a31) := rfl
theorem tab32 : tab 32 = some (.code a32) := rfl
theorem tab33 : tab 33 = some (.code a33) := rfl
theorem tab46 : tab 46 = some (.code a46) := rfl
theorem tabOK : TabOK Try.prog tab := by
  refine ⟨fun f af h => ?_, fun f g h => ?_⟩
  · unfold tab tabL at h
    simp only [aget] at h
    by_cases e3 : 3 = f
    · rw [if_pos e3] at h; cases h; subst e3; exact ok3
    rw [if_neg e3] at h
    by_cases e4 : 4 = f
    · rw [if_pos e4] at h; cases h; subst e4; exact ok4
    rw [if_neg e4] at h
    by_cases e10 : 10 = f
    · rw [if_pos e10] at h; cases h; subst e10; exact ok10
    rw [if_neg e10] at h
    by_cases e11 : 11 = f
    · rw [if_pos e11] at h; cases h; subst e11; exact ok11
    rw [if_neg e11] at h
    by_cases e12 : 12 = f
    · rw [if_pos e12] at h; cases h; subst e12; exact ok12
    rw [if_neg e12] at h
    by_cases e13 : 13 = f
    · rw [if_pos e13] at h; cases h; subst e13; exact ok13
    rw [if_neg e13] at h
    by_cases e14 : 14 = f
    · rw [if_pos e14] at h; cases h; subst e14; exact ok14
    rw [if_neg e14] at h
    by_cases e28 : 28 = f
    · rw [if_pos e28] at h; cases h; subst e28; exact ok28
    rw [if_neg e28] at h
    by_cases e29 : 29 = f
    · rw [if_pos e29] at h; cases h; subst e29; exact ok29
    rw [if_neg e29] at h
    by_cases e30 : 30 = f
    · rw [if_pos e30] at h; cases h; subst e30; exact ok30
    rw [if_neg e30] at h
    by_cases e31 : 31 = f
    · rw [if_pos e31] at h; cases h; subst e31; exact ok31
    rw [if_neg e31] at h
    by_cases e32 : 32 = f
    · rw [if_pos e32] at h; cases h; subst e32; exact ok32
    rw [if_neg e32] at h
    by_cases e33 : 33 = f
    · rw [if_pos e33] at h; cases h; subst e33; exact ok33
    rw [if_neg e33] at h
    by_cases e46 : 46 = f
    · rw [if_pos e46] at h; cases h; subst e46; exact ok46
    rw [if_neg e46] at h
    cases h
  · exfalso
    unfold tab tabL at h
    simp only [aget] at h
    by_cases e3 : 3 = f
    · rw [if_pos e3] at h; cases h
    rw [if_neg e3] at h
    by_cases e4 : 4 = f
    · rw [if_pos e4] at h; cases h
    rw [if_neg e4] at h
    by_cases e10 : 10 = f
    · rw [if_pos e10] at h; cases h
    rw [if_neg e10] at h
    by_cases e11 : 11 = f
    · rw [if_pos e11] at h; cases h
    rw [if_neg e11] at h
    by_cases e12 : 12 = f
    · rw [if_pos e12] at h; cases h
    rw [if_neg e12] at h
    by_cases e13 : 13 = f
    · rw [if_pos e13] at h; cases h
    rw [if_neg e13] at h
    by_cases e14 : 14 = f
    · rw [if_pos e14] at h; cases h
    rw [if_neg e14] at h
    by_cases e28 : 28 = f
    · rw [if_pos e28] at h; cases h
    rw [if_neg e28] at h
    by_cases e29 : 29 = f
    · rw [if_pos e29] at h; cases h
    rw [if_neg e29] at h
    by_cases e30 : 30 = f
    · rw [if_pos e30] at h; cases h
    rw [if_neg e30] at h
    by_cases e31 : 31 = f
    · rw [if_pos e31] at h; cases h
    rw [if_neg e31] at h
    by_cases e32 : 32 = f
    · rw [if_pos e32] at h; cases h
    rw [if_neg e32] at h
    by_cases e33 : 33 = f
    · rw [if_pos e33] at h; cases h
    rw [if_neg e33] at h
    by_cases e46 : 46 = f
    · rw [if_pos e46] at h; cases h
    rw [if_neg e46] at h
    cases h
end Go.Proofs.Tb
