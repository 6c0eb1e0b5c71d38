/- The functions of the program, as the abstract machine has them. -/
import Derived.Test.YtdmhkkcihecndaaAiTop
import Derived.Test.YtdmhkkcihecndaaAiGen
import Derived.Test.YtdmhkkcihecndaaProg
import Derived.KernelRfl
set_option linter.unusedVariables false
namespace Go.AI.Fn
def OkF (k:Nat) (a:aj):Prop:= ∃fn hn,Proofs.Try.prog.funcs[k]? =some fn∧(fn.name== "runtime.NumGoroutine")=false∧fE Proofs.Try.prog fn hn=some a
theorem okq {k:Nat} {a:aj} {fn:Func} (h:Proofs.Try.prog.funcs[k]? =some fn) (h1:(fn.name== "runtime.NumGoroutine")=false:=by kernel_rfl) (h2:fE Proofs.Try.prog fn (hnO a)=some a:=by kernel_rfl):OkF k a:=⟨fn,_,h,h1,h2⟩
def tyT (t:Nat):TI:=(if t<62 then (if t<33 then (if t<24 then (if t<4 then ⟨.int .i64,1,8,[(.int .i64 0)]⟩ else ⟨.bool,1,1,[(.bool .false)]⟩) else (if t<26 then ⟨.sl 33,1,24,[(.slice .none 0 0)]⟩ else ⟨.int .u64,1,8,[(.int .u64 0)]⟩)) else (if t<56 then (if t<54 then ⟨.st [(0,3),(1,3)] [true,true],2,16,[(.int .i64 0),(.int .i64 0)]⟩ else ⟨.sl 182,1,24,[(.slice .none 0 0)]⟩) else (if t<57 then ⟨.st [(0,3),(1,3),(2,3),(3,54),(4,54),(5,54)] [],6,96,[(.int .i64 0),(.int .i64 0),(.int .i64 0),(.slice .none 0 0),(.slice .none 0 0),(.slice .none 0 0)]⟩ else (if t<58 then ⟨.sl 58,1,24,[(.slice .none 0 0)]⟩ else ⟨.st [(0,3),(1,3)] [true,true],2,16,[(.int .i64 0),(.int .i64 0)]⟩)))) else (if t<136 then (if t<81 then (if t<64 then ⟨.sl 180,1,24,[(.slice .none 0 0)]⟩ else ⟨.st [(0,3),(1,3),(2,3),(3,62),(4,62),(5,62)] [],6,96,[(.int .i64 0),(.int .i64 0),(.int .i64 0),(.slice .none 0 0),(.slice .none 0 0),(.slice .none 0 0)]⟩) else (if t<107 then ⟨.sl 3,1,24,[(.slice .none 0 0)]⟩ else ⟨.oth,1,8,[]⟩)) else (if t<180 then (if t<178 then ⟨.arr 3 33,6,48,[(.int .i64 0),(.int .i64 0),(.int .i64 0),(.int .i64 0),(.int .i64 0),(.int .i64 0)]⟩ else ⟨.sl 62,1,24,[(.slice .none 0 0)]⟩) else (if t<182 then ⟨.st [(0,3),(1,3),(2,3)] [true,true,true],3,24,[(.int .i64 0),(.int .i64 0),(.int .i64 0)]⟩ else (if t<184 then ⟨.st [(0,3),(1,3),(2,3)] [true,true,true],3,24,[(.int .i64 0),(.int .i64 0),(.int .i64 0)]⟩ else ⟨.arr 3 62,3,72,[(.slice .none 0 0),(.slice .none 0 0),(.slice .none 0 0)]⟩)))))
def gT (f:Func) (ls:List (List Nat)) (lg:List bj:=[]) (gs:List (Nat×bj):=[]):QC:=gQ tyT f ls lg gs
end Go.AI.Fn
