/- The functions of the program, as the abstract machine has them. -/
import Derived.Test.YtgjlndaebhaciaaAiTop
import Derived.Test.YtgjlndaebhaciaaAiGen
import Derived.Test.YtgjlndaebhaciaaProg
import Derived.KernelRfl
set_option linter.unusedVariables false
namespace Go.AI.Fn
def OkF (k:Nat) (a:aI):Prop:= ∃fn hn,Proofs.Try.prog.funcs[k]? =some fn∧(fn.name== "runtime.NumGoroutine")=false∧ew Proofs.Try.prog fn hn=some a
theorem okq {k:Nat} {a:aI} {fn:Func} (h:Proofs.Try.prog.funcs[k]? =some fn) (h1:(fn.name== "runtime.NumGoroutine")=false:=by kernel_rfl) (h2:ew Proofs.Try.prog fn (hnO a)=some a:=by kernel_rfl):OkF k a:=⟨fn,_,h,h1,h2⟩
def tyT (t:Nat):TI:=(if t<69 then (if t<26 then (if t<22 then (if t<4 then ⟨.int .i64,1,8,[(.int .i64 0)]⟩ else ⟨.bool,1,1,[(.bool .false)]⟩) else (if t<24 then ⟨.sl 131,1,24,[(.slice .none 0 0)]⟩ else ⟨.st [(0,22)] [],1,24,[(.slice .none 0 0)]⟩)) else (if t<31 then (if t<28 then ⟨.sl 108,1,24,[(.slice .none 0 0)]⟩ else ⟨.st [(0,3),(1,3),(2,3),(3,26),(4,26),(5,26)] [],6,96,[(.int .i64 0),(.int .i64 0),(.int .i64 0),(.slice .none 0 0),(.slice .none 0 0),(.slice .none 0 0)]⟩) else (if t<33 then ⟨.sl 69,1,24,[(.slice .none 0 0)]⟩ else (if t<42 then ⟨.st [(0,31)] [],1,24,[(.slice .none 0 0)]⟩ else ⟨.sl 3,1,24,[(.slice .none 0 0)]⟩)))) else (if t<132 then (if t<108 then (if t<73 then ⟨.st [(0,3),(1,3),(2,3),(3,3)] [true,true,true,true],4,32,[(.int .i64 0),(.int .i64 0),(.int .i64 0),(.int .i64 0)]⟩ else ⟨.int .u64,1,8,[(.int .u64 0)]⟩) else (if t<131 then ⟨.st [(0,3),(1,3),(2,3)] [true,true,true],3,24,[(.int .i64 0),(.int .i64 0),(.int .i64 0)]⟩ else ⟨.st [(0,3),(1,3),(2,3),(3,3)] [true,true,true,true],4,32,[(.int .i64 0),(.int .i64 0),(.int .i64 0),(.int .i64 0)]⟩)) else (if t<135 then (if t<133 then ⟨.oth,1,8,[(.pointer .none)]⟩ else ⟨.oth,1,8,[(.map .none)]⟩) else (if t<158 then ⟨.st [(0,3),(1,133),(2,133),(3,133)] [],4,32,[(.int .i64 0),(.map .none),(.map .none),(.map .none)]⟩ else (if t<159 then ⟨.sl 159,1,24,[(.slice .none 0 0)]⟩ else ⟨.arr 2 3,2,16,[(.int .i64 0),(.int .i64 0)]⟩)))))
def gT (f:Func) (ls:List (List Nat)) (lg:List bq:=[]) (gs:List (Nat×bq):=[]):QC:=gQ tyT f ls lg gs
end Go.AI.Fn
