/- The functions of the program, as the abstract machine has them. -/
import Derived.Test.YtgjlndaebhaciaaAiTop
import Derived.Test.YtgjlndaebhaciaaAiGen
import Derived.Test.YtgjlndaebhaciaaProg
import Derived.KernelRfl
set_option linter.unusedVariables false
namespace Go.AI.So
def OkF (k:Nat) (a:aC):Prop:= ∃fn hn,Proofs.Try.prog.funcs[k]? =some fn∧(fn.name== "runtime.NumGoroutine")=false∧iy Proofs.Try.prog fn hn=some a
theorem okq {k:Nat} {a:aC} {fn:Func} (h:Proofs.Try.prog.funcs[k]? =some fn) (h1:(fn.name== "runtime.NumGoroutine")=false:=by kernel_rfl) (h2:iy Proofs.Try.prog fn (hnO a)=some a:=by kernel_rfl):OkF k a:=⟨fn,_,h,h1,h2⟩
def tyT (t:Nat):TI:=(if t<108 then (if t<26 then ⟨.int .i64,1,8,[(.int .i64 0)]⟩ else (if t<42 then ⟨.sl 108,1,24,[(.slice .none 0 0)]⟩ else ⟨.sl 3,1,24,[(.slice .none 0 0)]⟩)) else (if t<159 then ⟨.st [(0,3),(1,3),(2,3)] [true,true,true],3,24,[(.int .i64 0),(.int .i64 0),(.int .i64 0)]⟩ else (if t<163 then ⟨.arr 2 3,2,16,[(.int .i64 0),(.int .i64 0)]⟩ else ⟨.oth,1,8,[]⟩)))
def gT (f:Func) (ls:List (List Nat)) (lg:List ci:=[]) (gs:List (Nat×ci):=[]):QC:=gQ tyT f ls lg gs
end Go.AI.So
