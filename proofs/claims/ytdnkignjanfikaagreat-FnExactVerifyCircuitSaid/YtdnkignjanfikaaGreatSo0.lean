/- Part. -/
import Derived.Test.YtdnkignjanfikaaGreatAiTop
import Derived.Test.YtdnkignjanfikaaGreatAiGen
import Derived.Test.YtdnkignjanfikaaGreatProg
import Derived.KernelRfl
set_option linter.unusedVariables false
namespace Go.AI.So
def OkF (k:Nat) (a:aJ):Prop:= ∃fn hn,Proofs.Tryz.prog.funcs[k]? =some fn∧(fn.name== "runtime.NumGoroutine")=false∧sd Proofs.Tryz.prog fn hn=some a
theorem okq {k:Nat} {a:aJ} {fn:Func} (h:Proofs.Tryz.prog.funcs[k]? =some fn) (h1:(fn.name== "runtime.NumGoroutine")=false:=by kernel_rfl) (h2:sd Proofs.Tryz.prog fn (hnO a)=some a:=by kernel_rfl):OkF k a:=⟨fn,_,h,h1,h2⟩
def tyT (t:Nat):TI:=(if t<305 then (if t<26 then ⟨.int .i64,1,8,[(.int .i64 0)]⟩ else (if t<52 then ⟨.sl 3,1,24,[(.slice .none 0 0)]⟩ else ⟨.sl 309,1,24,[(.slice .none 0 0)]⟩)) else (if t<309 then ⟨.arr 2 3,2,16,[(.int .i64 0),(.int .i64 0)]⟩ else (if t<311 then ⟨.st [(0,3),(1,3),(2,3)] [true,true,true],3,24,[(.int .i64 0),(.int .i64 0),(.int .i64 0)]⟩ else ⟨.oth,1,8,[]⟩)))
def gT (f:Func) (ls:List (List Nat)) (lg:List eU:=[]) (gs:List (Nat×eU):=[]):QC:=gQ tyT f ls lg gs
end Go.AI.So
set_option linter.unusedVariables false
set_option maxRecDepth 100000
set_option maxHeartbeats 2000000
namespace Go.AI.So
open Proofs.Tryz
def my:=cv (a:=gT f288 [[2,3],[4]])
def fK:aJ:=⟨17,mkC my.1,[.tmp 4],.false,.false⟩
theorem tg:OkF 288 fK:=okq func288
def mo:=cv (a:=gT f349 [[0],[0,3],[3,6,7,8],[3,6,7,8,9],[3,5,6,7,8],[3,5,6,7,8,14],[2],[3,6,7,8],[2]] [(.close [])])
def jc:aJ:=⟨18,mkC mo.1,[.tmp 2],.false,.false⟩
def o3:=cv (a:=lp mo.1 0)
def nR:aQ:=mkC o3.1
theorem AV:OkF 349 jc:=okq func349
def ko:=cv (a:=gT f350 [[0,1],[0,1,5],[0,1,5,6],[0,1,6,11],[12],[4],[4],[0,1,13],[4],[0,1,16],[4],[19],[4],[4]])
def ee:aJ:=⟨20,mkC ko.1,[.tmp 4],.false,.false⟩
theorem qH:OkF 350 ee:=okq func350
def mN:=cv (a:=gT f387 [[0],[2]])
def fO:aJ:=⟨6,mkC mN.1,[.tmp 2],.false,.false⟩
theorem th:OkF 387 fO:=okq func387
end Go.AI.So
set_option linter.unusedVariables false
set_option maxRecDepth 100000
namespace Go.AI.So
noncomputable def b4H:List (Nat×a5F):=[(288,.code fK),(349,.code jc),(350,.code ee),(387,.code fO)]
noncomputable def tab:Tab:=fun f=>dP b4H f
def owL:List (Nat×List Nat):=[]
def ow:ec:=fun f=>owg owL f
theorem b5r (f:Nat):ow f=owg owL f:=rfl
theorem c6h:owL=[]:=rfl
attribute [go_sem] b5r c6h
end Go.AI.So
set_option maxRecDepth 100000
namespace Go.AI.So
def PH:List (Nat×a5F)→Prop
 |[]=>True
 |p::r=>((∃a,p.2= .code a∧OkF p.1 a)∨(∃g,p.2= .ext g∧Na Proofs.Tryz.prog p.1 g))∧PH r
theorem a2f:PH b4H:=⟨.inl ⟨_,rfl,tg⟩,.inl ⟨_,rfl,AV⟩,.inl ⟨_,rfl,qH⟩,.inl ⟨_,rfl,th⟩,trivial⟩
theorem okL: ∀{l:List (Nat×a5F)},PH l→ ∀p∈l,(∃a,p.2= .code a∧OkF p.1 a)∨(∃g,p.2= .ext g∧Na Proofs.Tryz.prog p.1 g)
 |[],_,p,hp=>by cases hp
 |q::r,h,p,hp=>by
  rcases List.mem_cons.1 hp with rfl|hp
  ·exact h.1
  ·exact okL h.2 p hp
theorem Di {α:Type}: ∀{l:List (Nat×α)} {k:Nat} {v:α},dP l k=some v→(k,v)∈l
 |[],_,_,h=>by cases h
 | (j,u)::r,k,v,h=>by
   simp only [dP] at h
   split at h
   ·rename_i e;cases h;subst e;simp
   ·exact List.mem_cons_of_mem _ (Di h)
theorem tabOK:zY Proofs.Tryz.prog tab:=by
 refine ⟨fun f af h=> ?_,fun f g h=> ?_⟩
 ·obtain ⟨a,h1,h2⟩|⟨a,h1,h2⟩:=okL a2f _ (Di h)
  ·cases h1;exact h2
  ·cases h1
 ·obtain ⟨a,h1,h2⟩|⟨a,h1,h2⟩:=okL a2f _ (Di h)
  ·cases h1
  ·cases h1;exact h2
end Go.AI.So
