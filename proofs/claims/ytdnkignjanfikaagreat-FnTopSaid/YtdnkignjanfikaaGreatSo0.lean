/- Part. -/
import Derived.Test.YtdnkignjanfikaaGreatAiTop
import Derived.Test.YtdnkignjanfikaaGreatAiGen
import Derived.Test.YtdnkignjanfikaaGreatProg
import Derived.KernelRfl
set_option linter.unusedVariables false
namespace Go.AI.So
def OkF (k:Nat) (a:j4):Prop:= ∃fn hn,Proofs.Tryz.prog.funcs[k]? =some fn∧(fn.name== "runtime.NumGoroutine")=false∧vA Proofs.Tryz.prog fn hn=some a
theorem okq {k:Nat} {a:j4} {fn:Func} (h:Proofs.Tryz.prog.funcs[k]? =some fn) (h1:(fn.name== "runtime.NumGoroutine")=false:=by kernel_rfl) (h2:vA Proofs.Tryz.prog fn (hnO a)=some a:=by kernel_rfl):OkF k a:=⟨fn,_,h,h1,h2⟩
def tyT (t:Nat):TI:=(if t<305 then (if t<26 then ⟨.int .i64,1,8,[(.int .i64 0)]⟩ else (if t<52 then ⟨.sl 3,1,24,[(.slice .none 0 0)]⟩ else ⟨.sl 309,1,24,[(.slice .none 0 0)]⟩)) else (if t<309 then ⟨.arr 2 3,2,16,[(.int .i64 0),(.int .i64 0)]⟩ else (if t<311 then ⟨.st [(0,3),(1,3),(2,3)] [true,true,true],3,24,[(.int .i64 0),(.int .i64 0),(.int .i64 0)]⟩ else ⟨.oth,1,8,[]⟩)))
def gT (f:Func) (ls:List (List Nat)) (lg:List dW:=[]) (gs:List (Nat×dW):=[]):QC:=gQ tyT f ls lg gs
def gV (f:Func) (ls:List (List Nat)) (lg:List dW:=[]) (gs:List (Nat×dW):=[]) {c:QC} (h:gT f ls lg gs=c:=by conv=>lhs;cbv):{c:QC//gT f ls lg gs=c}:=⟨c,h⟩
theorem c31 {f:Func} {ls:List (List Nat)} {lg:List dW} {gs:List (Nat×dW)} {c:QC} (h:gT f ls lg gs=c):(gV f ls lg gs h).1=c:=rfl
attribute [go_sem] c31
end Go.AI.So
set_option linter.unusedVariables false
set_option maxRecDepth 100000
set_option maxHeartbeats 2000000
namespace Go.AI.So
open Proofs.Tryz
def oY:=gV f288 [[2,3],[4]]
def gX:=qF 17 oY.1 [.tmp 4]
theorem wv:OkF 288 gX:=okq func288
def oe:=gV f349 [[0],[0,3],[3,6,7,8],[3,6,7,8,9],[3,5,6,7,8],[3,5,6,7,8,14],[2],[3,6,7,8],[2]] [(.close [])]
def ko:=qF 18 oe.1 [.tmp 2]
def rm:=cv (a:=lp oe.1 0)
def qA:aU:=mkC rm.1
theorem CD:OkF 349 ko:=okq func349
def mj:=gV f350 [[0,1],[0,1,5],[0,1,5,6],[0,1,6,11],[12],[4],[4],[0,1,13],[4],[0,1,16],[4],[19],[4],[4]]
def ft:=qF 20 mj.1 [.tmp 4]
theorem u7:OkF 350 ft:=okq func350
def pc:=gV f387 [[0],[2]]
def gS:=qF 6 pc.1 [.tmp 2]
theorem wV:OkF 387 gS:=okq func387
end Go.AI.So
set_option linter.unusedVariables false
set_option maxRecDepth 100000
namespace Go.AI.So
noncomputable def b4z:List (Nat×RL):=[(288,.code gX),(349,.code ko),(350,.code ft),(387,.code gS)]
noncomputable def tab:Tab:=fun f=>eH b4z f
def owL:List (Nat×List Nat):=[]
def ow:fe:=fun f=>owg owL f
theorem b0R (f:Nat):ow f=owg owL f:=rfl
theorem c2H:owL=[]:=rfl
attribute [go_sem] b0R c2H
end Go.AI.So
set_option maxRecDepth 100000
namespace Go.AI.So
def Rx:List (Nat×RL)→Prop
 |[]=>True
 |p::r=>((∃a,p.2= .code a∧OkF p.1 a)∨(∃g,p.2= .ext g∧Jb Proofs.Tryz.prog p.1 g))∧Rx r
theorem okc {k:Nat} {a:j4} (h:OkF k a):(∃b,RL.code a= .code b∧OkF k b)∨(∃g,RL.code a= .ext g∧Jb Proofs.Tryz.prog k g):= .inl ⟨_,rfl,h⟩
theorem a1l:Rx b4z:=⟨okc wv,okc CD,okc u7,okc wV,trivial⟩
theorem okL: ∀{l:List (Nat×RL)},Rx l→ ∀p∈l,(∃a,p.2= .code a∧OkF p.1 a)∨(∃g,p.2= .ext g∧Jb Proofs.Tryz.prog p.1 g)
 |[],_,p,hp=>by cases hp
 |q::r,h,p,hp=>by
  rcases List.mem_cons.1 hp with rfl|hp
  ·exact h.1
  ·exact okL h.2 p hp
theorem E3 {α:Type}: ∀{l:List (Nat×α)} {k:Nat} {v:α},eH l k=some v→(k,v)∈l
 |[],_,_,h=>by cases h
 | (j,u)::r,k,v,h=>by
   simp only [eH] at h
   split at h
   ·rename_i e;cases h;subst e;simp
   ·exact List.mem_cons_of_mem _ (E3 h)
theorem tabOK:Bd Proofs.Tryz.prog tab:=by
 refine ⟨fun f af h=> ?_,fun f g h=> ?_⟩
 ·obtain ⟨a,h1,h2⟩|⟨a,h1,h2⟩:=okL a1l _ (E3 h)
  ·cases h1;exact h2
  ·cases h1
 ·obtain ⟨a,h1,h2⟩|⟨a,h1,h2⟩:=okL a1l _ (E3 h)
  ·cases h1
  ·cases h1;exact h2
end Go.AI.So
