/- Part. -/
import Derived.Test.YtdnkignjanfikaaGreatAiTop
import Derived.Test.YtdnkignjanfikaaGreatAiGen
import Derived.Test.YtdnkignjanfikaaGreatProg
import Derived.KernelRfl
set_option linter.unusedVariables false
namespace Go.AI.So
def OkF (k:Nat) (a:j4):Prop:= ∃fn hn,Proofs.Tryz.prog.funcs[k]? =some fn∧(fn.name== "runtime.NumGoroutine")=false∧uV Proofs.Tryz.prog fn hn=some a
theorem okq {k:Nat} {a:j4} {fn:Func} (h:Proofs.Tryz.prog.funcs[k]? =some fn) (h1:(fn.name== "runtime.NumGoroutine")=false:=by kernel_rfl) (h2:uV Proofs.Tryz.prog fn (hnO a)=some a:=by kernel_rfl):OkF k a:=⟨fn,_,h,h1,h2⟩
def tyT (t:Nat):TI:=(if t<305 then (if t<26 then ⟨.int .i64,1,8,[(.int .i64 0)]⟩ else (if t<52 then ⟨.sl 3,1,24,[(.slice .none 0 0)]⟩ else ⟨.sl 309,1,24,[(.slice .none 0 0)]⟩)) else (if t<309 then ⟨.arr 2 3,2,16,[(.int .i64 0),(.int .i64 0)]⟩ else (if t<311 then ⟨.st [(0,3),(1,3),(2,3)] [true,true,true],3,24,[(.int .i64 0),(.int .i64 0),(.int .i64 0)]⟩ else ⟨.oth,1,8,[]⟩)))
def gT (f:Func) (ls:List (List Nat)) (lg:List dX:=[]) (gs:List (Nat×dX):=[]):QC:=gQ tyT f ls lg gs
def gV (f:Func) (ls:List (List Nat)) (lg:List dX:=[]) (gs:List (Nat×dX):=[]) {c:QC} (h:gT f ls lg gs=c:=by conv=>lhs;cbv):{c:QC//gT f ls lg gs=c}:=⟨c,h⟩
theorem c3H {f:Func} {ls:List (List Nat)} {lg:List dX} {gs:List (Nat×dX)} {c:QC} (h:gT f ls lg gs=c):(gV f ls lg gs h).1=c:=rfl
attribute [go_sem] c3H
end Go.AI.So
set_option linter.unusedVariables false
set_option maxRecDepth 100000
set_option maxHeartbeats 2000000
namespace Go.AI.So
open Proofs.Tryz
def p5:=gV f288 [[2,3],[4]]
def gU:=qF 17 p5.1 [.tmp 4]
theorem wU:OkF 288 gU:=okq func288
def ov:=gV f349 [[0],[0,3],[3,6,7,8],[3,6,7,8,9],[3,5,6,7,8],[3,5,6,7,8,14],[2],[3,6,7,8],[2]] [(.close [])]
def kq:=qF 18 ov.1 [.tmp 2]
def rm:=cv (a:=lp ov.1 0)
def rv:aU:=mkC rm.1
theorem Ct:OkF 349 kq:=okq func349
def mG:=gV f350 [[0,1],[0,1,5],[0,1,5,6],[0,1,6,11],[12],[4],[4],[0,1,13],[4],[0,1,16],[4],[19],[4],[4]]
def fx:=qF 20 mG.1 [.tmp 4]
theorem uf:OkF 350 fx:=okq func350
def pd:=gV f387 [[0],[2]]
def gX:=qF 6 pd.1 [.tmp 2]
theorem wT:OkF 387 gX:=okq func387
end Go.AI.So
set_option linter.unusedVariables false
set_option maxRecDepth 100000
namespace Go.AI.So
noncomputable def b2n:List (Nat×Sw):=[(288,.code gU),(349,.code kq),(350,.code fx),(387,.code gX)]
noncomputable def tab:Tab:=fun f=>eH b2n f
def owL:List (Nat×List Nat):=[]
def ow:ff:=fun f=>owg owL f
theorem b4b (f:Nat):ow f=owg owL f:=rfl
theorem c1o:owL=[]:=rfl
attribute [go_sem] b4b c1o
end Go.AI.So
set_option maxRecDepth 100000
namespace Go.AI.So
def Qd:List (Nat×Sw)→Prop
 |[]=>True
 |p::r=>((∃a,p.2= .code a∧OkF p.1 a)∨(∃g,p.2= .ext g∧Iy Proofs.Tryz.prog p.1 g))∧Qd r
theorem okc {k:Nat} {a:j4} (h:OkF k a):(∃b,Sw.code a= .code b∧OkF k b)∨(∃g,Sw.code a= .ext g∧Iy Proofs.Tryz.prog k g):= .inl ⟨_,rfl,h⟩
theorem a1q:Qd b2n:=⟨okc wU,okc Ct,okc uf,okc wT,trivial⟩
theorem okL: ∀{l:List (Nat×Sw)},Qd l→ ∀p∈l,(∃a,p.2= .code a∧OkF p.1 a)∨(∃g,p.2= .ext g∧Iy Proofs.Tryz.prog p.1 g)
 |[],_,p,hp=>by cases hp
 |q::r,h,p,hp=>by
  rcases List.mem_cons.1 hp with rfl|hp
  ·exact h.1
  ·exact okL h.2 p hp
theorem DG {α:Type}: ∀{l:List (Nat×α)} {k:Nat} {v:α},eH l k=some v→(k,v)∈l
 |[],_,_,h=>by cases h
 | (j,u)::r,k,v,h=>by
   simp only [eH] at h
   split at h
   ·rename_i e;cases h;subst e;simp
   ·exact List.mem_cons_of_mem _ (DG h)
theorem tabOK:Bn Proofs.Tryz.prog tab:=by
 refine ⟨fun f af h=> ?_,fun f g h=> ?_⟩
 ·obtain ⟨a,h1,h2⟩|⟨a,h1,h2⟩:=okL a1q _ (DG h)
  ·cases h1;exact h2
  ·cases h1
 ·obtain ⟨a,h1,h2⟩|⟨a,h1,h2⟩:=okL a1q _ (DG h)
  ·cases h1
  ·cases h1;exact h2
end Go.AI.So
