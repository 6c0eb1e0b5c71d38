/- The functions of the program, as the abstract machine has them. -/
import Derived.Test.YtdnkignjanfikaaGreatAiTop
import Derived.Test.YtdnkignjanfikaaGreatAiGen
import Derived.Test.YtdnkignjanfikaaGreatProg
import Derived.KernelRfl
set_option linter.unusedVariables false
namespace Go.AI.So
def OkF (k:Nat) (a:al):Prop:= ∃fn hn,Proofs.Tryz.prog.funcs[k]? =some fn∧(fn.name== "runtime.NumGoroutine")=false∧mG Proofs.Tryz.prog fn hn=some a
theorem okq {k:Nat} {a:al} {fn:Func} (h:Proofs.Tryz.prog.funcs[k]? =some fn) (h1:(fn.name== "runtime.NumGoroutine")=false:=by kernel_rfl) (h2:mG Proofs.Tryz.prog fn (hnO a)=some a:=by kernel_rfl):OkF k a:=⟨fn,_,h,h1,h2⟩
def tyT (t:Nat):TI:=(if t<305 then (if t<26 then ⟨.int .i64,1,8,[(.int .i64 0)]⟩ else (if t<52 then ⟨.sl 3,1,24,[(.slice .none 0 0)]⟩ else ⟨.sl 309,1,24,[(.slice .none 0 0)]⟩)) else (if t<309 then ⟨.arr 2 3,2,16,[(.int .i64 0),(.int .i64 0)]⟩ else (if t<311 then ⟨.st [(0,3),(1,3),(2,3)] [true,true,true],3,24,[(.int .i64 0),(.int .i64 0),(.int .i64 0)]⟩ else ⟨.oth,1,8,[]⟩)))
def gT (f:Func) (ls:List (List Nat)) (lg:List cY:=[]) (gs:List (Nat×cY):=[]):QC:=gQ tyT f ls lg gs
end Go.AI.So
set_option linter.unusedVariables false
set_option maxRecDepth 100000
set_option maxHeartbeats 2000000
namespace Go.AI.So
open Proofs.Tryz
def jB:=cv (a:=gT f288 [[2,3],[4]])
def dp:al:=⟨17,mkC jB.1,[.tmp 4],.false,.false⟩
theorem qV:OkF 288 dp:=okq func288
def jo:=cv (a:=gT f349 [[0],[0,3],[3,6,7,8],[3,6,7,8,9],[3,5,6,7,8],[3,5,6,7,8,14],[2],[3,6,7,8],[2]] [(.close [])])
def fu:al:=⟨18,mkC jo.1,[.tmp 2],.false,.false⟩
def ll:=cv (a:=lp jo.1 0)
def kw:aq:=mkC ll.1
theorem xO:OkF 349 fu:=okq func349
def hU:=cv (a:=gT f350 [[0,1],[0,1,5],[0,1,5,6],[0,1,6,11],[12],[4],[4],[0,1,13],[4],[0,1,16],[4],[19],[4],[4]])
def cA:al:=⟨20,mkC hU.1,[.tmp 4],.false,.false⟩
theorem nu:OkF 350 cA:=okq func350
def jx:=cv (a:=gT f387 [[0],[2]])
def du:al:=⟨6,mkC jx.1,[.tmp 2],.false,.false⟩
theorem qh:OkF 387 du:=okq func387
end Go.AI.So
set_option linter.unusedVariables false
set_option maxRecDepth 100000
namespace Go.AI.So
noncomputable def b0j:List (Nat×ZP):=[(288,.code dp),(349,.code fu),(350,.code cA),(387,.code du)]
noncomputable def tab:Tab:=fun f=>cj b0j f
def owL:List (Nat×List Nat):=[]
def ow:cy:=fun f=>owg owL f
theorem b0C (f:Nat):ow f=owg owL f:=rfl
theorem b9J:owL=[]:=rfl
attribute [go_sem] b0C b9J
end Go.AI.So
set_option maxRecDepth 100000
namespace Go.AI.So
def NK:List (Nat×ZP)→Prop
 |[]=>True
 |p::r=>((∃a,p.2= .code a∧OkF p.1 a)∨(∃g,p.2= .ext g∧Kg Proofs.Tryz.prog p.1 g))∧NK r
theorem Vl:NK b0j:=⟨.inl ⟨_,rfl,qV⟩,.inl ⟨_,rfl,xO⟩,.inl ⟨_,rfl,nu⟩,.inl ⟨_,rfl,qh⟩,trivial⟩
theorem okL: ∀{l:List (Nat×ZP)},NK l→ ∀p∈l,(∃a,p.2= .code a∧OkF p.1 a)∨(∃g,p.2= .ext g∧Kg Proofs.Tryz.prog p.1 g)
 |[],_,p,hp=>by cases hp
 |q::r,h,p,hp=>by
  rcases List.mem_cons.1 hp with rfl|hp
  ·exact h.1
  ·exact okL h.2 p hp
theorem zD {α:Type}: ∀{l:List (Nat×α)} {k:Nat} {v:α},cj l k=some v→(k,v)∈l
 |[],_,_,h=>by cases h
 | (j,u)::r,k,v,h=>by
   simp only [cj] at h
   split at h
   ·rename_i e;cases h;subst e;simp
   ·exact List.mem_cons_of_mem _ (zD h)
theorem tabOK:xv Proofs.Tryz.prog tab:=by
 refine ⟨fun f af h=> ?_,fun f g h=> ?_⟩
 ·obtain ⟨a,h1,h2⟩|⟨a,h1,h2⟩:=okL Vl _ (zD h)
  ·cases h1;exact h2
  ·cases h1
 ·obtain ⟨a,h1,h2⟩|⟨a,h1,h2⟩:=okL Vl _ (zD h)
  ·cases h1
  ·cases h1;exact h2
end Go.AI.So
