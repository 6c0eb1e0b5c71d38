/- Part. -/
import Derived.Test.YtdnkignjanfikaaGreatAiTop
import Derived.Test.YtdnkignjanfikaaGreatAiGen
import Derived.Test.YtdnkignjanfikaaGreatProg
import Derived.KernelRfl
set_option linter.unusedVariables false
namespace Go.AI.So
def OkF (k:Nat) (a:aJ):Prop:= ∃fn hn,Proofs.Tryz.prog.funcs[k]? =some fn∧(fn.name== "runtime.NumGoroutine")=false∧rE Proofs.Tryz.prog fn hn=some a
theorem okq {k:Nat} {a:aJ} {fn:Func} (h:Proofs.Tryz.prog.funcs[k]? =some fn) (h1:(fn.name== "runtime.NumGoroutine")=false:=by kernel_rfl) (h2:rE Proofs.Tryz.prog fn (hnO a)=some a:=by kernel_rfl):OkF k a:=⟨fn,_,h,h1,h2⟩
def tyT (t:Nat):TI:=(if t<305 then (if t<26 then ⟨.int .i64,1,8,[(.int .i64 0)]⟩ else (if t<52 then ⟨.sl 3,1,24,[(.slice .none 0 0)]⟩ else ⟨.sl 309,1,24,[(.slice .none 0 0)]⟩)) else (if t<309 then ⟨.arr 2 3,2,16,[(.int .i64 0),(.int .i64 0)]⟩ else (if t<311 then ⟨.st [(0,3),(1,3),(2,3)] [true,true,true],3,24,[(.int .i64 0),(.int .i64 0),(.int .i64 0)]⟩ else ⟨.oth,1,8,[]⟩)))
def gT (f:Func) (ls:List (List Nat)) (lg:List eU:=[]) (gs:List (Nat×eU):=[]):QC:=gQ tyT f ls lg gs
end Go.AI.So
set_option linter.unusedVariables false
set_option maxRecDepth 100000
set_option maxHeartbeats 2000000
namespace Go.AI.So
open Proofs.Tryz
def mG:=cv (a:=gT f288 [[2,3],[4]])
def fK:aJ:=⟨17,mkC mG.1,[.tmp 4],.false,.false⟩
theorem tO:OkF 288 fK:=okq func288
def mf:=cv (a:=gT f349 [[0],[0,3],[3,6,7,8],[3,6,7,8,9],[3,5,6,7,8],[3,5,6,7,8,14],[2],[3,6,7,8],[2]] [(.close [])])
def jb:aJ:=⟨18,mkC mf.1,[.tmp 2],.false,.false⟩
def nL:=cv (a:=lp mf.1 0)
def nG:aQ:=mkC nL.1
theorem B4:OkF 349 jb:=okq func349
def k9:=cv (a:=gT f350 [[0,1],[0,1,5],[0,1,5,6],[0,1,6,11],[12],[4],[4],[0,1,13],[4],[0,1,16],[4],[19],[4],[4]])
def en:aJ:=⟨20,mkC k9.1,[.tmp 4],.false,.false⟩
theorem qU:OkF 350 en:=okq func350
def mo:=cv (a:=gT f387 [[0],[2]])
def fL:aJ:=⟨6,mkC mo.1,[.tmp 2],.false,.false⟩
theorem to:OkF 387 fL:=okq func387
end Go.AI.So
set_option linter.unusedVariables false
set_option maxRecDepth 100000
namespace Go.AI.So
noncomputable def b51:List (Nat×a5a):=[(288,.code fK),(349,.code jb),(350,.code en),(387,.code fL)]
noncomputable def tab:Tab:=fun f=>dP b51 f
def owL:List (Nat×List Nat):=[]
def ow:ec:=fun f=>owg owL f
theorem b3H (f:Nat):ow f=owg owL f:=rfl
theorem c60:owL=[]:=rfl
attribute [go_sem] b3H c60
end Go.AI.So
set_option maxRecDepth 100000
namespace Go.AI.So
def Tj:List (Nat×a5a)→Prop
 |[]=>True
 |p::r=>((∃a,p.2= .code a∧OkF p.1 a)∨(∃g,p.2= .ext g∧NN Proofs.Tryz.prog p.1 g))∧Tj r
theorem a33:Tj b51:=⟨.inl ⟨_,rfl,tO⟩,.inl ⟨_,rfl,B4⟩,.inl ⟨_,rfl,qU⟩,.inl ⟨_,rfl,to⟩,trivial⟩
theorem okL: ∀{l:List (Nat×a5a)},Tj l→ ∀p∈l,(∃a,p.2= .code a∧OkF p.1 a)∨(∃g,p.2= .ext g∧NN Proofs.Tryz.prog p.1 g)
 |[],_,p,hp=>by cases hp
 |q::r,h,p,hp=>by
  rcases List.mem_cons.1 hp with rfl|hp
  ·exact h.1
  ·exact okL h.2 p hp
theorem Dd {α:Type}: ∀{l:List (Nat×α)} {k:Nat} {v:α},dP l k=some v→(k,v)∈l
 |[],_,_,h=>by cases h
 | (j,u)::r,k,v,h=>by
   simp only [dP] at h
   split at h
   ·rename_i e;cases h;subst e;simp
   ·exact List.mem_cons_of_mem _ (Dd h)
theorem tabOK:Ad Proofs.Tryz.prog tab:=by
 refine ⟨fun f af h=> ?_,fun f g h=> ?_⟩
 ·obtain ⟨a,h1,h2⟩|⟨a,h1,h2⟩:=okL a33 _ (Dd h)
  ·cases h1;exact h2
  ·cases h1
 ·obtain ⟨a,h1,h2⟩|⟨a,h1,h2⟩:=okL a33 _ (Dd h)
  ·cases h1
  ·cases h1;exact h2
end Go.AI.So
