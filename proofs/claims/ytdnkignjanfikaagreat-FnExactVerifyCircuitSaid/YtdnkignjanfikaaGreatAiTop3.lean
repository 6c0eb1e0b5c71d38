/- Part. -/
import Derived.Test.YtdnkignjanfikaaGreatAiTop2
set_option linter.unusedVariables false
namespace Go.AI
section
section
variable {H:Type} {P:Program} {α:Type}
end
end
section
open Go.RowKit Go.ChangeShapes
def bdI (x:Int):Prop:= -9223372036854775808<=x/\x<=9223372036854775807
def bdS (x:List UInt8):Prop:=x.length<=9223372036854775807
def bdT {α:Type} (x:α):Prop:=True
def bdL {α:Type} (p:α->Prop) (l:List α):Prop:=l.length<=9223372036854775807/\ ∀x∈l,p x
section
variable {P:Program} {H:Type} {n:Nat} {t et:TypeId} {d:DataW H} {vs:List V} {v:V} {α:Type}
theorem c4T (a:P.underlying t=some (.int .i64)) (h:dE P (n+1) t d=some vs): ∃x:Int,vs=eI.enc x/\bdI x:=by
 obtain ⟨m,rfl,b,_⟩:=a8M a h
 refine ⟨m,rfl, ?_⟩
 simp [Lit.wf,IntKind.min,IntKind.max,IntKind.signed,IntKind.bits] at b
 exact ⟨by omega,by omega⟩
theorem c4w (a:P.underlying t=some .string) (h:dE P (n+1) t d=some vs): ∃x:List UInt8,vs=eS.enc x/\bdS x:=by
 cases d with
 |lit l=>
  cases l with
  |string bs=>
   simp only [dE,a] at h
   split at h
   ·rename_i b;cases h;exact ⟨bs,by simp [eS,S],e7 b (by decide)⟩
   ·cases h
  |_=>simp [dE,a] at h
 |_=>simp [dE,a] at h
theorem Vp (e:En α) (p:α->Prop) {g:DataW H->Option (List V)} (c: ∀d vs,g d=some vs-> ∃x,vs=e.enc x/\p x): ∀{ds:List (DataW H)} {rows:List (List V)},IF g ds=some rows-> ∃l:List α,rows=rws e l/\l.length=ds.length/\ ∀x∈l,p x
 |[],rows,h=>by simp [IF] at h;subst h;exact ⟨[],rfl,rfl,fun x a=>by cases a⟩
 |d::ds,rows,h=>by
  simp only [IF] at h
  split at h
  ·rename_i vs r f i
   cases h
   obtain ⟨x,rfl,a⟩:=c d vs f
   obtain ⟨l,rfl,j,k⟩:=Vp e p c i
   exact ⟨x::l,rfl,by simp [j],fun y b=>by rcases b9.1 b with rfl|b;exact a;exact k y b⟩
  ·cases h
theorem yI (e:En α) (p:α->Prop) (a:P.underlying t=some (.slice et)) (i:P.cellsOf et=e.esz) (b: ∀(d:DataW H) vs,dE P n et d=some vs-> ∃x,vs=e.enc x/\p x) (h:dE P (n+1) t d=some vs):
 ∃l:List α,vs=(eL e).enc l/\bdL p l:=by
 cases d with
 |nil=>simp [dE,a] at h;exact ⟨[],h.symm,by simp,fun x j=>by cases j⟩
 |slice es c=>
  simp only [dE,a] at h
  split at h
  ·rename_i k
   split at h
   ·rename_i rows m
    cases h
    obtain ⟨l,rfl,f,o⟩:=Vp e p b m
    refine ⟨l, ?_,by rw [f];exact e7 k (by decide),o⟩
    rw [i];rfl
   ·cases h
  ·cases h
 |_=>simp [dE,a] at h
theorem Hh {e:En α} {p:α->Prop} {fs:Array Field} (a:P.underlying t=some (.struct fs)) (b: ∀vs,dE P n t d=some vs-> ∃x,vs=e.enc x/\p x) (h:XD P n t d=some v): ∃x:α,v= .agg (e.enc x)/\p x:=by
 obtain ⟨vs,rfl,c⟩:=a37 a h
 obtain ⟨x,rfl,f⟩:=b vs c
 exact ⟨x,rfl,f⟩
theorem c6g {e:En α} {p:α->Prop} {c:α->V} (b: ∀x,e.enc x=[c x]) {u:TypeDesc} (f:P.underlying t=some u) (i: ∀fs,u≠ .struct fs) (j: ∀k e,u≠ .array k e) (l: ∀vs,dE P n t d=some vs-> ∃x,vs=e.enc x/\p x) (h:XD P n t d=some v): ∃x:α,v=c x/\p x:=by
 unfold XD at h
 split at h
 ·rename_i vs m
  obtain ⟨x,rfl,o⟩:=l vs m
  rw [f] at h
  a e1:((e.enc x).head?:Option V)=some v:=by
    cases u<;>first|exact h|exact absurd rfl (i _)|exact absurd rfl (j _ _)
  rw [b] at e1
  cases e1
  exact ⟨x,rfl,o⟩
 ·cases h
end
end
end Go.AI
