/- Part. -/
import Derived.Test.YtdnkignjanfikaaGreatAiTop2
set_option linter.unusedVariables false
namespace Go.AI
section
section
variable {H:Type} {P:Program} {α:Type}
end
end
section
open Go.RowKit Go.ChangeShapes
def bdI (x:Int):Prop:= -9223372036854775808<=x/\x<=9223372036854775807
def bdS (x:List UInt8):Prop:=x.length<=9223372036854775807
def bdT {α:Type} (x:α):Prop:=True
def bdL {α:Type} (p:α->Prop) (l:List α):Prop:=l.length<=9223372036854775807/\ ∀x∈l,p x
section
variable {P:Program} {H:Type} {n:Nat} {t et:TypeId} {d:DataW H} {vs:List V} {v:V} {α:Type}
theorem c6o (a:P.underlying t=some (.int .i64)) (h:dE P (n+1) t d=some vs): ∃x:Int,vs=eI.enc x/\bdI x:=by
 obtain ⟨m,rfl,b,_⟩:=b0J a h
 refine ⟨m,rfl, ?_⟩
 simp [Lit.wf,IntKind.min,IntKind.max,IntKind.signed,IntKind.bits] at b
 exact ⟨by omega,by omega⟩
theorem c44 (a:P.underlying t=some .string) (h:dE P (n+1) t d=some vs): ∃x:List UInt8,vs=eS.enc x/\bdS x:=by
 cases d with
 |lit l=>
  cases l with
  |string bs=>
   simp only [dE,a] at h
   split at h
   ·rename_i hc;cases h;exact ⟨bs,by simp [eS,S],e7 hc (by decide)⟩
   ·cases h
  |_=>simp [dE,a] at h
 |_=>simp [dE,a] at h
theorem Vx (e:En α) (p:α->Prop) {g:DataW H->Option (List V)} (hg: ∀d vs,g d=some vs-> ∃x,vs=e.enc x/\p x): ∀{ds:List (DataW H)} {rows:List (List V)},J3 g ds=some rows-> ∃l:List α,rows=rws e l/\l.length=ds.length/\ ∀x∈l,p x
 |[],rows,h=>by simp [J3] at h;subst h;exact ⟨[],rfl,rfl,fun x hx=>by cases hx⟩
 |d::ds,rows,h=>by
  simp only [J3] at h
  split at h
  ·rename_i vs r h1 h2
   cases h
   obtain ⟨x,rfl,hx⟩:=hg d vs h1
   obtain ⟨l,rfl,hl,hp⟩:=Vx e p hg h2
   exact ⟨x::l,rfl,by simp [hl],fun y hy=>by rcases b9.1 hy with rfl|hy;exact hx;exact hp y hy⟩
  ·cases h
theorem y3 (e:En α) (p:α->Prop) (a:P.underlying t=some (.slice et)) (hc:P.cellsOf et=e.esz) (b: ∀(d:DataW H) vs,dE P n et d=some vs-> ∃x,vs=e.enc x/\p x) (h:dE P (n+1) t d=some vs):
 ∃l:List α,vs=(eL e).enc l/\bdL p l:=by
 cases d with
 |nil=>simp [dE,a] at h;exact ⟨[],h.symm,by simp,fun x i=>by cases i⟩
 |slice es c=>
  simp only [dE,a] at h
  split at h
  ·rename_i j
   split at h
   ·rename_i rows k
    cases h
    obtain ⟨l,rfl,f,m⟩:=Vx e p b k
    refine ⟨l, ?_,by rw [f];exact e7 j (by decide),m⟩
    rw [hc];rfl
   ·cases h
  ·cases h
 |_=>simp [dE,a] at h
theorem GZ {e:En α} {p:α->Prop} {fs:Array Field} (a:P.underlying t=some (.struct fs)) (b: ∀vs,dE P n t d=some vs-> ∃x,vs=e.enc x/\p x) (h:Xm P n t d=some v): ∃x:α,v= .agg (e.enc x)/\p x:=by
 obtain ⟨vs,rfl,c⟩:=a2w a h
 obtain ⟨x,rfl,f⟩:=b vs c
 exact ⟨x,rfl,f⟩
theorem c61 {e:En α} {p:α->Prop} {c:α->V} (hc: ∀x,e.enc x=[c x]) {u:TypeDesc} (a:P.underlying t=some u) (b: ∀fs,u≠ .struct fs) (f: ∀k e,u≠ .array k e) (i: ∀vs,dE P n t d=some vs-> ∃x,vs=e.enc x/\p x) (h:Xm P n t d=some v): ∃x:α,v=c x/\p x:=by
 unfold Xm at h
 split at h
 ·rename_i vs j
  obtain ⟨x,rfl,l⟩:=i vs j
  rw [a] at h
  have e1:((e.enc x).head?:Option V)=some v:=by
   cases u<;>first|exact h|exact absurd rfl (b _)|exact absurd rfl (f _ _)
  rw [hc] at e1
  cases e1
  exact ⟨x,rfl,l⟩
 ·cases h
end
end
end Go.AI
