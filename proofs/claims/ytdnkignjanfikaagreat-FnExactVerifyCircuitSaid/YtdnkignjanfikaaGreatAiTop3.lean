/- What an argument can be: lists. -/
import Derived.Test.YtdnkignjanfikaaGreatAiTop2
import Derived.Test.YtdnkignjanfikaaGreatAiLim
set_option linter.unusedVariables false
namespace Go.AI
section
section
variable {H:Type} {P:Program} {α:Type}
end
end
section
open Go.RowKit Go.ChangeShapes
def bdI (x:Int):Prop:= -9223372036854775808<=x/\x<=9223372036854775807
def bdS (x:List UInt8):Prop:=x.length<=9223372036854775807
def bdT {α:Type} (x:α):Prop:=True
def bdL {α:Type} (p:α->Prop) (l:List α):Prop:=l.length<=9223372036854775807/\ ∀x∈l,p x
section
variable {P:Program} {H:Type} {n:Nat} {t et:TypeId} {d:DataW H} {vs:List V} {v:V} {α:Type}
theorem c2l (hu:P.underlying t=some (.int .i64)) (h:dE P (n+1) t d=some vs): ∃x:Int,vs=eI.enc x/\bdI x:=by
 obtain ⟨m,rfl,hw,_⟩:=b04 hu h
 refine ⟨m,rfl, ?_⟩
 simp [Lit.wf,IntKind.min,IntKind.max,IntKind.signed,IntKind.bits] at hw
 exact ⟨by omega,by omega⟩
theorem c2D (hu:P.underlying t=some .string) (h:dE P (n+1) t d=some vs): ∃x:List UInt8,vs=eS.enc x/\bdS x:=by
 cases d with
 |lit l=>
  cases l with
  |string bs=>
   simp only [dE,hu] at h
   split at h
   ·rename_i hc;cases h;exact ⟨bs,by simp [eS,S],ed hc (by decide)⟩
   ·cases h
  |_=>simp [dE,hu] at h
 |_=>simp [dE,hu] at h
theorem X6 (e:En α) (p:α->Prop) {g:DataW H->Option (List V)} (hg: ∀d vs,g d=some vs-> ∃x,vs=e.enc x/\p x): ∀{ds:List (DataW H)} {rows:List (List V)},Jg g ds=some rows-> ∃l:List α,rows=rws e l/\l.length=ds.length/\ ∀x∈l,p x
 |[],rows,h=>by simp [Jg] at h;subst h;exact ⟨[],rfl,rfl,fun x hx=>by cases hx⟩
 |d::ds,rows,h=>by
  simp only [Jg] at h
  split at h
  ·rename_i vs r h1 h2
   cases h
   obtain ⟨x,rfl,hx⟩:=hg d vs h1
   obtain ⟨l,rfl,hl,hp⟩:=X6 e p hg h2
   exact ⟨x::l,rfl,by simp [hl],fun y hy=>by rcases bc.1 hy with rfl|hy;exact hx;exact hp y hy⟩
  ·cases h
theorem yI (e:En α) (p:α->Prop) (hu:P.underlying t=some (.slice et)) (hc:P.cellsOf et=e.esz) (hel: ∀(d:DataW H) vs,dE P n et d=some vs-> ∃x,vs=e.enc x/\p x) (h:dE P (n+1) t d=some vs):
 ∃l:List α,vs=(eL e).enc l/\bdL p l:=by
 cases d with
 |nil=>simp [dE,hu] at h;exact ⟨[],h.symm,by simp,fun x hx=>by cases hx⟩
 |slice es c=>
  simp only [dE,hu] at h
  split at h
  ·rename_i hl
   split at h
   ·rename_i rows hr
    cases h
    obtain ⟨l,rfl,hll,hp⟩:=X6 e p hel hr
    refine ⟨l, ?_,by rw [hll];exact ed hl (by decide),hp⟩
    rw [hc];rfl
   ·cases h
  ·cases h
 |_=>simp [dE,hu] at h
theorem Ht {e:En α} {p:α->Prop} {fs:Array Field} (hu:P.underlying t=some (.struct fs)) (hd: ∀vs,dE P n t d=some vs-> ∃x,vs=e.enc x/\p x) (h:a1x P n t d=some v): ∃x:α,v= .agg (e.enc x)/\p x:=by
 obtain ⟨vs,rfl,h2⟩:=a1K hu h
 obtain ⟨x,rfl,hx⟩:=hd vs h2
 exact ⟨x,rfl,hx⟩
theorem c0R {e:En α} {p:α->Prop} {c:α->V} (hc: ∀x,e.enc x=[c x]) {u:TypeDesc} (hu:P.underlying t=some u) (h1: ∀fs,u≠ .struct fs) (h2: ∀k e,u≠ .array k e) (hd: ∀vs,dE P n t d=some vs-> ∃x,vs=e.enc x/\p x) (h:a1x P n t d=some v): ∃x:α,v=c x/\p x:=by
 unfold a1x at h
 split at h
 ·rename_i vs hv
  obtain ⟨x,rfl,hx⟩:=hd vs hv
  rw [hu] at h
  have e1:((e.enc x).head?:Option V)=some v:=by
   cases u<;>first|exact h|exact absurd rfl (h1 _)|exact absurd rfl (h2 _ _)
  rw [hc] at e1
  cases e1
  exact ⟨x,rfl,hx⟩
 ·cases h
end
end
end Go.AI
