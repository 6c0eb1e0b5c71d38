/- Part. -/
import Derived.Test.YtdnkignjanfikaaGreatAiTop2
set_option linter.unusedVariables false
namespace Go.AI
section
section
variable {H:Type} {P:Program} {α:Type}
theorem b2s {n:Nat} {t:TypeId} (a:P.underlying t=some (.int .u8)) (d:DataW H) (vs:List V) (h:kE P (n+1) t d=some vs): ∃x:UInt8,vs=eU8.enc x:=by
 obtain ⟨m,rfl,b,_⟩:=a8E a h
 have c:0<=m/\m<256:=by
  simp [Lit.wf,IntKind.min,IntKind.max,IntKind.signed,IntKind.bits] at b
  omega
 refine ⟨UInt8.ofNat m.toNat, ?_⟩
 have:((UInt8.ofNat m.toNat).toNat:Int)=m:=by simp;omega
 show [V.lit (.int .u8 m)]=[V.lit (.int .u8 ((UInt8.ofNat m.toNat).toNat:Int))]
 rw [this]
end
end
section
open Go.RowKit Go.ChangeShapes
def bdI (x:Int):Prop:= -9223372036854775808<=x/\x<=9223372036854775807
def bdS (x:List UInt8):Prop:=x.length<=9223372036854775807
def bdT {α:Type} (x:α):Prop:=True
def bdL {α:Type} (p:α->Prop) (l:List α):Prop:=l.length<=9223372036854775807/\ ∀x∈l,p x
section
variable {P:Program} {H:Type} {n:Nat} {t et:TypeId} {d:DataW H} {vs:List V} {v:V} {α:Type}
theorem c5P (a:P.underlying t=some (.int .u8)) (h:kE P (n+1) t d=some vs): ∃x:UInt8,vs=eU8.enc x/\bdT x:=by
 obtain ⟨x,b⟩:=b2s a d vs h
 exact ⟨x,b,trivial⟩
theorem V4 (e:En α) (p:α->Prop) {g:DataW H->Option (List V)} (hg: ∀d vs,g d=some vs-> ∃x,vs=e.enc x/\p x): ∀{ds:List (DataW H)} {rows:List (List V)},IY g ds=some rows-> ∃l:List α,rows=rws e l/\l.length=ds.length/\ ∀x∈l,p x
 |[],rows,h=>by simp [IY] at h;subst h;exact ⟨[],rfl,rfl,fun x hx=>by cases hx⟩
 |d::ds,rows,h=>by
  simp only [IY] at h
  split at h
  ·rename_i vs r h1 h2
   cases h
   obtain ⟨x,rfl,hx⟩:=hg d vs h1
   obtain ⟨l,rfl,hl,hp⟩:=V4 e p hg h2
   exact ⟨x::l,rfl,by simp [hl],fun y hy=>by rcases aW.1 hy with rfl|hy;exact hx;exact hp y hy⟩
  ·cases h
theorem b0J (e:En α) (p:α->Prop) (a:P.underlying t=some (.slice et)) (hc:P.cellsOf et=e.esz) (b: ∀(d:DataW H) vs,kE P n et d=some vs-> ∃x,vs=e.enc x/\p x) (h:kE P (n+1) t d=some vs):
 ∃l:List α,vs=(eL e).enc l/\bdL p l:=by
 cases d with
 |nil=>simp [kE,a] at h;exact ⟨[],h.symm,by simp,fun x i=>by cases i⟩
 |slice es c=>
  simp only [kE,a] at h
  split at h
  ·rename_i j
   split at h
   ·rename_i rows k
    cases h
    obtain ⟨l,rfl,f,m⟩:=V4 e p b k
    refine ⟨l, ?_,by rw [f];exact fT j dcd,m⟩
    rw [hc];rfl
   ·cases h
  ·cases h
 |_=>simp [kE,a] at h
theorem b0p {e:En α} {p:α->Prop} {c:α->V} (hc: ∀x,e.enc x=[c x]) {u:TypeDesc} (a:P.underlying t=some u) (b: ∀fs,u≠ .struct fs) (f: ∀k e,u≠ .array k e) (i: ∀vs,kE P n t d=some vs-> ∃x,vs=e.enc x/\p x) (h:a8f P n t d=some v): ∃x:α,v=c x/\p x:=by
 unfold a8f at h
 split at h
 ·rename_i vs j
  obtain ⟨x,rfl,l⟩:=i vs j
  rw [a] at h
  have e1:((e.enc x).head?:Option V)=some v:=by
   cases u<;>first|exact h|exact absurd rfl (b _)|exact absurd rfl (f _ _)
  rw [hc] at e1
  cases e1
  exact ⟨x,rfl,l⟩
 ·cases h
end
end
end Go.AI
