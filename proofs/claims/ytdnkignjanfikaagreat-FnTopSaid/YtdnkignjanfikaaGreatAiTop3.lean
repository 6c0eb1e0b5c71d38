/- Part. -/
import Derived.Test.YtdnkignjanfikaaGreatAiTop2
set_option linter.unusedVariables false
namespace Go.AI
section
section
variable {H:Type} {P:Program} {α:Type}
theorem b49 {n:Nat} {t:TypeId} (a:P.underlying t=some (.int .u8)) (d:DataW H) (vs:List V) (h:kD P (n+1) t d=some vs): ∃x:UInt8,vs=eU8.enc x:=by
 obtain ⟨m,rfl,b,_⟩:=a8P a h
 have c:0<=m/\m<256:=by
  simp [Lit.wf,IntKind.min,IntKind.max,IntKind.signed,IntKind.bits] at b
  omega
 refine ⟨UInt8.ofNat m.toNat, ?_⟩
 have:((UInt8.ofNat m.toNat).toNat:Int)=m:=by simp;omega
 show [V.lit (.int .u8 m)]=[V.lit (.int .u8 ((UInt8.ofNat m.toNat).toNat:Int))]
 rw [this]
end
end
section
open Go.RowKit Go.ChangeShapes
def bdI (x:Int):Prop:= -9223372036854775808<=x/\x<=9223372036854775807
def bdS (x:List UInt8):Prop:=x.length<=9223372036854775807
def bdT {α:Type} (x:α):Prop:=True
def bdL {α:Type} (p:α->Prop) (l:List α):Prop:=l.length<=9223372036854775807/\ ∀x∈l,p x
section
variable {P:Program} {H:Type} {n:Nat} {t et:TypeId} {d:DataW H} {vs:List V} {v:V} {α:Type}
theorem c54 (a:P.underlying t=some (.int .u8)) (h:kD P (n+1) t d=some vs): ∃x:UInt8,vs=eU8.enc x/\bdT x:=by
 obtain ⟨x,b⟩:=b49 a d vs h
 exact ⟨x,b,trivial⟩
theorem VF (e:En α) (p:α->Prop) {g:DataW H->Option (List V)} (hg: ∀d vs,g d=some vs-> ∃x,vs=e.enc x/\p x): ∀{ds:List (DataW H)} {rows:List (List V)},IQ g ds=some rows-> ∃l:List α,rows=rws e l/\l.length=ds.length/\ ∀x∈l,p x
 |[],rows,h=>by simp [IQ] at h;subst h;exact ⟨[],rfl,rfl,fun x hx=>by cases hx⟩
 |d::ds,rows,h=>by
  simp only [IQ] at h
  split at h
  ·rename_i vs r h1 h2
   cases h
   obtain ⟨x,rfl,hx⟩:=hg d vs h1
   obtain ⟨l,rfl,hl,hp⟩:=VF e p hg h2
   exact ⟨x::l,rfl,by simp [hl],fun y hy=>by rcases aW.1 hy with rfl|hy;exact hx;exact hp y hy⟩
  ·cases h
theorem b0T (e:En α) (p:α->Prop) (a:P.underlying t=some (.slice et)) (hc:P.cellsOf et=e.esz) (b: ∀(d:DataW H) vs,kD P n et d=some vs-> ∃x,vs=e.enc x/\p x) (h:kD P (n+1) t d=some vs):
 ∃l:List α,vs=(eL e).enc l/\bdL p l:=by
 cases d with
 |nil=>simp [kD,a] at h;exact ⟨[],h.symm,by simp,fun x i=>by cases i⟩
 |slice es c=>
  simp only [kD,a] at h
  split at h
  ·rename_i j
   split at h
   ·rename_i rows k
    cases h
    obtain ⟨l,rfl,f,m⟩:=VF e p b k
    refine ⟨l, ?_,by rw [f];exact fW j dcd,m⟩
    rw [hc];rfl
   ·cases h
  ·cases h
 |_=>simp [kD,a] at h
theorem b0X {e:En α} {p:α->Prop} {c:α->V} (hc: ∀x,e.enc x=[c x]) {u:TypeDesc} (a:P.underlying t=some u) (b: ∀fs,u≠ .struct fs) (f: ∀k e,u≠ .array k e) (i: ∀vs,kD P n t d=some vs-> ∃x,vs=e.enc x/\p x) (h:a7h P n t d=some v): ∃x:α,v=c x/\p x:=by
 unfold a7h at h
 split at h
 ·rename_i vs j
  obtain ⟨x,rfl,l⟩:=i vs j
  rw [a] at h
  have e1:((e.enc x).head?:Option V)=some v:=by
   cases u<;>first|exact h|exact absurd rfl (b _)|exact absurd rfl (f _ _)
  rw [hc] at e1
  cases e1
  exact ⟨x,rfl,l⟩
 ·cases h
end
end
end Go.AI
