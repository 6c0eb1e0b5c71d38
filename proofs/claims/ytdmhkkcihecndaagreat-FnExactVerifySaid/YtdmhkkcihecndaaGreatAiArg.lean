/- What a row's arguments are: Lean's own values, within bounds. -/
import Derived.Test.YtdmhkkcihecndaaGreatAiTop3
set_option linter.unusedVariables false
namespace Go.AI
open Go.RowKit Go.ChangeShapes
def bdI (x:Int):Prop:= -9223372036854775808≤x∧x≤9223372036854775807
def bdS (x:List UInt8):Prop:=x.length≤9223372036854775807
def bdT {α:Type} (x:α):Prop:=True
def bdL {α:Type} (p:α→Prop) (l:List α):Prop:=l.length≤9223372036854775807∧ ∀x∈l,p x
section
variable {P:Program} {H:Type} {n:Nat} {t et:TypeId} {d:DataW H} {vs:List V} {v:V} {α:Type}
theorem b3b (hu:P.underlying t=some (.int .i64)) (h:bx P (n+1) t d=some vs): ∃x:Int,vs=eI.enc x∧bdI x:=by
 obtain ⟨m,rfl,hw,_⟩:=PV hu h
 refine ⟨m,rfl, ?_⟩
 simp [Lit.wf,IntKind.min,IntKind.max,IntKind.signed,IntKind.bits] at hw
 exact ⟨by omega,by omega⟩
theorem b6Y (hu:P.underlying t=some (.int .u8)) (h:bx P (n+1) t d=some vs): ∃x:UInt8,vs=eU8.enc x∧bdT x:=by
 obtain ⟨x,hx⟩:=a3C hu d vs h
 exact ⟨x,hx,trivial⟩
theorem b28 (hu:P.underlying t=some .string) (h:bx P (n+1) t d=some vs): ∃x:List UInt8,vs=eS.enc x∧bdS x:=by
 cases d with
 |lit l=>
  cases l with
  |string bs=>
   simp only [bx,hu] at h
   split at h
   ·rename_i hc;cases h;exact ⟨bs,by simp [eS,S],Nat.le_trans hc (by decide)⟩
   ·cases h
  |_=>simp [bx,hu] at h
 |_=>simp [bx,hu] at h
theorem b6z (hu:P.underlying t=some .bool) (h:bx P (n+1) t d=some vs): ∃x:Bool,vs=eB.enc x∧bdT x:=by
 cases d with
 |lit l=>
  cases l with
  |bool b=>simp only [bx,hu] at h;cases h;exact ⟨b,rfl,trivial⟩
  |_=>simp [bx,hu] at h
 |_=>simp [bx,hu] at h
theorem PW (e:En α) (p:α→Prop) {g:DataW H→Option (List V)} (hg: ∀d vs,g d=some vs→ ∃x,vs=e.enc x∧p x): ∀{ds:List (DataW H)} {rows:List (List V)},yW g ds=some rows→ ∃l:List α,rows=rws e l∧l.length=ds.length∧ ∀x∈l,p x
 |[],rows,h=>by simp [yW] at h;subst h;exact ⟨[],rfl,rfl,fun x hx=>by cases hx⟩
 |d::ds,rows,h=>by
  simp only [yW] at h
  split at h
  ·rename_i vs r h1 h2
   cases h
   obtain ⟨x,rfl,hx⟩:=hg d vs h1
   obtain ⟨l,rfl,hl,hp⟩:=PW e p hg h2
   exact ⟨x::l,rfl,by simp [hl],fun y hy=>by rcases List.mem_cons.1 hy with rfl|hy;exact hx;exact hp y hy⟩
  ·cases h
theorem tm (e:En α) (p:α→Prop) (hu:P.underlying t=some (.slice et)) (hc:P.cellsOf et=e.esz) (hel: ∀(d:DataW H) vs,bx P n et d=some vs→ ∃x,vs=e.enc x∧p x) (h:bx P (n+1) t d=some vs):
 ∃l:List α,vs=(eL e).enc l∧bdL p l:=by
 cases d with
 |nil=>simp [bx,hu] at h;exact ⟨[],h.symm,by simp,fun x hx=>by cases hx⟩
 |slice es c=>
  simp only [bx,hu] at h
  split at h
  ·rename_i hl
   split at h
   ·rename_i rows hr
    cases h
    obtain ⟨l,rfl,hll,hp⟩:=PW e p hel hr
    refine ⟨l, ?_,by rw [hll];exact Nat.le_trans hl (by decide),hp⟩
    rw [hc];rfl
   ·cases h
  ·cases h
 |_=>simp [bx,hu] at h
theorem Bg {e:En α} {p:α→Prop} {fs:Array Field} (hu:P.underlying t=some (.struct fs)) (hd: ∀vs,bx P n t d=some vs→ ∃x,vs=e.enc x∧p x) (h:Pk P n t d=some v): ∃x:α,v= .agg (e.enc x)∧p x:=by
 obtain ⟨vs,rfl,h2⟩:=X7 hu h
 obtain ⟨x,rfl,hx⟩:=hd vs h2
 exact ⟨x,rfl,hx⟩
theorem b2o {e:En α} {p:α→Prop} {c:α→V} (hc: ∀x,e.enc x=[c x]) {u:TypeDesc} (hu:P.underlying t=some u) (h1: ∀fs,u≠ .struct fs) (h2: ∀k e,u≠ .array k e) (hd: ∀vs,bx P n t d=some vs→ ∃x,vs=e.enc x∧p x) (h:Pk P n t d=some v): ∃x:α,v=c x∧p x:=by
 unfold Pk at h
 split at h
 ·rename_i vs hv
  obtain ⟨x,rfl,hx⟩:=hd vs hv
  rw [hu] at h
  have e1:((e.enc x).head?:Option V)=some v:=by
   cases u<;>first|exact h|exact absurd rfl (h1 _)|exact absurd rfl (h2 _ _)
  rw [hc] at e1
  cases e1
  exact ⟨x,rfl,hx⟩
 ·cases h
end
end Go.AI
