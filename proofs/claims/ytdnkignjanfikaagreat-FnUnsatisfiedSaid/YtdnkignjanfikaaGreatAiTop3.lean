/- What an argument can be: lists. -/
import Derived.Test.YtdnkignjanfikaaGreatAiTop2
import Derived.Test.YtdnkignjanfikaaGreatAiLim
set_option linter.unusedVariables false
namespace Go.AI
section
variable {H:Type} {P:Program} {α:Type}
theorem UG {g:DataW H→Option (List V)} (e:En α) (hel: ∀d vs,g d=some vs→ ∃x,vs=e.enc x): ∀{es:List (DataW H)} {rows:List (List V)},AH g es=some rows→ ∃l:List α,rows=rws e l∧l.length=es.length
 |[],rows,h=>by cases h;exact ⟨[],rfl,rfl⟩
 |d::r,rows,h=>by
  simp only [AH] at h
  split at h
  ·rename_i a b h1 h2
   cases h
   obtain ⟨x,rfl⟩:=hel d a h1
   obtain ⟨l,rfl,hl⟩:=UG e hel h2
   exact ⟨x::l,rfl,by simp [hl]⟩
  ·cases h
theorem WN {n:Nat} {t et:TypeId} {d:DataW H} {vs:List V} (e:En α) (hu:P.underlying t=some (.slice et)) (hc:P.cellsOf et=e.esz)
 (hel: ∀(d:DataW H) vs,cm P n et d=some vs→ ∃x,vs=e.enc x) (h:cm P (n+1) t d=some vs): ∃l:List α,vs=[sl e l]∧l.length≤maxLen:=by
 cases d with
 |nil=>simp [cm,hu] at h;exact ⟨[],h.symm,by simp⟩
 |slice es c=>
  simp only [cm,hu] at h
  split at h
  ·rename_i hl
   split at h
   ·rename_i rows hr
    obtain ⟨l,rfl,hl'⟩:=UG e hel hr
    cases h
    rw [hc]
    exact ⟨l,rfl,by omega⟩
   ·cases h
  ·cases h
 |_=>simp [cm,hu] at h
theorem c0n {n:Nat} {t et:TypeId} {d:DataW H} {v:V} (e:En α) (hu:P.underlying t=some (.slice et)) (hc:P.cellsOf et=e.esz)
 (hel: ∀(d:DataW H) vs,cm P n et d=some vs→ ∃x,vs=e.enc x) (h:JV P (n+1) t d=some v): ∃l:List α,v=sl e l∧l.length≤maxLen:=by
 unfold JV at h
 split at h
 ·rename_i vs hd
  rw [hu] at h
  obtain ⟨l,rfl,hl⟩:=WN e hu hc hel hd
  cases h
  exact ⟨l,rfl,hl⟩
 ·cases h
theorem a9M {n:Nat} {t:TypeId} (hu:P.underlying t=some (.int .u8)) (d:DataW H) (vs:List V) (h:cm P (n+1) t d=some vs): ∃x:UInt8,vs=eU8.enc x:=by
 obtain ⟨m,rfl,hw,_⟩:=Je hu h
 have h01:0≤m∧m<256:=by
  simp [Lit.wf,IntKind.min,IntKind.max,IntKind.signed,IntKind.bits] at hw
  omega
 refine ⟨UInt8.ofNat m.toNat, ?_⟩
 have:((UInt8.ofNat m.toNat).toNat:Int)=m:=by simp;omega
 show [V.lit (.int .u8 m)]=[V.lit (.int .u8 ((UInt8.ofNat m.toNat).toNat:Int))]
 rw [this]
end
end Go.AI
set_option linter.unusedVariables false
namespace Go.AI
open Go.RowKit Go.ChangeShapes
def bdI (x:Int):Prop:= -9223372036854775808≤x∧x≤9223372036854775807
def bdS (x:List UInt8):Prop:=x.length≤9223372036854775807
def bdT {α:Type} (x:α):Prop:=True
def bdL {α:Type} (p:α→Prop) (l:List α):Prop:=l.length≤9223372036854775807∧ ∀x∈l,p x
section
variable {P:Program} {H:Type} {n:Nat} {t et:TypeId} {d:DataW H} {vs:List V} {v:V} {α:Type}
theorem c42 (hu:P.underlying t=some (.int .i64)) (h:cm P (n+1) t d=some vs): ∃x:Int,vs=eI.enc x∧bdI x:=by
 obtain ⟨m,rfl,hw,_⟩:=Je hu h
 refine ⟨m,rfl, ?_⟩
 simp [Lit.wf,IntKind.min,IntKind.max,IntKind.signed,IntKind.bits] at hw
 exact ⟨by omega,by omega⟩
theorem c3f (hu:P.underlying t=some (.int .u8)) (h:cm P (n+1) t d=some vs): ∃x:UInt8,vs=eU8.enc x∧bdT x:=by
 obtain ⟨x,hx⟩:=a9M hu d vs h
 exact ⟨x,hx,trivial⟩
theorem c40 (hu:P.underlying t=some .string) (h:cm P (n+1) t d=some vs): ∃x:List UInt8,vs=eS.enc x∧bdS x:=by
 cases d with
 |lit l=>
  cases l with
  |string bs=>
   simp only [cm,hu] at h
   split at h
   ·rename_i hc;cases h;exact ⟨bs,by simp [eS,S],Nat.le_trans hc (by decide)⟩
   ·cases h
  |_=>simp [cm,hu] at h
 |_=>simp [cm,hu] at h
theorem c3A (hu:P.underlying t=some .bool) (h:cm P (n+1) t d=some vs): ∃x:Bool,vs=eB.enc x∧bdT x:=by
 cases d with
 |lit l=>
  cases l with
  |bool b=>simp only [cm,hu] at h;cases h;exact ⟨b,rfl,trivial⟩
  |_=>simp [cm,hu] at h
 |_=>simp [cm,hu] at h
theorem Rr (e:En α) (p:α→Prop) {g:DataW H→Option (List V)} (hg: ∀d vs,g d=some vs→ ∃x,vs=e.enc x∧p x): ∀{ds:List (DataW H)} {rows:List (List V)},AH g ds=some rows→ ∃l:List α,rows=rws e l∧l.length=ds.length∧ ∀x∈l,p x
 |[],rows,h=>by simp [AH] at h;subst h;exact ⟨[],rfl,rfl,fun x hx=>by cases hx⟩
 |d::ds,rows,h=>by
  simp only [AH] at h
  split at h
  ·rename_i vs r h1 h2
   cases h
   obtain ⟨x,rfl,hx⟩:=hg d vs h1
   obtain ⟨l,rfl,hl,hp⟩:=Rr e p hg h2
   exact ⟨x::l,rfl,by simp [hl],fun y hy=>by rcases List.mem_cons.1 hy with rfl|hy;exact hx;exact hp y hy⟩
  ·cases h
theorem a8L (e:En α) (p:α→Prop) (hu:P.underlying t=some (.slice et)) (hc:P.cellsOf et=e.esz) (hel: ∀(d:DataW H) vs,cm P n et d=some vs→ ∃x,vs=e.enc x∧p x) (h:cm P (n+1) t d=some vs):
 ∃l:List α,vs=(eL e).enc l∧bdL p l:=by
 cases d with
 |nil=>simp [cm,hu] at h;exact ⟨[],h.symm,by simp,fun x hx=>by cases hx⟩
 |slice es c=>
  simp only [cm,hu] at h
  split at h
  ·rename_i hl
   split at h
   ·rename_i rows hr
    cases h
    obtain ⟨l,rfl,hll,hp⟩:=Rr e p hel hr
    refine ⟨l, ?_,by rw [hll];exact Nat.le_trans hl (by decide),hp⟩
    rw [hc];rfl
   ·cases h
  ·cases h
 |_=>simp [cm,hu] at h
theorem c1f {e:En α} {p:α→Prop} {fs:Array Field} (hu:P.underlying t=some (.struct fs)) (hd: ∀vs,cm P n t d=some vs→ ∃x,vs=e.enc x∧p x) (h:JV P n t d=some v): ∃x:α,v= .agg (e.enc x)∧p x:=by
 obtain ⟨vs,rfl,h2⟩:=V0 hu h
 obtain ⟨x,rfl,hx⟩:=hd vs h2
 exact ⟨x,rfl,hx⟩
theorem b0u {e:En α} {p:α→Prop} {c:α→V} (hc: ∀x,e.enc x=[c x]) {u:TypeDesc} (hu:P.underlying t=some u) (h1: ∀fs,u≠ .struct fs) (h2: ∀k e,u≠ .array k e) (hd: ∀vs,cm P n t d=some vs→ ∃x,vs=e.enc x∧p x) (h:JV P n t d=some v): ∃x:α,v=c x∧p x:=by
 unfold JV at h
 split at h
 ·rename_i vs hv
  obtain ⟨x,rfl,hx⟩:=hd vs hv
  rw [hu] at h
  have e1:((e.enc x).head?:Option V)=some v:=by
   cases u<;>first|exact h|exact absurd rfl (h1 _)|exact absurd rfl (h2 _ _)
  rw [hc] at e1
  cases e1
  exact ⟨x,rfl,hx⟩
 ·cases h
end
end Go.AI
