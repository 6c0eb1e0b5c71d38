/- What an argument can be: lists. -/
import Derived.Test.YtdmhkkcihecndaaGreatAiTop2
import Derived.Test.YtdmhkkcihecndaaGreatAiTyp
set_option linter.unusedVariables false
namespace Go.AI
section
variable {H:Type} {P:Program} {α:Type}
theorem X9 {g:DataW H→Option (List V)} (e:En α) (hel: ∀d vs,g d=some vs→ ∃x,vs=e.enc x): ∀{es:List (DataW H)} {rows:List (List V)},yW g es=some rows→ ∃l:List α,rows=rws e l∧l.length=es.length
 |[],rows,h=>by cases h;exact ⟨[],rfl,rfl⟩
 |d::r,rows,h=>by
  simp only [yW] at h
  split at h
  ·rename_i a b h1 h2
   cases h
   obtain ⟨x,rfl⟩:=hel d a h1
   obtain ⟨l,rfl,hl⟩:=X9 e hel h2
   exact ⟨x::l,rfl,by simp [hl]⟩
  ·cases h
theorem WQ {n:Nat} {t et:TypeId} {d:DataW H} {vs:List V} (e:En α) (hu:P.underlying t=some (.slice et)) (hc:P.cellsOf et=e.esz)
 (hel: ∀(d:DataW H) vs,bx P n et d=some vs→ ∃x,vs=e.enc x) (h:bx P (n+1) t d=some vs): ∃l:List α,vs=[sl e l]∧l.length≤maxLen:=by
 cases d with
 |nil=>simp [bx,hu] at h;exact ⟨[],h.symm,by simp⟩
 |slice es c=>
  simp only [bx,hu] at h
  split at h
  ·rename_i hl
   split at h
   ·rename_i rows hr
    obtain ⟨l,rfl,hl'⟩:=X9 e hel hr
    cases h
    rw [hc]
    exact ⟨l,rfl,by omega⟩
   ·cases h
  ·cases h
 |_=>simp [bx,hu] at h
theorem b47 {n:Nat} {t et:TypeId} {d:DataW H} {v:V} (e:En α) (hu:P.underlying t=some (.slice et)) (hc:P.cellsOf et=e.esz)
 (hel: ∀(d:DataW H) vs,bx P n et d=some vs→ ∃x,vs=e.enc x) (h:Pk P (n+1) t d=some v): ∃l:List α,v=sl e l∧l.length≤maxLen:=by
 unfold Pk at h
 split at h
 ·rename_i vs hd
  rw [hu] at h
  obtain ⟨l,rfl,hl⟩:=WQ e hu hc hel hd
  cases h
  exact ⟨l,rfl,hl⟩
 ·cases h
theorem a3C {n:Nat} {t:TypeId} (hu:P.underlying t=some (.int .u8)) (d:DataW H) (vs:List V) (h:bx P (n+1) t d=some vs): ∃x:UInt8,vs=eU8.enc x:=by
 obtain ⟨m,rfl,hw,_⟩:=PV hu h
 have h01:0≤m∧m<256:=by
  simp [Lit.wf,IntKind.min,IntKind.max,IntKind.signed,IntKind.bits] at hw
  omega
 refine ⟨UInt8.ofNat m.toNat, ?_⟩
 have:((UInt8.ofNat m.toNat).toNat:Int)=m:=by simp;omega
 show [V.lit (.int .u8 m)]=[V.lit (.int .u8 ((UInt8.ofNat m.toNat).toNat:Int))]
 rw [this]
end
end Go.AI
