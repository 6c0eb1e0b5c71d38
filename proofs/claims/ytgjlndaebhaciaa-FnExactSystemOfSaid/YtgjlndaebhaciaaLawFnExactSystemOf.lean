/- FnExactSystemOf: the law answers true, for all arguments. No condition. -/
import Derived.Test.YtgjlndaebhaciaaPv0
import Derived.Test.YtgjlndaebhaciaaFnAll
import Derived.Test.YtgjlndaebhaciaaAiTop3
import Derived.Test.YtgjlndaebhaciaaJfFnExactSystemOf
import Derived.Test.YtgjlndaebhaciaaRows
import Derived.WalkKit
import Derived.ProofKit
import Derived.OpenShut
import Derived.SizedLaws
set_option linter.unusedVariables false
namespace Go.Proofs.Ytgjlndaebhaciaa.fnExactSystemOf
open Go.ChangeShapes Go.WideShapes Go.ChangeAt Go.RowKit Go.AI
theorem own:ownKnob Try.prog.godebug=none:=by kernel_rfl
theorem Sx:laidOutB Try.prog=true:=by kernel_rfl
theorem d3 {H:Type} {n:Nat} {d:DataW H} {vs:List V} (h:aY Try.prog (n+1) 3 d=some vs): ∃x:Int,vs=eI.enc x∧bdI x:=Qs Try.underlying3 h
theorem SI {H:Type} {n:Nat} {d:DataW H} {vs:List V} (h:aY Try.prog (n+2) 131 d=some vs): ∃x:Fn.Gate,vs=Fn.eGate.enc x∧Fn.bdGate x:=by
 obtain ⟨ps,rfl,h0⟩:=oO Try.underlying131 h
 obtain ⟨_,_,_,_,rfl,g0,h1,rfl⟩:=fS h0
 obtain ⟨_,_,_,_,rfl,g1,h2,rfl⟩:=fS h1
 obtain ⟨_,_,_,_,rfl,g2,h3,rfl⟩:=fS h2
 obtain ⟨_,_,_,_,rfl,g3,h4,rfl⟩:=fS h3
 obtain ⟨rfl,rfl⟩:=qh h4
 obtain ⟨x0,rfl,b0⟩:=d3 g0
 obtain ⟨x1,rfl,b1⟩:=d3 g1
 obtain ⟨x2,rfl,b2⟩:=d3 g2
 obtain ⟨x3,rfl,b3⟩:=d3 g3
 exact ⟨⟨x0,x1,x2,x3⟩,rfl,⟨b0,b1,b2,b3⟩⟩
theorem d22 {H:Type} {n:Nat} {d:DataW H} {vs:List V} (h:aY Try.prog (n+3) 22 d=some vs): ∃x:(List Fn.Gate),vs=(eL Fn.eGate).enc x∧(bdL Fn.bdGate) x:=GU Fn.eGate Fn.bdGate Try.underlying22 (by kernel_rfl) (fun _ _ h=>SI h) h
theorem d24 {H:Type} {n:Nat} {d:DataW H} {vs:List V} (h:aY Try.prog (n+4) 24 d=some vs): ∃x:Fn.Circuit,vs=Fn.eCircuit.enc x∧Fn.bdCircuit x:=by
 obtain ⟨ps,rfl,h0⟩:=oO Try.underlying24 h
 obtain ⟨_,_,_,_,rfl,g0,h1,rfl⟩:=fS h0
 obtain ⟨rfl,rfl⟩:=qh h1
 obtain ⟨x0,rfl,b0⟩:=d22 g0
 exact ⟨⟨x0⟩,rfl,b0⟩
theorem arg {H:Type} {ds:List (DataW H)} {az:List V} (h:lw Try.prog 4 Try.f3.params.toList ds=some az): ∃(a0:Fn.Circuit),az=[.agg (Fn.eCircuit.enc a0)]∧Fn.bdCircuit a0:=by
 obtain ⟨d0,ds0,v0,w0,rfl,g0,k0,rfl⟩:=B1 h
 obtain ⟨rfl,rfl⟩:=DZ k0
 obtain ⟨x0,rfl,b0⟩:=CJ Try.underlying24 (fun _ h=>d24 (n:=0) h) g0
 exact ⟨x0,rfl,b0⟩
set_option maxRecDepth 100000 in
theorem Ps (os:Os) (started:os.Started) (H:Type) (enc:TypeId×Value→H):
 ReturnsInHanded {} Try.checked os 3 .any (Rows.fnExactSystemOfSpec.pre6 enc Try.prog Try.f3 Rows.fnExactSystemOfRow.domain false) (Rows.fnExactSystemOfSpec.post enc Try.prog Try.f3 false true false false):=by
 refine returnsInHanded_of_change_sized (C:=Try.checked) own started (by kernel_rfl) Try.func3
  (ChangeSpec.witness6 (enc:=enc) (C:=Try.checked) false ⟨#[], #[.agg #[.slice none 0 0]],[]⟩ 8 (by kernel_rfl) (by kernel_rfl) (by kernel_rfl) (by kernel_rfl)) ?_
 intro W base args ds gs before hval hW hcnd hsz _
 refine Cj (P:=Try.prog) (ow:=Fn.ow) (n:=4) Fn.tabOK (T:=Fn.tab) (af:=Fn.a_w_FnExactSystemOf) rfl Try.func3 (by kernel_rfl) Sx (by kernel_rfl) (by kernel_rfl) Try.underlying4 rfl (fun ds h=> ?_) hval hW (fun az h=> ?_)
 ·match ds,h with
  |[e0],_=>rfl
  |[],h=>cases h
  |_::_::_,h=>cases h
 ·obtain ⟨a0,rfl,c0⟩:=arg h
  exact Fn.w_FnExactSystemOf_c (Fn.law_FnExactSystemOf a0 c0)
theorem SE:Rows.fnExactSystemOfRow.holds Try.pinned (OpenSpec.ofChange Rows.fnExactSystemOfSpec):=
 OpenClaim.holds_of_wide 3 Try.f3 rfl rfl rfl rfl rfl rfl rfl ⟨rfl,rfl,rfl,rfl,rfl⟩ rfl rfl rfl rfl rfl QT Try.func3 QL
  (of_decide_eq_true (by kernel_rfl)) (by unfold Func.isWrapper;first| (rw [if_pos (by decide+kernel)];kernel_rfl)| (rw [if_neg (by decide+kernel)];exact ⟨rfl,rfl⟩))
  (fun os started H enc _=>Ps os started H enc)
theorem proved:Rows.FnExactSystemOfSaid:=SE
#print axioms proved
end Go.Proofs.Ytgjlndaebhaciaa.fnExactSystemOf
namespace Go.Proofs.Ytgjlndaebhaciaa
theorem fnExactSystemOf_holds:Rows.FnExactSystemOfSaid:=fnExactSystemOf.proved
end Go.Proofs.Ytgjlndaebhaciaa
