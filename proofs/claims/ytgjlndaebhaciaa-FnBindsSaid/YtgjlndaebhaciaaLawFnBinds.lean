/- FnBinds: the law answers true, for all arguments. No condition. -/
import Derived.Test.YtgjlndaebhaciaaPv1
import Derived.Test.YtgjlndaebhaciaaFnAll
import Derived.Test.YtgjlndaebhaciaaAiTop3
import Derived.Test.YtgjlndaebhaciaaJfFnBinds
import Derived.Test.YtgjlndaebhaciaaRows
import Derived.WalkKit
import Derived.ProofKit
import Derived.OpenShut
import Derived.SizedLaws
set_option linter.unusedVariables false
namespace Go.Proofs.Ytgjlndaebhaciaa.fnBinds
open Go.ChangeShapes Go.WideShapes Go.ChangeAt Go.RowKit Go.AI
theorem own:ownKnob Try.prog.godebug=none:=by kernel_rfl
theorem a2i:laidOutB Try.prog=true:=by kernel_rfl
theorem d5 {H:Type} {n:Nat} {d:DataW H} {vs:List V} (h:bD Try.prog (n+1) 5 d=some vs): ∃x:UInt8,vs=eU8.enc x∧(bdT (α:=UInt8)) x:=a0A Try.underlying5 h
theorem d40 {H:Type} {n:Nat} {d:DataW H} {vs:List V} (h:bD Try.prog (n+2) 40 d=some vs): ∃x:(List UInt8),vs=(eL eU8).enc x∧(bdL (bdT (α:=UInt8))) x:=Rk eU8 (bdT (α:=UInt8)) Try.underlying40 (by kernel_rfl) (fun _ _ h=>d5 h) h
theorem arg {H:Type} {ds:List (DataW H)} {az:List V} (h:qV Try.prog 2 Try.f5.params.toList ds=some az): ∃(a0:(List UInt8)) (a1:(List UInt8)),az=[sl eU8 a0,sl eU8 a1]∧(bdL (bdT (α:=UInt8))) a0∧(bdL (bdT (α:=UInt8))) a1:=by
 obtain ⟨d0,ds0,v0,w0,rfl,g0,k0,rfl⟩:=z6 h
 obtain ⟨d1,ds1,v1,w1,rfl,g1,k1,rfl⟩:=z6 k0
 obtain ⟨rfl,rfl⟩:=M5 k1
 obtain ⟨x0,rfl,b0⟩:=Ot (c:=sl eU8) (fun _=>rfl) Try.underlying40 (by intro fs h;cases h) (by intro k e h;cases h) (fun _ h=>d40 (n:=0) h) g0
 obtain ⟨x1,rfl,b1⟩:=Ot (c:=sl eU8) (fun _=>rfl) Try.underlying40 (by intro fs h;cases h) (by intro k e h;cases h) (fun _ h=>d40 (n:=0) h) g1
 exact ⟨x0,x1,rfl,b0,b1⟩
set_option maxRecDepth 100000 in
theorem Z2 (os:Os) (started:os.Started) (H:Type) (enc:TypeId×Value→H):
 ReturnsInHanded {} Try.checked os 5 .any (Rows.fnBindsSpec.pre6 enc Try.prog Try.f5 Rows.fnBindsRow.domain false) (Rows.fnBindsSpec.post enc Try.prog Try.f5 false true false false):=by
 refine returnsInHanded_of_change_sized (C:=Try.checked) own started (by kernel_rfl) Try.func5
  (ChangeSpec.witness6 (enc:=enc) (C:=Try.checked) false ⟨#[], #[.slice none 0 0,.slice none 0 0],[]⟩ 8 (by kernel_rfl) (by kernel_rfl) (by kernel_rfl) (by kernel_rfl)) ?_
 intro W base args ds gs before hval hW hcnd hsz _
 refine Mv (P:=Try.prog) (ow:=Fn.ow) (n:=2) Fn.tabOK (T:=Fn.tab) (af:=Fn.a_w_FnBinds) rfl Try.func5 (by kernel_rfl) a2i (by kernel_rfl) (by kernel_rfl) Try.underlying4 rfl (fun ds h=> ?_) hval hW (fun az h=> ?_)
 ·match ds,h with
  |[e0,e1],_=>rfl
  |[],h=>cases h
  |[_],h=>cases h
  |_::_::_::_,h=>cases h
 ·obtain ⟨a0,a1,rfl,c0,c1⟩:=arg h
  exact Fn.w_FnBinds_c (Fn.law_FnBinds a0 a1 c0 c1)
theorem a2n:Rows.fnBindsRow.holds Try.pinned (OpenSpec.ofChange Rows.fnBindsSpec):=
 OpenClaim.holds_of_wide 5 Try.f5 rfl rfl rfl rfl rfl rfl rfl ⟨rfl,rfl,rfl,rfl,rfl⟩ rfl rfl rfl rfl rfl a1k Try.func5 a0d
  (of_decide_eq_true (by kernel_rfl)) (by unfold Func.isWrapper;first| (rw [if_pos (by decide+kernel)];kernel_rfl)| (rw [if_neg (by decide+kernel)];exact ⟨rfl,rfl⟩))
  (fun os started H enc _=>Z2 os started H enc)
theorem proved:Rows.FnBindsSaid:=a2n
#print axioms proved
end Go.Proofs.Ytgjlndaebhaciaa.fnBinds
namespace Go.Proofs.Ytgjlndaebhaciaa
theorem fnBinds_holds:Rows.FnBindsSaid:=fnBinds.proved
end Go.Proofs.Ytgjlndaebhaciaa
