/- FnTop: the law answers true, for all arguments. No condition. -/
import Derived.Test.YtdnkignjanfikaaGreatPv3
import Derived.Test.YtdnkignjanfikaaGreatFnAll
import Derived.Test.YtdnkignjanfikaaGreatJfFnTop
import Derived.Test.YtdnkignjanfikaaGreatRows
import Derived.WalkKit
import Derived.ProofKit
import Derived.OpenShut
import Derived.SizedLaws
set_option linter.unusedVariables false
namespace Go.Proofs.YtdnkignjanfikaaGreat.fnTop
open Go.ChangeShapes Go.WideShapes Go.ChangeAt Go.RowKit Go.AI
theorem own:ownKnob Tryz.prog.godebug=none:=by kernel_rfl
theorem c6Y:laidOutB Tryz.prog=true:=by kernel_rfl
theorem d5 {H:Type} {n:Nat} {d:DataW H} {vs:List V} (h:kE Tryz.prog (n+1) 5 d=some vs): ∃x:UInt8,vs=eU8.enc x∧(bdT (α:=UInt8)) x:=c5P Tryz.underlying5 h
theorem d22 {H:Type} {n:Nat} {d:DataW H} {vs:List V} (h:kE Tryz.prog (n+2) 22 d=some vs): ∃x:(List UInt8),vs=(eL eU8).enc x∧(bdL (bdT (α:=UInt8))) x:=b0J eU8 (bdT (α:=UInt8)) Tryz.underlying22 (by kernel_rfl) (fun _ _ h=>d5 h) h
theorem arg {H:Type} {ds:List (DataW H)} {az:List V} (h:F4 Tryz.prog 2 Tryz.f3.params.toList ds=some az): ∃(a0:(List UInt8)) (a1:(List UInt8)),az=[sl eU8 a0,sl eU8 a1]∧(bdL (bdT (α:=UInt8))) a0∧(bdL (bdT (α:=UInt8))) a1:=by
 obtain ⟨d0,ds0,v0,w0,rfl,g0,k0,rfl⟩:=Sf h
 obtain ⟨d1,ds1,v1,w1,rfl,g1,k1,rfl⟩:=Sf k0
 obtain ⟨rfl,rfl⟩:=a9u k1
 obtain ⟨x0,rfl,b0⟩:=b0p (c:=sl eU8) (fun _=>rfl) Tryz.underlying22 (by intro fs h;cases h) (by intro k e h;cases h) (fun _ h=>d22 (n:=0) h) g0
 obtain ⟨x1,rfl,b1⟩:=b0p (c:=sl eU8) (fun _=>rfl) Tryz.underlying22 (by intro fs h;cases h) (by intro k e h;cases h) (fun _ h=>d22 (n:=0) h) g1
 exact ⟨x0,x1,rfl,b0,b1⟩
set_option maxRecDepth 100000 in
theorem c3b (os:Os) (started:os.Started) (H:Type) (enc:TypeId×Value→H):
 ReturnsInHanded {} Tryz.checked os 3 .any (Rows.fnTopSpec.pre6 enc Tryz.prog Tryz.f3 Rows.fnTopRow.domain false) (Rows.fnTopSpec.post enc Tryz.prog Tryz.f3 false true false false):=by
 refine returnsInHanded_of_change_sized (C:=Tryz.checked) own started (by kernel_rfl) Tryz.func3
  (ChangeSpec.witness6 (enc:=enc) (C:=Tryz.checked) false ⟨#[], #[.slice none 0 0,.slice none 0 0],[]⟩ 8 (by kernel_rfl) (by kernel_rfl) (by kernel_rfl) (by kernel_rfl)) ?_
 intro W base args ds gs before hval hW hcnd hsz _
 refine a96 (P:=Tryz.prog) (ow:=Fn.ow) (n:=2) Fn.tabOK (T:=Fn.tab) (af:=Fn.a_w_FnTop) rfl Tryz.func3 (by kernel_rfl) c6Y (by kernel_rfl) (by kernel_rfl) Tryz.underlying4 rfl (fun ds h=> ?_) hval hW (fun az h=> ?_)
 ·match ds,h with
  |[e0,e1],_=>rfl
  |[],h=>cases h
  |[_],h=>cases h
  |_::_::_::_,h=>cases h
 ·obtain ⟨a0,a1,rfl,c0,c1⟩:=arg h
  exact Fn.w_FnTop_c (Fn.law_FnTop a0 a1 c0 c1)
theorem c6H:Rows.fnTopRow.holds Tryz.pinned (OpenSpec.ofChange Rows.fnTopSpec):=
 OpenClaim.holds_of_wide 3 Tryz.f3 rfl rfl rfl rfl rfl rfl rfl ⟨rfl,rfl,rfl,rfl,rfl⟩ rfl rfl rfl rfl rfl c53 Tryz.func3 c50
  (of_decide_eq_true (by kernel_rfl)) (by unfold Func.isWrapper;first| (rw [if_pos (by decide+kernel)];kernel_rfl)| (rw [if_neg (by decide+kernel)];exact ⟨rfl,rfl⟩))
  (fun os started H enc _=>c3b os started H enc)
theorem proved:Rows.FnTopSaid:=c6H
#print axioms proved
end Go.Proofs.YtdnkignjanfikaaGreat.fnTop
namespace Go.Proofs.YtdnkignjanfikaaGreat
theorem fnTop_holds:Rows.FnTopSaid:=fnTop.proved
end Go.Proofs.YtdnkignjanfikaaGreat
