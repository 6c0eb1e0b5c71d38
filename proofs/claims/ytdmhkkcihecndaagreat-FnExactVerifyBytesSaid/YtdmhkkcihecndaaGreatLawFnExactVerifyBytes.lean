/- FnExactVerifyBytes: the law answers true, for all arguments. No condition. -/
import Derived.Test.YtdmhkkcihecndaaGreatPv2
import Derived.Test.YtdmhkkcihecndaaGreatAiTop3
import Derived.Test.YtdmhkkcihecndaaGreatJfFnExactVerifyBytes
import Derived.Test.YtdmhkkcihecndaaGreatRows
import Derived.WalkKit
import Derived.ProofKit
import Derived.OpenShut
import Derived.SizedLaws
set_option linter.unusedVariables false
namespace Go.Proofs.YtdmhkkcihecndaaGreat.fnExactVerifyBytes
open Go.ChangeShapes Go.WideShapes Go.ChangeAt Go.RowKit Go.AI
theorem own:ownKnob Tryz.prog.godebug=none:=by kernel_rfl
theorem c0G:laidOutB Tryz.prog=true:=by kernel_rfl
theorem d3 {H:Type} {n:Nat} {d:DataW H} {vs:List V} (h:bG Tryz.prog (n+1) 3 d=some vs): ∃x:Int,vs=eI.enc x∧bdI x:=b6E Tryz.underlying3 h
theorem c0A {H:Type} {n:Nat} {d:DataW H} {vs:List V} (h:bG Tryz.prog (n+2) 251 d=some vs): ∃x:Fn.Entry,vs=Fn.eEntry.enc x∧Fn.bdEntry x:=by
 obtain ⟨ps,rfl,h0⟩:=o0 Tryz.underlying251 h
 obtain ⟨_,_,_,_,rfl,g0,h1,rfl⟩:=bH h0
 obtain ⟨_,_,_,_,rfl,g1,h2,rfl⟩:=bH h1
 obtain ⟨_,_,_,_,rfl,g2,h3,rfl⟩:=bH h2
 obtain ⟨rfl,rfl⟩:=qP h3
 obtain ⟨x0,rfl,b0⟩:=d3 g0
 obtain ⟨x1,rfl,b1⟩:=d3 g1
 obtain ⟨x2,rfl,b2⟩:=d3 g2
 exact ⟨⟨x0,x1,x2⟩,rfl,⟨b0,b1,b2⟩⟩
theorem d57 {H:Type} {n:Nat} {d:DataW H} {vs:List V} (h:bG Tryz.prog (n+3) 57 d=some vs): ∃x:(List Fn.Entry),vs=(eL Fn.eEntry).enc x∧(bdL Fn.bdEntry) x:=I6 Fn.eEntry Fn.bdEntry Tryz.underlying57 (by kernel_rfl) (fun _ _ h=>c0A h) h
theorem d59 {H:Type} {n:Nat} {d:DataW H} {vs:List V} (h:bG Tryz.prog (n+4) 59 d=some vs): ∃x:Fn.System,vs=Fn.eSystem.enc x∧Fn.bdSystem x:=by
 obtain ⟨ps,rfl,h0⟩:=o0 Tryz.underlying59 h
 obtain ⟨_,_,_,_,rfl,g0,h1,rfl⟩:=bH h0
 obtain ⟨_,_,_,_,rfl,g1,h2,rfl⟩:=bH h1
 obtain ⟨_,_,_,_,rfl,g2,h3,rfl⟩:=bH h2
 obtain ⟨_,_,_,_,rfl,g3,h4,rfl⟩:=bH h3
 obtain ⟨_,_,_,_,rfl,g4,h5,rfl⟩:=bH h4
 obtain ⟨_,_,_,_,rfl,g5,h6,rfl⟩:=bH h5
 obtain ⟨rfl,rfl⟩:=qP h6
 obtain ⟨x0,rfl,b0⟩:=d3 g0
 obtain ⟨x1,rfl,b1⟩:=d3 g1
 obtain ⟨x2,rfl,b2⟩:=d3 g2
 obtain ⟨x3,rfl,b3⟩:=d57 g3
 obtain ⟨x4,rfl,b4⟩:=d57 g4
 obtain ⟨x5,rfl,b5⟩:=d57 g5
 exact ⟨⟨x0,x1,x2,x3,x4,x5⟩,rfl,⟨b0,b1,b2,b3,b4,b5⟩⟩
theorem d60 {H:Type} {n:Nat} {d:DataW H} {vs:List V} (h:bG Tryz.prog (n+2) 60 d=some vs): ∃x:Fn.Setting,vs=Fn.eSetting.enc x∧Fn.bdSetting x:=by
 obtain ⟨ps,rfl,h0⟩:=o0 Tryz.underlying60 h
 obtain ⟨_,_,_,_,rfl,g0,h1,rfl⟩:=bH h0
 obtain ⟨_,_,_,_,rfl,g1,h2,rfl⟩:=bH h1
 obtain ⟨_,_,_,_,rfl,g2,h3,rfl⟩:=bH h2
 obtain ⟨rfl,rfl⟩:=qP h3
 obtain ⟨x0,rfl,b0⟩:=d3 g0
 obtain ⟨x1,rfl,b1⟩:=d3 g1
 obtain ⟨x2,rfl,b2⟩:=d3 g2
 exact ⟨⟨x0,x1,x2⟩,rfl,⟨b0,b1,b2⟩⟩
theorem d61 {H:Type} {n:Nat} {d:DataW H} {vs:List V} (h:bG Tryz.prog (n+2) 61 d=some vs): ∃x:(List Int),vs=(eL eI).enc x∧(bdL bdI) x:=I6 eI bdI Tryz.underlying61 (by kernel_rfl) (fun _ _ h=>d3 h) h
theorem d5 {H:Type} {n:Nat} {d:DataW H} {vs:List V} (h:bG Tryz.prog (n+1) 5 d=some vs): ∃x:UInt8,vs=eU8.enc x∧(bdT (α:=UInt8)) x:=b9V Tryz.underlying5 h
theorem d22 {H:Type} {n:Nat} {d:DataW H} {vs:List V} (h:bG Tryz.prog (n+2) 22 d=some vs): ∃x:(List UInt8),vs=(eL eU8).enc x∧(bdL (bdT (α:=UInt8))) x:=I6 eU8 (bdT (α:=UInt8)) Tryz.underlying22 (by kernel_rfl) (fun _ _ h=>d5 h) h
theorem d63 {H:Type} {n:Nat} {d:DataW H} {vs:List V} (h:bG Tryz.prog (n+2) 63 d=some vs): ∃x:Fn.Ext,vs=Fn.eExt.enc x∧Fn.bdExt x:=by
 obtain ⟨ps,rfl,h0⟩:=o0 Tryz.underlying63 h
 obtain ⟨_,_,_,_,rfl,g0,h1,rfl⟩:=bH h0
 obtain ⟨_,_,_,_,rfl,g1,h2,rfl⟩:=bH h1
 obtain ⟨rfl,rfl⟩:=qP h2
 obtain ⟨x0,rfl,b0⟩:=d3 g0
 obtain ⟨x1,rfl,b1⟩:=d3 g1
 exact ⟨⟨x0,x1⟩,rfl,⟨b0,b1⟩⟩
theorem d69 {H:Type} {n:Nat} {d:DataW H} {vs:List V} (h:bG Tryz.prog (n+3) 69 d=some vs): ∃x:(List Fn.Ext),vs=(eL Fn.eExt).enc x∧(bdL Fn.bdExt) x:=I6 Fn.eExt Fn.bdExt Tryz.underlying69 (by kernel_rfl) (fun _ _ h=>d63 h) h
theorem d9 {H:Type} {n:Nat} {d:DataW H} {vs:List V} (h:bG Tryz.prog (n+1) 9 d=some vs): ∃x:(List UInt8),vs=eS.enc x∧bdS x:=b6D Tryz.underlying9 h
theorem d71 {H:Type} {n:Nat} {d:DataW H} {vs:List V} (h:bG Tryz.prog (n+4) 71 d=some vs): ∃x:Fn.Source,vs=Fn.eSource.enc x∧Fn.bdSource x:=by
 obtain ⟨ps,rfl,h0⟩:=o0 Tryz.underlying71 h
 obtain ⟨_,_,_,_,rfl,g0,h1,rfl⟩:=bH h0
 obtain ⟨_,_,_,_,rfl,g1,h2,rfl⟩:=bH h1
 obtain ⟨_,_,_,_,rfl,g2,h3,rfl⟩:=bH h2
 obtain ⟨_,_,_,_,rfl,g3,h4,rfl⟩:=bH h3
 obtain ⟨rfl,rfl⟩:=qP h4
 obtain ⟨x0,rfl,b0⟩:=d69 g0
 obtain ⟨x1,rfl,b1⟩:=d3 g1
 obtain ⟨x2,rfl,b2⟩:=d9 g2
 obtain ⟨x3,rfl,b3⟩:=d3 g3
 exact ⟨⟨x0,x1,x2,x3⟩,rfl,⟨b0,b1,b2,b3⟩⟩
theorem arg {H:Type} {ds:List (DataW H)} {az:List V} (h:Ah Tryz.prog 4 Tryz.f6.params.toList ds=some az): ∃(a0:Fn.System) (a1:Fn.Setting) (a2:(List Int)) (a3:(List UInt8)) (a4:Fn.Source),az=[.agg (Fn.eSystem.enc a0),.agg (Fn.eSetting.enc a1),sl eI a2,sl eU8 a3,.agg (Fn.eSource.enc a4)]∧Fn.bdSystem a0∧Fn.bdSetting a1∧(bdL bdI) a2∧(bdL (bdT (α:=UInt8))) a3∧Fn.bdSource a4:=by
 obtain ⟨d0,ds0,v0,w0,rfl,g0,k0,rfl⟩:=uE h
 obtain ⟨d1,ds1,v1,w1,rfl,g1,k1,rfl⟩:=uE k0
 obtain ⟨d2,ds2,v2,w2,rfl,g2,k2,rfl⟩:=uE k1
 obtain ⟨d3,ds3,v3,w3,rfl,g3,k3,rfl⟩:=uE k2
 obtain ⟨d4,ds4,v4,w4,rfl,g4,k4,rfl⟩:=uE k3
 obtain ⟨rfl,rfl⟩:=a5K k4
 obtain ⟨x0,rfl,b0⟩:=Kf Tryz.underlying59 (fun _ h=>d59 (n:=0) h) g0
 obtain ⟨x1,rfl,b1⟩:=Kf Tryz.underlying60 (fun _ h=>d60 (n:=2) h) g1
 obtain ⟨x2,rfl,b2⟩:=b0H (c:=sl eI) (fun _=>rfl) Tryz.underlying61 (by intro fs h;cases h) (by intro k e h;cases h) (fun _ h=>d61 (n:=2) h) g2
 obtain ⟨x3,rfl,b3⟩:=b0H (c:=sl eU8) (fun _=>rfl) Tryz.underlying22 (by intro fs h;cases h) (by intro k e h;cases h) (fun _ h=>d22 (n:=2) h) g3
 obtain ⟨x4,rfl,b4⟩:=Kf Tryz.underlying71 (fun _ h=>d71 (n:=0) h) g4
 exact ⟨x0,x1,x2,x3,x4,rfl,b0,b1,b2,b3,b4⟩
set_option maxRecDepth 100000 in
theorem b8y (os:Os) (started:os.Started) (H:Type) (enc:TypeId×Value→H):
 ReturnsInHanded {} Tryz.checked os 6 .any (Rows.fnExactVerifyBytesSpec.pre6 enc Tryz.prog Tryz.f6 Rows.fnExactVerifyBytesRow.domain false) (Rows.fnExactVerifyBytesSpec.post enc Tryz.prog Tryz.f6 false true false false):=by
 refine returnsInHanded_of_change_sized (C:=Tryz.checked) own started (by kernel_rfl) Tryz.func6
  (ChangeSpec.witness6 (enc:=enc) (C:=Tryz.checked) false ⟨#[], #[.agg #[.int .i64 0,.int .i64 0,.int .i64 0,.slice none 0 0,.slice none 0 0,.slice none 0 0],.agg #[.int .i64 0,.int .i64 0,.int .i64 0],.slice none 0 0,.slice none 0 0,.agg #[.slice none 0 0,.int .i64 0,.string ⟨#[]⟩,.int .i64 0]],[]⟩ 8 (by kernel_rfl) (by kernel_rfl) (by kernel_rfl) (by kernel_rfl)) ?_
 intro W base args ds gs before hval hW hcnd hsz _
 refine a6m (P:=Tryz.prog) (ow:=Fn.ow) (n:=4) Fn.tabOK (T:=Fn.tab) (af:=Fn.a_w_FnExactVerifyBytes) rfl Tryz.func6 (by kernel_rfl) c0G (by kernel_rfl) (by kernel_rfl) Tryz.underlying4 rfl (fun ds h=> ?_) hval hW (fun az h=> ?_)
 ·match ds,h with
  |[e0,e1,e2,e3,e4],_=>rfl
  |[],h=>cases h
  |[_],h=>cases h
  |[_,_],h=>cases h
  |[_,_,_],h=>cases h
  |[_,_,_,_],h=>cases h
  |_::_::_::_::_::_::_,h=>cases h
 ·obtain ⟨a0,a1,a2,a3,a4,rfl,c0,c1,c2,c3,c4⟩:=arg h
  exact Fn.w_FnExactVerifyBytes_c (Fn.law_FnExactVerifyBytes a0 a1 a2 a3 a4 c0 c1 c2 c3 c4)
theorem c0E:Rows.fnExactVerifyBytesRow.holds Tryz.pinned (OpenSpec.ofChange Rows.fnExactVerifyBytesSpec):=
 OpenClaim.holds_of_wide 6 Tryz.f6 rfl rfl rfl rfl rfl rfl rfl ⟨rfl,rfl,rfl,rfl,rfl⟩ rfl rfl rfl rfl rfl b9F Tryz.func6 b93
  (of_decide_eq_true (by kernel_rfl)) (by unfold Func.isWrapper;first| (rw [if_pos (by decide+kernel)];kernel_rfl)| (rw [if_neg (by decide+kernel)];exact ⟨rfl,rfl⟩))
  (fun os started H enc _=>b8y os started H enc)
theorem proved:Rows.FnExactVerifyBytesSaid:=c0E
#print axioms proved
end Go.Proofs.YtdmhkkcihecndaaGreat.fnExactVerifyBytes
namespace Go.Proofs.YtdmhkkcihecndaaGreat
theorem fnExactVerifyBytes_holds:Rows.FnExactVerifyBytesSaid:=fnExactVerifyBytes.proved
end Go.Proofs.YtdmhkkcihecndaaGreat
