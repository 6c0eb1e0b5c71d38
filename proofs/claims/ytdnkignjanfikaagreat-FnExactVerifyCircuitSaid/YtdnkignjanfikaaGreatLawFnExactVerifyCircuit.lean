/- FnExactVerifyCircuit: the law answers true, for all arguments. No condition. -/
import Derived.Test.YtdnkignjanfikaaGreatPv2
import Derived.Test.YtdnkignjanfikaaGreatFnAll
import Derived.Test.YtdnkignjanfikaaGreatJfFnExactVerifyCircuit
import Derived.Test.YtdnkignjanfikaaGreatRows
import Derived.WalkKit
import Derived.ProofKit
import Derived.OpenShut
import Derived.SizedLaws
set_option linter.unusedVariables false
namespace Go.Proofs.YtdnkignjanfikaaGreat.fnExactVerifyCircuit
open Go.ChangeShapes Go.WideShapes Go.ChangeAt Go.RowKit Go.AI
theorem own:ownKnob Tryz.prog.godebug=none:=by kernel_rfl
theorem c8s:laidOutB Tryz.prog=true:=by kernel_rfl
theorem d3 {H:Type} {n:Nat} {d:DataW H} {vs:List V} (h:dE Tryz.prog (n+1) 3 d=some vs): ∃x:Int,vs=eI.enc x∧bdI x:=c6o Tryz.underlying3 h
theorem c8J {H:Type} {n:Nat} {d:DataW H} {vs:List V} (h:dE Tryz.prog (n+2) 296 d=some vs): ∃x:Fn.Gate,vs=Fn.eGate.enc x∧Fn.bdGate x:=by
 obtain ⟨ps,rfl,h0⟩:=km Tryz.underlying296 h
 obtain ⟨_,_,_,_,rfl,g0,h1,rfl⟩:=bL h0
 obtain ⟨_,_,_,_,rfl,g1,h2,rfl⟩:=bL h1
 obtain ⟨_,_,_,_,rfl,g2,h3,rfl⟩:=bL h2
 obtain ⟨_,_,_,_,rfl,g3,h4,rfl⟩:=bL h3
 obtain ⟨rfl,rfl⟩:=lV h4
 obtain ⟨x0,rfl,b0⟩:=d3 g0
 obtain ⟨x1,rfl,b1⟩:=d3 g1
 obtain ⟨x2,rfl,b2⟩:=d3 g2
 obtain ⟨x3,rfl,b3⟩:=d3 g3
 exact ⟨⟨x0,x1,x2,x3⟩,rfl,⟨b0,b1,b2,b3⟩⟩
theorem d89 {H:Type} {n:Nat} {d:DataW H} {vs:List V} (h:dE Tryz.prog (n+3) 89 d=some vs): ∃x:(List Fn.Gate),vs=(eL Fn.eGate).enc x∧(bdL Fn.bdGate) x:=y3 Fn.eGate Fn.bdGate Tryz.underlying89 (by kernel_rfl) (fun _ _ h=>c8J h) h
theorem d91 {H:Type} {n:Nat} {d:DataW H} {vs:List V} (h:dE Tryz.prog (n+4) 91 d=some vs): ∃x:Fn.Circuit,vs=Fn.eCircuit.enc x∧Fn.bdCircuit x:=by
 obtain ⟨ps,rfl,h0⟩:=km Tryz.underlying91 h
 obtain ⟨_,_,_,_,rfl,g0,h1,rfl⟩:=bL h0
 obtain ⟨rfl,rfl⟩:=lV h1
 obtain ⟨x0,rfl,b0⟩:=d89 g0
 exact ⟨⟨x0⟩,rfl,b0⟩
theorem d92 {H:Type} {n:Nat} {d:DataW H} {vs:List V} (h:dE Tryz.prog (n+2) 92 d=some vs): ∃x:Fn.Setting,vs=Fn.eSetting.enc x∧Fn.bdSetting x:=by
 obtain ⟨ps,rfl,h0⟩:=km Tryz.underlying92 h
 obtain ⟨_,_,_,_,rfl,g0,h1,rfl⟩:=bL h0
 obtain ⟨_,_,_,_,rfl,g1,h2,rfl⟩:=bL h1
 obtain ⟨_,_,_,_,rfl,g2,h3,rfl⟩:=bL h2
 obtain ⟨rfl,rfl⟩:=lV h3
 obtain ⟨x0,rfl,b0⟩:=d3 g0
 obtain ⟨x1,rfl,b1⟩:=d3 g1
 obtain ⟨x2,rfl,b2⟩:=d3 g2
 exact ⟨⟨x0,x1,x2⟩,rfl,⟨b0,b1,b2⟩⟩
theorem d26 {H:Type} {n:Nat} {d:DataW H} {vs:List V} (h:dE Tryz.prog (n+2) 26 d=some vs): ∃x:(List Int),vs=(eL eI).enc x∧(bdL bdI) x:=y3 eI bdI Tryz.underlying26 (by kernel_rfl) (fun _ _ h=>d3 h) h
theorem d9 {H:Type} {n:Nat} {d:DataW H} {vs:List V} (h:dE Tryz.prog (n+1) 9 d=some vs): ∃x:(List UInt8),vs=eS.enc x∧bdS x:=c44 Tryz.underlying9 h
theorem d94 {H:Type} {n:Nat} {d:DataW H} {vs:List V} (h:dE Tryz.prog (n+2) 94 d=some vs): ∃x:Fn.Ext,vs=Fn.eExt.enc x∧Fn.bdExt x:=by
 obtain ⟨ps,rfl,h0⟩:=km Tryz.underlying94 h
 obtain ⟨_,_,_,_,rfl,g0,h1,rfl⟩:=bL h0
 obtain ⟨_,_,_,_,rfl,g1,h2,rfl⟩:=bL h1
 obtain ⟨rfl,rfl⟩:=lV h2
 obtain ⟨x0,rfl,b0⟩:=d3 g0
 obtain ⟨x1,rfl,b1⟩:=d3 g1
 exact ⟨⟨x0,x1⟩,rfl,⟨b0,b1⟩⟩
theorem c5w {H:Type} {n:Nat} {d:DataW H} {vs:List V} (h:dE Tryz.prog (n+3) 100 d=some vs): ∃x:(List Fn.Ext),vs=(eL Fn.eExt).enc x∧(bdL Fn.bdExt) x:=y3 Fn.eExt Fn.bdExt Tryz.underlying100 (by kernel_rfl) (fun _ _ h=>d94 h) h
theorem d93 {H:Type} {n:Nat} {d:DataW H} {vs:List V} (h:dE Tryz.prog (n+4) 93 d=some vs): ∃x:(List (List Fn.Ext)),vs=(eL (eL Fn.eExt)).enc x∧(bdL (bdL Fn.bdExt)) x:=y3 (eL Fn.eExt) (bdL Fn.bdExt) Tryz.underlying93 (by kernel_rfl) (fun _ _ h=>c5w h) h
theorem d44 {H:Type} {n:Nat} {d:DataW H} {vs:List V} (h:dE Tryz.prog (n+2) 44 d=some vs): ∃x:(List (List UInt8)),vs=(eL eS).enc x∧(bdL bdS) x:=y3 eS bdS Tryz.underlying44 (by kernel_rfl) (fun _ _ h=>d9 h) h
theorem c8A {H:Type} {n:Nat} {d:DataW H} {vs:List V} (h:dE Tryz.prog (n+3) 154 d=some vs): ∃x:(List (List (List UInt8))),vs=(eL (eL eS)).enc x∧(bdL (bdL bdS)) x:=y3 (eL eS) (bdL bdS) Tryz.underlying154 (by kernel_rfl) (fun _ _ h=>d44 h) h
theorem c8K {H:Type} {n:Nat} {d:DataW H} {vs:List V} (h:dE Tryz.prog (n+4) 350 d=some vs): ∃x:Fn.Query,vs=Fn.eQuery.enc x∧Fn.bdQuery x:=by
 obtain ⟨ps,rfl,h0⟩:=km Tryz.underlying350 h
 obtain ⟨_,_,_,_,rfl,g0,h1,rfl⟩:=bL h0
 obtain ⟨_,_,_,_,rfl,g1,h2,rfl⟩:=bL h1
 obtain ⟨rfl,rfl⟩:=lV h2
 obtain ⟨x0,rfl,b0⟩:=c5w g0
 obtain ⟨x1,rfl,b1⟩:=c8A g1
 exact ⟨⟨x0,x1⟩,rfl,⟨b0,b1⟩⟩
theorem d95 {H:Type} {n:Nat} {d:DataW H} {vs:List V} (h:dE Tryz.prog (n+5) 95 d=some vs): ∃x:(List Fn.Query),vs=(eL Fn.eQuery).enc x∧(bdL Fn.bdQuery) x:=y3 Fn.eQuery Fn.bdQuery Tryz.underlying95 (by kernel_rfl) (fun _ _ h=>c8K h) h
theorem d97 {H:Type} {n:Nat} {d:DataW H} {vs:List V} (h:dE Tryz.prog (n+6) 97 d=some vs): ∃x:Fn.Opening,vs=Fn.eOpening.enc x∧Fn.bdOpening x:=by
 obtain ⟨ps,rfl,h0⟩:=km Tryz.underlying97 h
 obtain ⟨_,_,_,_,rfl,g0,h1,rfl⟩:=bL h0
 obtain ⟨_,_,_,_,rfl,g1,h2,rfl⟩:=bL h1
 obtain ⟨_,_,_,_,rfl,g2,h3,rfl⟩:=bL h2
 obtain ⟨_,_,_,_,rfl,g3,h4,rfl⟩:=bL h3
 obtain ⟨_,_,_,_,rfl,g4,h5,rfl⟩:=bL h4
 obtain ⟨rfl,rfl⟩:=lV h5
 obtain ⟨x0,rfl,b0⟩:=d93 g0
 obtain ⟨x1,rfl,b1⟩:=d44 g1
 obtain ⟨x2,rfl,b2⟩:=d94 g2
 obtain ⟨x3,rfl,b3⟩:=d3 g3
 obtain ⟨x4,rfl,b4⟩:=d95 g4
 exact ⟨⟨x0,x1,x2,x3,x4⟩,rfl,⟨b0,b1,b2,b3,b4⟩⟩
theorem d99 {H:Type} {n:Nat} {d:DataW H} {vs:List V} (h:dE Tryz.prog (n+7) 99 d=some vs): ∃x:Fn.Proof,vs=Fn.eProof.enc x∧Fn.bdProof x:=by
 obtain ⟨ps,rfl,h0⟩:=km Tryz.underlying99 h
 obtain ⟨_,_,_,_,rfl,g0,h1,rfl⟩:=bL h0
 obtain ⟨_,_,_,_,rfl,g1,h2,rfl⟩:=bL h1
 obtain ⟨_,_,_,_,rfl,g2,h3,rfl⟩:=bL h2
 obtain ⟨_,_,_,_,rfl,g3,h4,rfl⟩:=bL h3
 obtain ⟨_,_,_,_,rfl,g4,h5,rfl⟩:=bL h4
 obtain ⟨_,_,_,_,rfl,g5,h6,rfl⟩:=bL h5
 obtain ⟨_,_,_,_,rfl,g6,h7,rfl⟩:=bL h6
 obtain ⟨_,_,_,_,rfl,g7,h8,rfl⟩:=bL h7
 obtain ⟨rfl,rfl⟩:=lV h8
 obtain ⟨x0,rfl,b0⟩:=d9 g0
 obtain ⟨x1,rfl,b1⟩:=d93 g1
 obtain ⟨x2,rfl,b2⟩:=d94 g2
 obtain ⟨x3,rfl,b3⟩:=d94 g3
 obtain ⟨x4,rfl,b4⟩:=d94 g4
 obtain ⟨x5,rfl,b5⟩:=d93 g5
 obtain ⟨x6,rfl,b6⟩:=d94 g6
 obtain ⟨x7,rfl,b7⟩:=d97 g7
 exact ⟨⟨x0,x1,x2,x3,x4,x5,x6,x7⟩,rfl,⟨b0,b1,b2,b3,b4,b5,b6,b7⟩⟩
theorem c8E {H:Type} {n:Nat} {d:DataW H} {vs:List V} (h:dE Tryz.prog (n+4) 102 d=some vs): ∃x:Fn.Source,vs=Fn.eSource.enc x∧Fn.bdSource x:=by
 obtain ⟨ps,rfl,h0⟩:=km Tryz.underlying102 h
 obtain ⟨_,_,_,_,rfl,g0,h1,rfl⟩:=bL h0
 obtain ⟨_,_,_,_,rfl,g1,h2,rfl⟩:=bL h1
 obtain ⟨_,_,_,_,rfl,g2,h3,rfl⟩:=bL h2
 obtain ⟨_,_,_,_,rfl,g3,h4,rfl⟩:=bL h3
 obtain ⟨rfl,rfl⟩:=lV h4
 obtain ⟨x0,rfl,b0⟩:=c5w g0
 obtain ⟨x1,rfl,b1⟩:=d3 g1
 obtain ⟨x2,rfl,b2⟩:=d9 g2
 obtain ⟨x3,rfl,b3⟩:=d3 g3
 exact ⟨⟨x0,x1,x2,x3⟩,rfl,⟨b0,b1,b2,b3⟩⟩
theorem arg {H:Type} {ds:List (DataW H)} {az:List V} (h:El Tryz.prog 7 Tryz.f7.params.toList ds=some az): ∃(a0:Fn.Circuit) (a1:Fn.Setting) (a2:(List Int)) (a3:Fn.Proof) (a4:Fn.Source),az=[.agg (Fn.eCircuit.enc a0),.agg (Fn.eSetting.enc a1),sl eI a2,.agg (Fn.eProof.enc a3),.agg (Fn.eSource.enc a4)]∧Fn.bdCircuit a0∧Fn.bdSetting a1∧(bdL bdI) a2∧Fn.bdProof a3∧Fn.bdSource a4:=by
 obtain ⟨d0,ds0,v0,w0,rfl,g0,k0,rfl⟩:=yn h
 obtain ⟨d1,ds1,v1,w1,rfl,g1,k1,rfl⟩:=yn k0
 obtain ⟨d2,ds2,v2,w2,rfl,g2,k2,rfl⟩:=yn k1
 obtain ⟨d3,ds3,v3,w3,rfl,g3,k3,rfl⟩:=yn k2
 obtain ⟨d4,ds4,v4,w4,rfl,g4,k4,rfl⟩:=yn k3
 obtain ⟨rfl,rfl⟩:=a8p k4
 obtain ⟨x0,rfl,b0⟩:=GZ Tryz.underlying91 (fun _ h=>d91 (n:=3) h) g0
 obtain ⟨x1,rfl,b1⟩:=GZ Tryz.underlying92 (fun _ h=>d92 (n:=5) h) g1
 obtain ⟨x2,rfl,b2⟩:=c61 (c:=sl eI) (fun _=>rfl) Tryz.underlying26 (by intro fs h;cases h) (by intro k e h;cases h) (fun _ h=>d26 (n:=5) h) g2
 obtain ⟨x3,rfl,b3⟩:=GZ Tryz.underlying99 (fun _ h=>d99 (n:=0) h) g3
 obtain ⟨x4,rfl,b4⟩:=GZ Tryz.underlying102 (fun _ h=>c8E (n:=3) h) g4
 exact ⟨x0,x1,x2,x3,x4,rfl,b0,b1,b2,b3,b4⟩
set_option maxRecDepth 100000 in
theorem c64 (os:Os) (started:os.Started) (H:Type) (enc:TypeId×Value→H):
 ReturnsInHanded {} Tryz.checked os 7 .any (Rows.fnExactVerifyCircuitSpec.pre6 enc Tryz.prog Tryz.f7 Rows.fnExactVerifyCircuitRow.domain false) (Rows.fnExactVerifyCircuitSpec.post enc Tryz.prog Tryz.f7 false true false false):=by
 refine returnsInHanded_of_change_sized (C:=Tryz.checked) own started (by kernel_rfl) Tryz.func7
  (ChangeSpec.witness6 (enc:=enc) (C:=Tryz.checked) false ⟨#[], #[.agg #[.slice none 0 0],.agg #[.int .i64 0,.int .i64 0,.int .i64 0],.slice none 0 0,.agg #[.string ⟨#[]⟩,.slice none 0 0,.int .i64 0,.int .i64 0,.int .i64 0,.int .i64 0,.int .i64 0,.int .i64 0,.slice none 0 0,.int .i64 0,.int .i64 0,.slice none 0 0,.slice none 0 0,.int .i64 0,.int .i64 0,.int .i64 0,.slice none 0 0],.agg #[.slice none 0 0,.int .i64 0,.string ⟨#[]⟩,.int .i64 0]],[]⟩ 8 (by kernel_rfl) (by kernel_rfl) (by kernel_rfl) (by kernel_rfl)) ?_
 intro W base args ds gs before hval hW hcnd hsz _
 refine a93 (P:=Tryz.prog) (ow:=Fn.ow) (n:=7) Fn.tabOK (T:=Fn.tab) (af:=Fn.a_w_FnExactVerifyCircuit) rfl Tryz.func7 (by kernel_rfl) c8s (by kernel_rfl) (by kernel_rfl) Tryz.underlying4 rfl (fun ds h=> ?_) hval hW (fun az h=> ?_)
 ·match ds,h with
  |[e0,e1,e2,e3,e4],_=>rfl
  |[],h=>cases h
  |[_],h=>cases h
  |[_,_],h=>cases h
  |[_,_,_],h=>cases h
  |[_,_,_,_],h=>cases h
  |_::_::_::_::_::_::_,h=>cases h
 ·obtain ⟨a0,a1,a2,a3,a4,rfl,c0,c1,c2,c3,c4⟩:=arg h
  exact Fn.w_FnExactVerifyCircuit_c (Fn.law_FnExactVerifyCircuit a0 a1 a2 a3 a4 c0 c1 c2 c3 c4)
theorem c8r:Rows.fnExactVerifyCircuitRow.holds Tryz.pinned (OpenSpec.ofChange Rows.fnExactVerifyCircuitSpec):=
 OpenClaim.holds_of_wide 7 Tryz.f7 rfl rfl rfl rfl rfl rfl rfl ⟨rfl,rfl,rfl,rfl,rfl⟩ rfl rfl rfl rfl rfl c7f Tryz.func7 c7i
  (of_decide_eq_true (by kernel_rfl)) (by unfold Func.isWrapper;first| (rw [if_pos (by decide+kernel)];kernel_rfl)| (rw [if_neg (by decide+kernel)];exact ⟨rfl,rfl⟩))
  (fun os started H enc _=>c64 os started H enc)
theorem proved:Rows.FnExactVerifyCircuitSaid:=c8r
#print axioms proved
end Go.Proofs.YtdnkignjanfikaaGreat.fnExactVerifyCircuit
namespace Go.Proofs.YtdnkignjanfikaaGreat
theorem fnExactVerifyCircuit_holds:Rows.FnExactVerifyCircuitSaid:=fnExactVerifyCircuit.proved
end Go.Proofs.YtdnkignjanfikaaGreat
