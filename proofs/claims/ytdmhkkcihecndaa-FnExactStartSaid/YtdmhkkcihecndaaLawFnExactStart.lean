/- FnExactStart: the law answers true, for all arguments. No condition. -/
import Derived.Test.YtdmhkkcihecndaaPv0
import Derived.Test.YtdmhkkcihecndaaAiTop3
import Derived.Test.YtdmhkkcihecndaaJfFnExactStart
import Derived.Test.YtdmhkkcihecndaaRows
import Derived.WalkKit
import Derived.ProofKit
import Derived.OpenShut
import Derived.SizedLaws
set_option linter.unusedVariables false
namespace Go.Proofs.Ytdmhkkcihecndaa.fnExactStart
open Go.ChangeShapes Go.WideShapes Go.ChangeAt Go.RowKit Go.AI
theorem own:ownKnob Try.prog.godebug=none:=by kernel_rfl
theorem Wd:laidOutB Try.prog=true:=by kernel_rfl
theorem d3 {H:Type} {n:Nat} {d:DataW H} {vs:List V} (h:aP Try.prog (n+1) 3 d=some vs): ∃x:Int,vs=eI.enc x∧bdI x:=U5 Try.underlying3 h
theorem W4 {H:Type} {n:Nat} {d:DataW H} {vs:List V} (h:aP Try.prog (n+2) 182 d=some vs): ∃x:Fn.Entry,vs=Fn.eEntry.enc x∧Fn.bdEntry x:=by
 obtain ⟨ps,rfl,h0⟩:=i4 Try.underlying182 h
 obtain ⟨_,_,_,_,rfl,g0,h1,rfl⟩:=aO h0
 obtain ⟨_,_,_,_,rfl,g1,h2,rfl⟩:=aO h1
 obtain ⟨_,_,_,_,rfl,g2,h3,rfl⟩:=aO h2
 obtain ⟨rfl,rfl⟩:=jd h3
 obtain ⟨x0,rfl,b0⟩:=d3 g0
 obtain ⟨x1,rfl,b1⟩:=d3 g1
 obtain ⟨x2,rfl,b2⟩:=d3 g2
 exact ⟨⟨x0,x1,x2⟩,rfl,⟨b0,b1,b2⟩⟩
theorem d54 {H:Type} {n:Nat} {d:DataW H} {vs:List V} (h:aP Try.prog (n+3) 54 d=some vs): ∃x:(List Fn.Entry),vs=(eL Fn.eEntry).enc x∧(bdL Fn.bdEntry) x:=xR Fn.eEntry Fn.bdEntry Try.underlying54 (by kernel_rfl) (fun _ _ h=>W4 h) h
theorem d56 {H:Type} {n:Nat} {d:DataW H} {vs:List V} (h:aP Try.prog (n+4) 56 d=some vs): ∃x:Fn.System,vs=Fn.eSystem.enc x∧Fn.bdSystem x:=by
 obtain ⟨ps,rfl,h0⟩:=i4 Try.underlying56 h
 obtain ⟨_,_,_,_,rfl,g0,h1,rfl⟩:=aO h0
 obtain ⟨_,_,_,_,rfl,g1,h2,rfl⟩:=aO h1
 obtain ⟨_,_,_,_,rfl,g2,h3,rfl⟩:=aO h2
 obtain ⟨_,_,_,_,rfl,g3,h4,rfl⟩:=aO h3
 obtain ⟨_,_,_,_,rfl,g4,h5,rfl⟩:=aO h4
 obtain ⟨_,_,_,_,rfl,g5,h6,rfl⟩:=aO h5
 obtain ⟨rfl,rfl⟩:=jd h6
 obtain ⟨x0,rfl,b0⟩:=d3 g0
 obtain ⟨x1,rfl,b1⟩:=d3 g1
 obtain ⟨x2,rfl,b2⟩:=d3 g2
 obtain ⟨x3,rfl,b3⟩:=d54 g3
 obtain ⟨x4,rfl,b4⟩:=d54 g4
 obtain ⟨x5,rfl,b5⟩:=d54 g5
 exact ⟨⟨x0,x1,x2,x3,x4,x5⟩,rfl,⟨b0,b1,b2,b3,b4,b5⟩⟩
theorem d39 {H:Type} {n:Nat} {d:DataW H} {vs:List V} (h:aP Try.prog (n+2) 39 d=some vs): ∃x:Fn.Setting,vs=Fn.eSetting.enc x∧Fn.bdSetting x:=by
 obtain ⟨ps,rfl,h0⟩:=i4 Try.underlying39 h
 obtain ⟨_,_,_,_,rfl,g0,h1,rfl⟩:=aO h0
 obtain ⟨_,_,_,_,rfl,g1,h2,rfl⟩:=aO h1
 obtain ⟨_,_,_,_,rfl,g2,h3,rfl⟩:=aO h2
 obtain ⟨rfl,rfl⟩:=jd h3
 obtain ⟨x0,rfl,b0⟩:=d3 g0
 obtain ⟨x1,rfl,b1⟩:=d3 g1
 obtain ⟨x2,rfl,b2⟩:=d3 g2
 exact ⟨⟨x0,x1,x2⟩,rfl,⟨b0,b1,b2⟩⟩
theorem d81 {H:Type} {n:Nat} {d:DataW H} {vs:List V} (h:aP Try.prog (n+2) 81 d=some vs): ∃x:(List Int),vs=(eL eI).enc x∧(bdL bdI) x:=xR eI bdI Try.underlying81 (by kernel_rfl) (fun _ _ h=>d3 h) h
theorem d58 {H:Type} {n:Nat} {d:DataW H} {vs:List V} (h:aP Try.prog (n+2) 58 d=some vs): ∃x:Fn.Ext,vs=Fn.eExt.enc x∧Fn.bdExt x:=by
 obtain ⟨ps,rfl,h0⟩:=i4 Try.underlying58 h
 obtain ⟨_,_,_,_,rfl,g0,h1,rfl⟩:=aO h0
 obtain ⟨_,_,_,_,rfl,g1,h2,rfl⟩:=aO h1
 obtain ⟨rfl,rfl⟩:=jd h2
 obtain ⟨x0,rfl,b0⟩:=d3 g0
 obtain ⟨x1,rfl,b1⟩:=d3 g1
 exact ⟨⟨x0,x1⟩,rfl,⟨b0,b1⟩⟩
theorem d57 {H:Type} {n:Nat} {d:DataW H} {vs:List V} (h:aP Try.prog (n+3) 57 d=some vs): ∃x:(List Fn.Ext),vs=(eL Fn.eExt).enc x∧(bdL Fn.bdExt) x:=xR Fn.eExt Fn.bdExt Try.underlying57 (by kernel_rfl) (fun _ _ h=>d58 h) h
theorem d9 {H:Type} {n:Nat} {d:DataW H} {vs:List V} (h:aP Try.prog (n+1) 9 d=some vs): ∃x:(List UInt8),vs=eS.enc x∧bdS x:=RV Try.underlying9 h
theorem d83 {H:Type} {n:Nat} {d:DataW H} {vs:List V} (h:aP Try.prog (n+4) 83 d=some vs): ∃x:Fn.Source,vs=Fn.eSource.enc x∧Fn.bdSource x:=by
 obtain ⟨ps,rfl,h0⟩:=i4 Try.underlying83 h
 obtain ⟨_,_,_,_,rfl,g0,h1,rfl⟩:=aO h0
 obtain ⟨_,_,_,_,rfl,g1,h2,rfl⟩:=aO h1
 obtain ⟨_,_,_,_,rfl,g2,h3,rfl⟩:=aO h2
 obtain ⟨_,_,_,_,rfl,g3,h4,rfl⟩:=aO h3
 obtain ⟨rfl,rfl⟩:=jd h4
 obtain ⟨x0,rfl,b0⟩:=d57 g0
 obtain ⟨x1,rfl,b1⟩:=d3 g1
 obtain ⟨x2,rfl,b2⟩:=d9 g2
 obtain ⟨x3,rfl,b3⟩:=d3 g3
 exact ⟨⟨x0,x1,x2,x3⟩,rfl,⟨b0,b1,b2,b3⟩⟩
theorem arg {H:Type} {ds:List (DataW H)} {az:List V} (h:o9 Try.prog 4 Try.f7.params.toList ds=some az): ∃(a0:Fn.System) (a1:Fn.Setting) (a2:(List Int)) (a3:Fn.Source),az=[.agg (Fn.eSystem.enc a0),.agg (Fn.eSetting.enc a1),sl eI a2,.agg (Fn.eSource.enc a3)]∧Fn.bdSystem a0∧Fn.bdSetting a1∧(bdL bdI) a2∧Fn.bdSource a3:=by
 obtain ⟨d0,ds0,v0,w0,rfl,g0,k0,rfl⟩:=nO h
 obtain ⟨d1,ds1,v1,w1,rfl,g1,k1,rfl⟩:=nO k0
 obtain ⟨d2,ds2,v2,w2,rfl,g2,k2,rfl⟩:=nO k1
 obtain ⟨d3,ds3,v3,w3,rfl,g3,k3,rfl⟩:=nO k2
 obtain ⟨rfl,rfl⟩:=Iq k3
 obtain ⟨x0,rfl,b0⟩:=ur Try.underlying56 (fun _ h=>d56 (n:=0) h) g0
 obtain ⟨x1,rfl,b1⟩:=ur Try.underlying39 (fun _ h=>d39 (n:=2) h) g1
 obtain ⟨x2,rfl,b2⟩:=T0 (c:=sl eI) (fun _=>rfl) Try.underlying81 (by intro fs h;cases h) (by intro k e h;cases h) (fun _ h=>d81 (n:=2) h) g2
 obtain ⟨x3,rfl,b3⟩:=ur Try.underlying83 (fun _ h=>d83 (n:=0) h) g3
 exact ⟨x0,x1,x2,x3,rfl,b0,b1,b2,b3⟩
set_option maxRecDepth 100000 in
theorem Ub (os:Os) (started:os.Started) (H:Type) (enc:TypeId×Value→H):
 ReturnsInHanded {} Try.checked os 7 .any (Rows.fnExactStartSpec.pre6 enc Try.prog Try.f7 Rows.fnExactStartRow.domain false) (Rows.fnExactStartSpec.post enc Try.prog Try.f7 false true false false):=by
 refine returnsInHanded_of_change_sized (C:=Try.checked) own started (by kernel_rfl) Try.func7
  (ChangeSpec.witness6 (enc:=enc) (C:=Try.checked) false ⟨#[], #[.agg #[.int .i64 0,.int .i64 0,.int .i64 0,.slice none 0 0,.slice none 0 0,.slice none 0 0],.agg #[.int .i64 0,.int .i64 0,.int .i64 0],.slice none 0 0,.agg #[.slice none 0 0,.int .i64 0,.string ⟨#[]⟩,.int .i64 0]],[]⟩ 8 (by kernel_rfl) (by kernel_rfl) (by kernel_rfl) (by kernel_rfl)) ?_
 intro W base args ds gs before hval hW hcnd hsz _
 refine Iu (P:=Try.prog) (ow:=Fn.ow) (n:=4) Fn.tabOK (T:=Fn.tab) (af:=Fn.a_w_FnExactStart) rfl Try.func7 (by kernel_rfl) Wd (by kernel_rfl) (by kernel_rfl) Try.underlying4 rfl (fun ds h=> ?_) hval hW (fun az h=> ?_)
 ·match ds,h with
  |[e0,e1,e2,e3],_=>rfl
  |[],h=>cases h
  |[_],h=>cases h
  |[_,_],h=>cases h
  |[_,_,_],h=>cases h
  |_::_::_::_::_::_,h=>cases h
 ·obtain ⟨a0,a1,a2,a3,rfl,c0,c1,c2,c3⟩:=arg h
  exact Fn.w_FnExactStart_c (Fn.law_FnExactStart a0 a1 a2 a3 c0 c1 c2 c3)
theorem W5:Rows.fnExactStartRow.holds Try.pinned (OpenSpec.ofChange Rows.fnExactStartSpec):=
 OpenClaim.holds_of_wide 7 Try.f7 rfl rfl rfl rfl rfl rfl rfl ⟨rfl,rfl,rfl,rfl,rfl⟩ rfl rfl rfl rfl rfl Vy Try.func7 UY
  (of_decide_eq_true (by kernel_rfl)) (by unfold Func.isWrapper;first| (rw [if_pos (by decide+kernel)];kernel_rfl)| (rw [if_neg (by decide+kernel)];exact ⟨rfl,rfl⟩))
  (fun os started H enc _=>Ub os started H enc)
theorem proved:Rows.FnExactStartSaid:=W5
#print axioms proved
end Go.Proofs.Ytdmhkkcihecndaa.fnExactStart
namespace Go.Proofs.Ytdmhkkcihecndaa
theorem fnExactStart_holds:Rows.FnExactStartSaid:=fnExactStart.proved
end Go.Proofs.Ytdmhkkcihecndaa
