/- FnExactBoundTable: the law answers true, for all arguments. No condition. -/
import Derived.Test.YtdmhkkcihecndaaPv0
import Derived.Test.YtdmhkkcihecndaaAiTop3
import Derived.Test.YtdmhkkcihecndaaJfFnExactBoundTable
import Derived.Test.YtdmhkkcihecndaaRows
import Derived.WalkKit
import Derived.ProofKit
import Derived.OpenShut
import Derived.SizedLaws
set_option linter.unusedVariables false
namespace Go.Proofs.Ytdmhkkcihecndaa.fnExactBoundTable
open Go.ChangeShapes Go.WideShapes Go.ChangeAt Go.RowKit Go.AI
theorem own:ownKnob Try.prog.godebug=none:=by kernel_rfl
theorem Pz:laidOutB Try.prog=true:=by kernel_rfl
theorem d3 {H:Type} {n:Nat} {d:DataW H} {vs:List V} (h:aK Try.prog (n+1) 3 d=some vs): ∃x:Int,vs=eI.enc x∧bdI x:=M6 Try.underlying3 h
theorem Py {H:Type} {n:Nat} {d:DataW H} {vs:List V} (h:aK Try.prog (n+2) 182 d=some vs): ∃x:Fn.Entry,vs=Fn.eEntry.enc x∧Fn.bdEntry x:=by
 obtain ⟨ps,rfl,h0⟩:=j5 Try.underlying182 h
 obtain ⟨_,_,_,_,rfl,g0,h1,rfl⟩:=bp h0
 obtain ⟨_,_,_,_,rfl,g1,h2,rfl⟩:=bp h1
 obtain ⟨_,_,_,_,rfl,g2,h3,rfl⟩:=bp h2
 obtain ⟨rfl,rfl⟩:=ka h3
 obtain ⟨x0,rfl,b0⟩:=d3 g0
 obtain ⟨x1,rfl,b1⟩:=d3 g1
 obtain ⟨x2,rfl,b2⟩:=d3 g2
 exact ⟨⟨x0,x1,x2⟩,rfl,⟨b0,b1,b2⟩⟩
theorem d54 {H:Type} {n:Nat} {d:DataW H} {vs:List V} (h:aK Try.prog (n+3) 54 d=some vs): ∃x:(List Fn.Entry),vs=(eL Fn.eEntry).enc x∧(bdL Fn.bdEntry) x:=xj Fn.eEntry Fn.bdEntry Try.underlying54 (by kernel_rfl) (fun _ _ h=>Py h) h
theorem d56 {H:Type} {n:Nat} {d:DataW H} {vs:List V} (h:aK Try.prog (n+4) 56 d=some vs): ∃x:Fn.System,vs=Fn.eSystem.enc x∧Fn.bdSystem x:=by
 obtain ⟨ps,rfl,h0⟩:=j5 Try.underlying56 h
 obtain ⟨_,_,_,_,rfl,g0,h1,rfl⟩:=bp h0
 obtain ⟨_,_,_,_,rfl,g1,h2,rfl⟩:=bp h1
 obtain ⟨_,_,_,_,rfl,g2,h3,rfl⟩:=bp h2
 obtain ⟨_,_,_,_,rfl,g3,h4,rfl⟩:=bp h3
 obtain ⟨_,_,_,_,rfl,g4,h5,rfl⟩:=bp h4
 obtain ⟨_,_,_,_,rfl,g5,h6,rfl⟩:=bp h5
 obtain ⟨rfl,rfl⟩:=ka h6
 obtain ⟨x0,rfl,b0⟩:=d3 g0
 obtain ⟨x1,rfl,b1⟩:=d3 g1
 obtain ⟨x2,rfl,b2⟩:=d3 g2
 obtain ⟨x3,rfl,b3⟩:=d54 g3
 obtain ⟨x4,rfl,b4⟩:=d54 g4
 obtain ⟨x5,rfl,b5⟩:=d54 g5
 exact ⟨⟨x0,x1,x2,x3,x4,x5⟩,rfl,⟨b0,b1,b2,b3,b4,b5⟩⟩
theorem d58 {H:Type} {n:Nat} {d:DataW H} {vs:List V} (h:aK Try.prog (n+2) 58 d=some vs): ∃x:Fn.Ext,vs=Fn.eExt.enc x∧Fn.bdExt x:=by
 obtain ⟨ps,rfl,h0⟩:=j5 Try.underlying58 h
 obtain ⟨_,_,_,_,rfl,g0,h1,rfl⟩:=bp h0
 obtain ⟨_,_,_,_,rfl,g1,h2,rfl⟩:=bp h1
 obtain ⟨rfl,rfl⟩:=ka h2
 obtain ⟨x0,rfl,b0⟩:=d3 g0
 obtain ⟨x1,rfl,b1⟩:=d3 g1
 exact ⟨⟨x0,x1⟩,rfl,⟨b0,b1⟩⟩
theorem d57 {H:Type} {n:Nat} {d:DataW H} {vs:List V} (h:aK Try.prog (n+3) 57 d=some vs): ∃x:(List Fn.Ext),vs=(eL Fn.eExt).enc x∧(bdL Fn.bdExt) x:=xj Fn.eExt Fn.bdExt Try.underlying57 (by kernel_rfl) (fun _ _ h=>d58 h) h
theorem arg {H:Type} {ds:List (DataW H)} {az:List V} (h:jz Try.prog 4 Try.f5.params.toList ds=some az): ∃(a0:Fn.System) (a1:(List Fn.Ext)) (a2:Fn.Ext) (a3:Fn.Ext) (a4:Fn.Ext),az=[.agg (Fn.eSystem.enc a0),sl Fn.eExt a1,.agg (Fn.eExt.enc a2),.agg (Fn.eExt.enc a3),.agg (Fn.eExt.enc a4)]∧Fn.bdSystem a0∧(bdL Fn.bdExt) a1∧Fn.bdExt a2∧Fn.bdExt a3∧Fn.bdExt a4:=by
 obtain ⟨d0,ds0,v0,w0,rfl,g0,k0,rfl⟩:=gN h
 obtain ⟨d1,ds1,v1,w1,rfl,g1,k1,rfl⟩:=gN k0
 obtain ⟨d2,ds2,v2,w2,rfl,g2,k2,rfl⟩:=gN k1
 obtain ⟨d3,ds3,v3,w3,rfl,g3,k3,rfl⟩:=gN k2
 obtain ⟨d4,ds4,v4,w4,rfl,g4,k4,rfl⟩:=gN k3
 obtain ⟨rfl,rfl⟩:=B5 k4
 obtain ⟨x0,rfl,b0⟩:=li Try.underlying56 (fun _ h=>d56 (n:=0) h) g0
 obtain ⟨x1,rfl,b1⟩:=Ku (c:=sl Fn.eExt) (fun _=>rfl) Try.underlying57 (by intro fs h;cases h) (by intro k e h;cases h) (fun _ h=>d57 (n:=1) h) g1
 obtain ⟨x2,rfl,b2⟩:=li Try.underlying58 (fun _ h=>d58 (n:=2) h) g2
 obtain ⟨x3,rfl,b3⟩:=li Try.underlying58 (fun _ h=>d58 (n:=2) h) g3
 obtain ⟨x4,rfl,b4⟩:=li Try.underlying58 (fun _ h=>d58 (n:=2) h) g4
 exact ⟨x0,x1,x2,x3,x4,rfl,b0,b1,b2,b3,b4⟩
set_option maxRecDepth 100000 in
theorem Lq (os:Os) (started:os.Started) (H:Type) (enc:TypeId×Value→H):
 ReturnsInHanded {} Try.checked os 5 .any (Rows.fnExactBoundTableSpec.pre6 enc Try.prog Try.f5 Rows.fnExactBoundTableRow.domain false) (Rows.fnExactBoundTableSpec.post enc Try.prog Try.f5 false true false false):=by
 refine returnsInHanded_of_change_sized (C:=Try.checked) own started (by kernel_rfl) Try.func5
  (ChangeSpec.witness6 (enc:=enc) (C:=Try.checked) false ⟨#[], #[.agg #[.int .i64 0,.int .i64 0,.int .i64 0,.slice none 0 0,.slice none 0 0,.slice none 0 0],.slice none 0 0,.agg #[.int .i64 0,.int .i64 0],.agg #[.int .i64 0,.int .i64 0],.agg #[.int .i64 0,.int .i64 0]],[]⟩ 8 (by kernel_rfl) (by kernel_rfl) (by kernel_rfl) (by kernel_rfl)) ?_
 intro W base args ds gs before hval hW hcnd hsz _
 refine Ce (P:=Try.prog) (ow:=Fn.ow) (n:=4) Fn.tabOK (T:=Fn.tab) (af:=Fn.a_w_FnExactBoundTable) rfl Try.func5 (by kernel_rfl) Pz (by kernel_rfl) (by kernel_rfl) Try.underlying4 rfl (fun ds h=> ?_) hval hW (fun az h=> ?_)
 ·match ds,h with
  |[e0,e1,e2,e3,e4],_=>rfl
  |[],h=>cases h
  |[_],h=>cases h
  |[_,_],h=>cases h
  |[_,_,_],h=>cases h
  |[_,_,_,_],h=>cases h
  |_::_::_::_::_::_::_,h=>cases h
 ·obtain ⟨a0,a1,a2,a3,a4,rfl,c0,c1,c2,c3,c4⟩:=arg h
  exact Fn.w_FnExactBoundTable_c (Fn.law_FnExactBoundTable a0 a1 a2 a3 a4 c0 c1 c2 c3 c4)
theorem PG:Rows.fnExactBoundTableRow.holds Try.pinned (OpenSpec.ofChange Rows.fnExactBoundTableSpec):=
 OpenClaim.holds_of_wide 5 Try.f5 rfl rfl rfl rfl rfl rfl rfl ⟨rfl,rfl,rfl,rfl,rfl⟩ rfl rfl rfl rfl rfl Ok Try.func5 NR
  (of_decide_eq_true (by kernel_rfl)) (by unfold Func.isWrapper;first| (rw [if_pos (by decide+kernel)];kernel_rfl)| (rw [if_neg (by decide+kernel)];exact ⟨rfl,rfl⟩))
  (fun os started H enc _=>Lq os started H enc)
theorem proved:Rows.FnExactBoundTableSaid:=PG
#print axioms proved
end Go.Proofs.Ytdmhkkcihecndaa.fnExactBoundTable
namespace Go.Proofs.Ytdmhkkcihecndaa
theorem fnExactBoundTable_holds:Rows.FnExactBoundTableSaid:=fnExactBoundTable.proved
end Go.Proofs.Ytdmhkkcihecndaa
