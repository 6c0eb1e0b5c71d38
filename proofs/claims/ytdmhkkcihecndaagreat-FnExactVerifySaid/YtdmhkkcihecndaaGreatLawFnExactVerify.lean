/- FnExactVerify: the law answers true, for all arguments. No condition. -/
import Derived.Test.YtdmhkkcihecndaaGreatPv2
import Derived.Test.YtdmhkkcihecndaaGreatAiArg
import Derived.Test.YtdmhkkcihecndaaGreatJfFnExactVerify
import Derived.Test.YtdmhkkcihecndaaGreatRows
import Derived.WalkKit
import Derived.ProofKit
import Derived.OpenShut
import Derived.SizedLaws
set_option linter.unusedVariables false
namespace Go.AI
section
variable {H : Type} {P : Program}

theorem fieldsV_nil {g : TypeId → DataW H → Option (List V)} {ds : List (DataW H)} {vs : List V} (h : JW g [] ds = some vs) : ds = [] ∧ vs = [] := by
  cases ds with
  | nil => simp [JW] at h; exact ⟨rfl, h⟩
  | cons a b => simp [JW] at h
theorem fieldsV_cons {g : TypeId → DataW H → Option (List V)} {f : Field} {fs : List Field} {ds : List (DataW H)} {vs : List V} (h : JW g (f :: fs) ds = some vs) :
    ∃ d ds' a b, ds = d :: ds' ∧ g f.type d = some a ∧ JW g fs ds' = some b ∧ vs = a ++ b := by
  cases ds with
  | nil => simp [JW] at h
  | cons d ds' =>
    simp only [JW] at h
    split at h
    · rename_i a b h1 h2
      cases h
      exact ⟨d, ds', a, b, rfl, h1, h2, rfl⟩
    · cases h
theorem dataV_struct {n : Nat} {t : TypeId} {d : DataW H} {vs : List V} {fs : Array Field} (hu : P.underlying t = some (.struct fs)) (h : bx P (n + 1) t d = some vs) : ∃ ps, d = .agg ps ∧ JW (bx P n) fs.toList ps = some vs := by
  cases d with
  | agg ps =>
    simp [bx, hu] at h
    exact ⟨ps, rfl, h⟩
  | _ => simp [bx, hu] at h
theorem argsV_nil {n : Nat} {ds : List (DataW H)} {vs : List V} (h : Wd P n [] ds = some vs) : ds = [] ∧ vs = [] := by
  cases ds with
  | nil => simp [Wd] at h; exact ⟨rfl, h⟩
  | cons a b => simp [Wd] at h
theorem argsV_cons {n : Nat} {t : TypeId} {ts : List TypeId} {ds : List (DataW H)} {vs : List V} (h : Wd P n (t :: ts) ds = some vs) :
    ∃ d ds' a b, ds = d :: ds' ∧ Pk P n t d = some a ∧ Wd P n ts ds' = some b ∧ vs = a :: b := by
  cases ds with
  | nil => simp [Wd] at h
  | cons d ds' =>
    simp only [Wd] at h
    split at h
    · rename_i a b h1 h2
      cases h
      exact ⟨d, ds', a, b, rfl, h1, h2, rfl⟩
    · cases h
end
end Go.AI
namespace Go.Proofs.YtdmhkkcihecndaaGreat.fnExactVerify
open Go.ChangeShapes Go.WideShapes Go.ChangeAt Go.RowKit Go.AI
theorem own:ownKnob Tryz.prog.godebug=none:=by kernel_rfl
theorem b6E:laidOutB Tryz.prog=true:=by kernel_rfl
theorem d3 {H:Type} {n:Nat} {d:DataW H} {vs:List V} (h:bx Tryz.prog (n+1) 3 d=some vs): ∃x:Int,vs=eI.enc x∧bdI x:=b3b Tryz.underlying3 h
theorem b6R {H:Type} {n:Nat} {d:DataW H} {vs:List V} (h:bx Tryz.prog (n+2) 251 d=some vs): ∃x:Fn.Entry,vs=Fn.eEntry.enc x∧Fn.bdEntry x:=by
 obtain ⟨ps,rfl,h0⟩:=dataV_struct Tryz.underlying251 h
 obtain ⟨_,_,_,_,rfl,g0,h1,rfl⟩:=fieldsV_cons h0
 obtain ⟨_,_,_,_,rfl,g1,h2,rfl⟩:=fieldsV_cons h1
 obtain ⟨_,_,_,_,rfl,g2,h3,rfl⟩:=fieldsV_cons h2
 obtain ⟨rfl,rfl⟩:=fieldsV_nil h3
 obtain ⟨x0,rfl,b0⟩:=d3 g0
 obtain ⟨x1,rfl,b1⟩:=d3 g1
 obtain ⟨x2,rfl,b2⟩:=d3 g2
 exact ⟨⟨x0,x1,x2⟩,rfl,⟨b0,b1,b2⟩⟩
theorem d57 {H:Type} {n:Nat} {d:DataW H} {vs:List V} (h:bx Tryz.prog (n+3) 57 d=some vs): ∃x:(List Fn.Entry),vs=(eL Fn.eEntry).enc x∧(bdL Fn.bdEntry) x:=tm Fn.eEntry Fn.bdEntry Tryz.underlying57 (by kernel_rfl) (fun _ _ h=>b6R h) h
theorem d59 {H:Type} {n:Nat} {d:DataW H} {vs:List V} (h:bx Tryz.prog (n+4) 59 d=some vs): ∃x:Fn.System,vs=Fn.eSystem.enc x∧Fn.bdSystem x:=by
 obtain ⟨ps,rfl,h0⟩:=dataV_struct Tryz.underlying59 h
 obtain ⟨_,_,_,_,rfl,g0,h1,rfl⟩:=fieldsV_cons h0
 obtain ⟨_,_,_,_,rfl,g1,h2,rfl⟩:=fieldsV_cons h1
 obtain ⟨_,_,_,_,rfl,g2,h3,rfl⟩:=fieldsV_cons h2
 obtain ⟨_,_,_,_,rfl,g3,h4,rfl⟩:=fieldsV_cons h3
 obtain ⟨_,_,_,_,rfl,g4,h5,rfl⟩:=fieldsV_cons h4
 obtain ⟨_,_,_,_,rfl,g5,h6,rfl⟩:=fieldsV_cons h5
 obtain ⟨rfl,rfl⟩:=fieldsV_nil h6
 obtain ⟨x0,rfl,b0⟩:=d3 g0
 obtain ⟨x1,rfl,b1⟩:=d3 g1
 obtain ⟨x2,rfl,b2⟩:=d3 g2
 obtain ⟨x3,rfl,b3⟩:=d57 g3
 obtain ⟨x4,rfl,b4⟩:=d57 g4
 obtain ⟨x5,rfl,b5⟩:=d57 g5
 exact ⟨⟨x0,x1,x2,x3,x4,x5⟩,rfl,⟨b0,b1,b2,b3,b4,b5⟩⟩
theorem d60 {H:Type} {n:Nat} {d:DataW H} {vs:List V} (h:bx Tryz.prog (n+2) 60 d=some vs): ∃x:Fn.Setting,vs=Fn.eSetting.enc x∧Fn.bdSetting x:=by
 obtain ⟨ps,rfl,h0⟩:=dataV_struct Tryz.underlying60 h
 obtain ⟨_,_,_,_,rfl,g0,h1,rfl⟩:=fieldsV_cons h0
 obtain ⟨_,_,_,_,rfl,g1,h2,rfl⟩:=fieldsV_cons h1
 obtain ⟨_,_,_,_,rfl,g2,h3,rfl⟩:=fieldsV_cons h2
 obtain ⟨rfl,rfl⟩:=fieldsV_nil h3
 obtain ⟨x0,rfl,b0⟩:=d3 g0
 obtain ⟨x1,rfl,b1⟩:=d3 g1
 obtain ⟨x2,rfl,b2⟩:=d3 g2
 exact ⟨⟨x0,x1,x2⟩,rfl,⟨b0,b1,b2⟩⟩
theorem d61 {H:Type} {n:Nat} {d:DataW H} {vs:List V} (h:bx Tryz.prog (n+2) 61 d=some vs): ∃x:(List Int),vs=(eL eI).enc x∧(bdL bdI) x:=tm eI bdI Tryz.underlying61 (by kernel_rfl) (fun _ _ h=>d3 h) h
theorem d9 {H:Type} {n:Nat} {d:DataW H} {vs:List V} (h:bx Tryz.prog (n+1) 9 d=some vs): ∃x:(List UInt8),vs=eS.enc x∧bdS x:=b28 Tryz.underlying9 h
theorem d63 {H:Type} {n:Nat} {d:DataW H} {vs:List V} (h:bx Tryz.prog (n+2) 63 d=some vs): ∃x:Fn.Ext,vs=Fn.eExt.enc x∧Fn.bdExt x:=by
 obtain ⟨ps,rfl,h0⟩:=dataV_struct Tryz.underlying63 h
 obtain ⟨_,_,_,_,rfl,g0,h1,rfl⟩:=fieldsV_cons h0
 obtain ⟨_,_,_,_,rfl,g1,h2,rfl⟩:=fieldsV_cons h1
 obtain ⟨rfl,rfl⟩:=fieldsV_nil h2
 obtain ⟨x0,rfl,b0⟩:=d3 g0
 obtain ⟨x1,rfl,b1⟩:=d3 g1
 exact ⟨⟨x0,x1⟩,rfl,⟨b0,b1⟩⟩
theorem d69 {H:Type} {n:Nat} {d:DataW H} {vs:List V} (h:bx Tryz.prog (n+3) 69 d=some vs): ∃x:(List Fn.Ext),vs=(eL Fn.eExt).enc x∧(bdL Fn.bdExt) x:=tm Fn.eExt Fn.bdExt Tryz.underlying69 (by kernel_rfl) (fun _ _ h=>d63 h) h
theorem d62 {H:Type} {n:Nat} {d:DataW H} {vs:List V} (h:bx Tryz.prog (n+4) 62 d=some vs): ∃x:(List (List Fn.Ext)),vs=(eL (eL Fn.eExt)).enc x∧(bdL (bdL Fn.bdExt)) x:=tm (eL Fn.eExt) (bdL Fn.bdExt) Tryz.underlying62 (by kernel_rfl) (fun _ _ h=>d69 h) h
theorem d36 {H:Type} {n:Nat} {d:DataW H} {vs:List V} (h:bx Tryz.prog (n+2) 36 d=some vs): ∃x:(List (List UInt8)),vs=(eL eS).enc x∧(bdL bdS) x:=tm eS bdS Tryz.underlying36 (by kernel_rfl) (fun _ _ h=>d9 h) h
theorem b6J {H:Type} {n:Nat} {d:DataW H} {vs:List V} (h:bx Tryz.prog (n+3) 119 d=some vs): ∃x:(List (List (List UInt8))),vs=(eL (eL eS)).enc x∧(bdL (bdL bdS)) x:=tm (eL eS) (bdL bdS) Tryz.underlying119 (by kernel_rfl) (fun _ _ h=>d36 h) h
theorem b6U {H:Type} {n:Nat} {d:DataW H} {vs:List V} (h:bx Tryz.prog (n+4) 313 d=some vs): ∃x:Fn.Query,vs=Fn.eQuery.enc x∧Fn.bdQuery x:=by
 obtain ⟨ps,rfl,h0⟩:=dataV_struct Tryz.underlying313 h
 obtain ⟨_,_,_,_,rfl,g0,h1,rfl⟩:=fieldsV_cons h0
 obtain ⟨_,_,_,_,rfl,g1,h2,rfl⟩:=fieldsV_cons h1
 obtain ⟨rfl,rfl⟩:=fieldsV_nil h2
 obtain ⟨x0,rfl,b0⟩:=d69 g0
 obtain ⟨x1,rfl,b1⟩:=b6J g1
 exact ⟨⟨x0,x1⟩,rfl,⟨b0,b1⟩⟩
theorem d64 {H:Type} {n:Nat} {d:DataW H} {vs:List V} (h:bx Tryz.prog (n+5) 64 d=some vs): ∃x:(List Fn.Query),vs=(eL Fn.eQuery).enc x∧(bdL Fn.bdQuery) x:=tm Fn.eQuery Fn.bdQuery Tryz.underlying64 (by kernel_rfl) (fun _ _ h=>b6U h) h
theorem d66 {H:Type} {n:Nat} {d:DataW H} {vs:List V} (h:bx Tryz.prog (n+6) 66 d=some vs): ∃x:Fn.Opening,vs=Fn.eOpening.enc x∧Fn.bdOpening x:=by
 obtain ⟨ps,rfl,h0⟩:=dataV_struct Tryz.underlying66 h
 obtain ⟨_,_,_,_,rfl,g0,h1,rfl⟩:=fieldsV_cons h0
 obtain ⟨_,_,_,_,rfl,g1,h2,rfl⟩:=fieldsV_cons h1
 obtain ⟨_,_,_,_,rfl,g2,h3,rfl⟩:=fieldsV_cons h2
 obtain ⟨_,_,_,_,rfl,g3,h4,rfl⟩:=fieldsV_cons h3
 obtain ⟨_,_,_,_,rfl,g4,h5,rfl⟩:=fieldsV_cons h4
 obtain ⟨rfl,rfl⟩:=fieldsV_nil h5
 obtain ⟨x0,rfl,b0⟩:=d62 g0
 obtain ⟨x1,rfl,b1⟩:=d36 g1
 obtain ⟨x2,rfl,b2⟩:=d63 g2
 obtain ⟨x3,rfl,b3⟩:=d3 g3
 obtain ⟨x4,rfl,b4⟩:=d64 g4
 exact ⟨⟨x0,x1,x2,x3,x4⟩,rfl,⟨b0,b1,b2,b3,b4⟩⟩
theorem d68 {H:Type} {n:Nat} {d:DataW H} {vs:List V} (h:bx Tryz.prog (n+7) 68 d=some vs): ∃x:Fn.Proof,vs=Fn.eProof.enc x∧Fn.bdProof x:=by
 obtain ⟨ps,rfl,h0⟩:=dataV_struct Tryz.underlying68 h
 obtain ⟨_,_,_,_,rfl,g0,h1,rfl⟩:=fieldsV_cons h0
 obtain ⟨_,_,_,_,rfl,g1,h2,rfl⟩:=fieldsV_cons h1
 obtain ⟨_,_,_,_,rfl,g2,h3,rfl⟩:=fieldsV_cons h2
 obtain ⟨_,_,_,_,rfl,g3,h4,rfl⟩:=fieldsV_cons h3
 obtain ⟨_,_,_,_,rfl,g4,h5,rfl⟩:=fieldsV_cons h4
 obtain ⟨_,_,_,_,rfl,g5,h6,rfl⟩:=fieldsV_cons h5
 obtain ⟨_,_,_,_,rfl,g6,h7,rfl⟩:=fieldsV_cons h6
 obtain ⟨_,_,_,_,rfl,g7,h8,rfl⟩:=fieldsV_cons h7
 obtain ⟨rfl,rfl⟩:=fieldsV_nil h8
 obtain ⟨x0,rfl,b0⟩:=d9 g0
 obtain ⟨x1,rfl,b1⟩:=d62 g1
 obtain ⟨x2,rfl,b2⟩:=d63 g2
 obtain ⟨x3,rfl,b3⟩:=d63 g3
 obtain ⟨x4,rfl,b4⟩:=d63 g4
 obtain ⟨x5,rfl,b5⟩:=d62 g5
 obtain ⟨x6,rfl,b6⟩:=d63 g6
 obtain ⟨x7,rfl,b7⟩:=d66 g7
 exact ⟨⟨x0,x1,x2,x3,x4,x5,x6,x7⟩,rfl,⟨b0,b1,b2,b3,b4,b5,b6,b7⟩⟩
theorem d71 {H:Type} {n:Nat} {d:DataW H} {vs:List V} (h:bx Tryz.prog (n+4) 71 d=some vs): ∃x:Fn.Source,vs=Fn.eSource.enc x∧Fn.bdSource x:=by
 obtain ⟨ps,rfl,h0⟩:=dataV_struct Tryz.underlying71 h
 obtain ⟨_,_,_,_,rfl,g0,h1,rfl⟩:=fieldsV_cons h0
 obtain ⟨_,_,_,_,rfl,g1,h2,rfl⟩:=fieldsV_cons h1
 obtain ⟨_,_,_,_,rfl,g2,h3,rfl⟩:=fieldsV_cons h2
 obtain ⟨_,_,_,_,rfl,g3,h4,rfl⟩:=fieldsV_cons h3
 obtain ⟨rfl,rfl⟩:=fieldsV_nil h4
 obtain ⟨x0,rfl,b0⟩:=d69 g0
 obtain ⟨x1,rfl,b1⟩:=d3 g1
 obtain ⟨x2,rfl,b2⟩:=d9 g2
 obtain ⟨x3,rfl,b3⟩:=d3 g3
 exact ⟨⟨x0,x1,x2,x3⟩,rfl,⟨b0,b1,b2,b3⟩⟩
theorem arg {H:Type} {ds:List (DataW H)} {az:List V} (h:Wd Tryz.prog 7 Tryz.f5.params.toList ds=some az): ∃(a0:Fn.System) (a1:Fn.Setting) (a2:(List Int)) (a3:Fn.Proof) (a4:Fn.Source),az=[.agg (Fn.eSystem.enc a0),.agg (Fn.eSetting.enc a1),sl eI a2,.agg (Fn.eProof.enc a3),.agg (Fn.eSource.enc a4)]∧Fn.bdSystem a0∧Fn.bdSetting a1∧(bdL bdI) a2∧Fn.bdProof a3∧Fn.bdSource a4:=by
 obtain ⟨d0,ds0,v0,w0,rfl,g0,k0,rfl⟩:=argsV_cons h
 obtain ⟨d1,ds1,v1,w1,rfl,g1,k1,rfl⟩:=argsV_cons k0
 obtain ⟨d2,ds2,v2,w2,rfl,g2,k2,rfl⟩:=argsV_cons k1
 obtain ⟨d3,ds3,v3,w3,rfl,g3,k3,rfl⟩:=argsV_cons k2
 obtain ⟨d4,ds4,v4,w4,rfl,g4,k4,rfl⟩:=argsV_cons k3
 obtain ⟨rfl,rfl⟩:=argsV_nil k4
 obtain ⟨x0,rfl,b0⟩:=Bg Tryz.underlying59 (fun _ h=>d59 (n:=3) h) g0
 obtain ⟨x1,rfl,b1⟩:=Bg Tryz.underlying60 (fun _ h=>d60 (n:=5) h) g1
 obtain ⟨x2,rfl,b2⟩:=b2o (c:=sl eI) (fun _=>rfl) Tryz.underlying61 (by intro fs h;cases h) (by intro k e h;cases h) (fun _ h=>d61 (n:=5) h) g2
 obtain ⟨x3,rfl,b3⟩:=Bg Tryz.underlying68 (fun _ h=>d68 (n:=0) h) g3
 obtain ⟨x4,rfl,b4⟩:=Bg Tryz.underlying71 (fun _ h=>d71 (n:=3) h) g4
 exact ⟨x0,x1,x2,x3,x4,rfl,b0,b1,b2,b3,b4⟩
set_option maxRecDepth 100000 in
theorem b4e (os:Os) (started:os.Started) (H:Type) (enc:TypeId×Value→H):
 ReturnsInHanded {} Tryz.checked os 5 .any (Rows.fnExactVerifySpec.pre6 enc Tryz.prog Tryz.f5 Rows.fnExactVerifyRow.domain false) (Rows.fnExactVerifySpec.post enc Tryz.prog Tryz.f5 false true false false):=by
 refine returnsInHanded_of_change_sized (C:=Tryz.checked) own started (by kernel_rfl) Tryz.func5
  (ChangeSpec.witness6 (enc:=enc) (C:=Tryz.checked) false ⟨#[], #[.agg #[.int .i64 0,.int .i64 0,.int .i64 0,.slice none 0 0,.slice none 0 0,.slice none 0 0],.agg #[.int .i64 0,.int .i64 0,.int .i64 0],.slice none 0 0,.agg #[.string ⟨#[]⟩,.slice none 0 0,.int .i64 0,.int .i64 0,.int .i64 0,.int .i64 0,.int .i64 0,.int .i64 0,.slice none 0 0,.int .i64 0,.int .i64 0,.slice none 0 0,.slice none 0 0,.int .i64 0,.int .i64 0,.int .i64 0,.slice none 0 0],.agg #[.slice none 0 0,.int .i64 0,.string ⟨#[]⟩,.int .i64 0]],[]⟩ 8 (by kernel_rfl) (by kernel_rfl) (by kernel_rfl) (by kernel_rfl)) ?_
 intro W base args ds gs before hval hW hcnd hsz _
 refine a2m (P:=Tryz.prog) (ow:=Fn.ow) (n:=7) Fn.tabOK (T:=Fn.tab) (af:=Fn.a_w_FnExactVerify) rfl Tryz.func5 (by kernel_rfl) b6E (by kernel_rfl) (by kernel_rfl) Tryz.underlying4 rfl (fun ds h=> ?_) hval hW (fun az h=> ?_)
 ·match ds,h with
  |[e0,e1,e2,e3,e4],_=>rfl
  |[],h=>cases h
  |[_],h=>cases h
  |[_,_],h=>cases h
  |[_,_,_],h=>cases h
  |[_,_,_,_],h=>cases h
  |_::_::_::_::_::_::_,h=>cases h
 ·obtain ⟨a0,a1,a2,a3,a4,rfl,c0,c1,c2,c3,c4⟩:=arg h
  exact Fn.w_FnExactVerify_c (Fn.law_FnExactVerify a0 a1 a2 a3 a4 c0 c1 c2 c3 c4)
theorem b6F:Rows.fnExactVerifyRow.holds Tryz.pinned (OpenSpec.ofChange Rows.fnExactVerifySpec):=
 OpenClaim.holds_of_wide 5 Tryz.f5 rfl rfl rfl rfl rfl rfl rfl ⟨rfl,rfl,rfl,rfl,rfl⟩ rfl rfl rfl rfl rfl b5j Tryz.func5 b6e
  (of_decide_eq_true (by kernel_rfl)) (by unfold Func.isWrapper;first| (rw [if_pos (by decide+kernel)];kernel_rfl)| (rw [if_neg (by decide+kernel)];exact ⟨rfl,rfl⟩))
  (fun os started H enc _=>b4e os started H enc)
theorem proved:Rows.FnExactVerifySaid:=b6F
#print axioms proved
end Go.Proofs.YtdmhkkcihecndaaGreat.fnExactVerify
namespace Go.Proofs.YtdmhkkcihecndaaGreat
theorem fnExactVerify_holds:Rows.FnExactVerifySaid:=fnExactVerify.proved
end Go.Proofs.YtdmhkkcihecndaaGreat
