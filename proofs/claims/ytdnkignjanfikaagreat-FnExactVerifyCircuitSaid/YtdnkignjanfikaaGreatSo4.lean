/- Structs. -/
import Derived.Test.YtdnkignjanfikaaGreatSo0
import Derived.Test.YtdnkignjanfikaaGreatAiTop3
import Derived.Test.YtdnkignjanfikaaGreatAiAdd
namespace Go.AI.So
structure au where
 Row:Int
 Col:Int
 Value:Int
def aA:En au:=⟨3,fun x=>[I x.Row,I x.Col,I x.Value]⟩
def PZ (x:au):Prop:=bdI x.Row∧bdI x.Col∧bdI x.Value
theorem JL:aA.esz=3:=by decide
theorem Ki (x:au):aA.enc x=[I x.Row,I x.Col,I x.Value]:=rfl
theorem Nc (a0 a1 a2:Int) (l:List au):dU [I a0,I a1,I a2] (rws aA l)=rws aA ((⟨a0,a1,a2⟩:au)::l):=rfl
theorem TP (a0 a1 a2:Int) (l:List au) (i:Nat):iV (rws aA l) i [I a0,I a1,I a2]=rws aA (l.set i (⟨a0,a1,a2⟩:au)):=by simp [iV,rws,aA]
theorem Ua (x:au):au.mk x.Row x.Col x.Value=x:=rfl
attribute [go_sem] JL Ki Nc TP Ua
end Go.AI.So
set_option linter.unusedVariables false
set_option linter.unusedSimpArgs false
set_option maxRecDepth 100000
set_option maxHeartbeats 1000000
namespace Go.AI.So
noncomputable def fH (x:Int):Option (Bool):=
 some (x !=x)
theorem wK {x r} (h:fH x=some r):Call tab ow 387 [I x] []=some (B r,[]):=by
 rw [aj (af:=fL) rfl]
 unfold fH at h
 simp only [fL,mT]
 exact go2
noncomputable def dm (x y:Int):Option (Int):=
 (fH x).bind fun r_=>
 (fH y).bind fun r_2=>
 br r_ (
 br r_2 (
 some (0:Int)) (
 some (-1:Int))) (
 br r_2 (
 some (1:Int)) (
 br (decide (x<y)) (
 some (-1:Int)) (
 br (decide (x>y)) (
 some (1:Int)) (
 some (0:Int)))))
theorem sr {x y r} (h:dm x y=some r):Call tab ow 350 [I x,I y] []=some (I r,[]):=by
 rw [aj (af:=eo) rfl]
 unfold dm at h
 simp only [eo,kE]
 have d1:= @wK
 exact go2
noncomputable def bO (zero:Int) (t:List Int) (t2:Int):Int→Option ((Int)⊕(Int⊕(Int×Bool)))
 |t3=>
  br (decide (t3<t2)) (
  (atL t t3).bind fun x=>
  br (x !=zero) (
  some (.inr (.inl x))) (
  some (.inl (IntKind.wrap .i64 (t3+(1:Int)))))) (
  some (.inr (.inr (t3,decide (t3<t2)))))
theorem zz {zero t t2}:LX tab ow (.close []) ou (bO zero t t2) (fun s=>⟨[(3,I zero),(6,sl eI t),(7,I t2),(8,I s)],[]⟩) (alt (fun e=>((.ret,⟨[(2,I e)],[]⟩):bT×St)) (fun e=>(.exit 0,⟨[(3,I zero),(6,sl eI t),(7,I t2),(8,I e.1),(9,B e.2)],[]⟩))):=by
 refine lrX (fun s o h=> ?_)
 simp only [bO] at h
 simp only [ou,oc]
 exact go2
noncomputable def jD (vals:(List Int)):Option (Int):=
 (Loop (bO (0:Int) vals ((vals.length:Nat):Int)) (0:Int)).bind (alt (fun e_2=>
 some e_2) (fun e_3=>
 some (0:Int)))
theorem E8 {vals r} (h:jD vals=some r):Call tab ow 349 [sl eI vals] []=some (I r,[]):=by
 rw [aj (af:=j9) rfl]
 unfold jD at h
 simp only [j9,ms]
 have d1:= @zz
 exact go2
section
theorem ug:mkR 2010 []=rws eI []:=rfl
attribute [local go_sem] ug
noncomputable def gq (e_ f:au):Option (Int):=
 (dm e_.Row f.Row).bind fun r_=>
 (dm e_.Col f.Col).bind fun r_2=>
 (jD ([r_,r_2]:List Int)).bind fun r_3=>
 some r_3
theorem wV {e_ f r} (h:gq e_ f=some r):Call tab ow 288 [.agg [I e_.Row,I e_.Col,I e_.Value],.agg [I f.Row,I f.Col,I f.Value]] []=some (I r,[]):=by
 rw [aj (af:=fO) rfl]
 unfold gq at h
 simp only [fO,mZ]
 have d1:= @sr
 have d2:= @E8
 exact go2
end
end Go.AI.So
