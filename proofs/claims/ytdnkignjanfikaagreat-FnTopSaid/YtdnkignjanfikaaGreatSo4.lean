/- Part. -/
import Derived.Test.YtdnkignjanfikaaGreatSo0
import Derived.Test.YtdnkignjanfikaaGreatAiTop3
import Derived.Test.YtdnkignjanfikaaGreatAiAdd
namespace Go.AI.So
structure aN where
 Row:Int
 Col:Int
 Value:Int
def aV:En aN:=⟨3,fun x=>[I x.Row,I x.Col,I x.Value]⟩
def PR (x:aN):Prop:=bdI x.Row∧bdI x.Col∧bdI x.Value
theorem Kh:aV.esz=3:=by decide
theorem JB (x:aN):aV.enc x=[I x.Row,I x.Col,I x.Value]:=rfl
theorem NF (a0 a1 a2:Int) (l:List aN):Av [I a0,I a1,I a2] (rws aV l)=rws aV ((⟨a0,a1,a2⟩:aN)::l):=rfl
theorem Sh (a0 a1 a2:Int) (l:List aN) (i:Nat):Gg (rws aV l) i [I a0,I a1,I a2]=rws aV (l.set i (⟨a0,a1,a2⟩:aN)):=by simp [Gg,rws,aV]
theorem Tg (x:aN):aN.mk x.Row x.Col x.Value=x:=rfl
attribute [go_sem] Kh JB NF Sh Tg
end Go.AI.So
set_option linter.unusedVariables false
set_option linter.unusedSimpArgs false
set_option maxRecDepth 100000
set_option maxHeartbeats 1000000
namespace Go.AI.So
noncomputable def gH (x:Int):Option (Bool):=
 some (x !=x)
theorem yF {x r} (h:gH x=some r):Call tab ow 387 [I x] []=some (B r,[]):=by
 rw [ak (af:=gX) rfl]
 unfold gH at h
 simp only [gX,pd]
 exact go2
noncomputable def dK (x y:Int):Option (Int):=
 (gH x).bind fun r_=>
 (gH y).bind fun r_2=>
 br r_ (
 br r_2 (
 some (0:Int)) (
 some (-1:Int))) (
 br r_2 (
 some (1:Int)) (
 br (decide (x<y)) (
 some (-1:Int)) (
 br (decide (x>y)) (
 some (1:Int)) (
 some (0:Int)))))
theorem uR {x y r} (h:dK x y=some r):Call tab ow 350 [I x,I y] []=some (I r,[]):=by
 rw [ak (af:=fx) rfl]
 unfold dK at h
 simp only [fx,mG]
 have d1:= @yF
 exact go2
noncomputable def bY (zero:Int) (t:List Int) (t2:Int):Int→Option ((Int)⊕(Int⊕(Int×Bool)))
 |t3=>
  br (decide (t3<t2)) (
  (atL t t3).bind fun x=>
  br (x !=zero) (
  some (.inr (.inl x))) (
  some (.inl (IntKind.wrap .i64 (t3+(1:Int)))))) (
  some (.inr (.inr (t3,decide (t3<t2)))))
theorem AZ {zero t t2}:LX tab ow (.close []) rv (bY zero t t2) (fun s=>⟨[(3,I zero),(6,sl eI t),(7,I t2),(8,I s)],[]⟩) (alt (fun e=>((.ret,⟨[(2,I e)],[]⟩):dd×St)) (fun e=>(.exit 0,⟨[(3,I zero),(6,sl eI t),(7,I t2),(8,I e.1),(9,B e.2)],[]⟩))):=by
 refine lrX (fun s o h=> ?_)
 simp only [bY] at h
 simp only [rv,rm]
 exact go2
noncomputable def li (vals:(List Int)):Option (Int):=
 (Loop (bY (0:Int) vals ((vals.length:Nat):Int)) (0:Int)).bind (alt (fun e_2=>
 some e_2) (fun e_3=>
 some (0:Int)))
theorem DY {vals r} (h:li vals=some r):Call tab ow 349 [sl eI vals] []=some (I r,[]):=by
 rw [ak (af:=kq) rfl]
 unfold li at h
 simp only [kq,ov]
 have d1:= @AZ
 exact go2
section
theorem Ds:mkR 2010 []=rws eI []:=rfl
attribute [local go_sem] Ds
noncomputable def ik (e_ f:aN):Option (Int):=
 (dK e_.Row f.Row).bind fun r_=>
 (dK e_.Col f.Col).bind fun r_2=>
 (li ([r_,r_2]:List Int)).bind fun r_3=>
 some r_3
theorem yI {e_ f r} (h:ik e_ f=some r):Call tab ow 288 [.agg [I e_.Row,I e_.Col,I e_.Value],.agg [I f.Row,I f.Col,I f.Value]] []=some (I r,[]):=by
 rw [ak (af:=gU) rfl]
 unfold ik at h
 simp only [gU,p5]
 have d1:= @uR
 have d2:= @DY
 exact go2
end
end Go.AI.So
