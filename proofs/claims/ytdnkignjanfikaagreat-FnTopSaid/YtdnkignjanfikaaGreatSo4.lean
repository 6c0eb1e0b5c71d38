/- Part. -/
import Derived.Test.YtdnkignjanfikaaGreatSo0
import Derived.Test.YtdnkignjanfikaaGreatAiTop3
import Derived.Test.YtdnkignjanfikaaGreatAiAdd
namespace Go.AI.So
structure aN where
 Row:Int
 Col:Int
 Value:Int
def aV:En aN:=⟨3,fun x=>[I x.Row,I x.Col,I x.Value]⟩
def PJ (x:aN):Prop:=bdI x.Row∧bdI x.Col∧bdI x.Value
theorem JY:aV.esz=3:=by decide
theorem Kh (x:aN):aV.enc x=[I x.Row,I x.Col,I x.Value]:=rfl
theorem MV (a0 a1 a2:Int) (l:List aN):Ak [I a0,I a1,I a2] (rws aV l)=rws aV ((⟨a0,a1,a2⟩:aN)::l):=rfl
theorem Qx (a0 a1 a2:Int) (l:List aN) (i:Nat):Gj (rws aV l) i [I a0,I a1,I a2]=rws aV (l.set i (⟨a0,a1,a2⟩:aN)):=by simp [Gj,rws,aV]
theorem Rs (x:aN):aN.mk x.Row x.Col x.Value=x:=rfl
attribute [go_sem] JY Kh MV Qx Rs
end Go.AI.So
set_option linter.unusedVariables false
set_option linter.unusedSimpArgs false
set_option maxRecDepth 100000
set_option maxHeartbeats 1000000
namespace Go.AI.So
noncomputable def gJ (x:Int):Option (Bool):=
 some (x !=x)
theorem yy {x r} (h:gJ x=some r):Call tab ow 387 [I x] []=some (B r,[]):=by
 rw [ak (af:=gS) rfl]
 unfold gJ at h
 simp only [gS,pc]
 exact go2
noncomputable def dJ (x y:Int):Option (Int):=
 (gJ x).bind fun r_=>
 (gJ y).bind fun r_2=>
 br r_ (
 br r_2 (
 some (0:Int)) (
 some (-1:Int))) (
 br r_2 (
 some (1:Int)) (
 br (decide (x<y)) (
 some (-1:Int)) (
 br (decide (x>y)) (
 some (1:Int)) (
 some (0:Int)))))
theorem vv {x y r} (h:dJ x y=some r):Call tab ow 350 [I x,I y] []=some (I r,[]):=by
 rw [ak (af:=ft) rfl]
 unfold dJ at h
 simp only [ft,mj]
 have d1:= @yy
 exact go2
noncomputable def bX (zero:Int) (t:List Int) (t2:Int):Int→Option ((Int)⊕(Int⊕(Int×Bool)))
 |t3=>
  br (decide (t3<t2)) (
  (atL t t3).bind fun x=>
  br (x !=zero) (
  some (.inr (.inl x))) (
  some (.inl (IntKind.wrap .i64 (t3+(1:Int)))))) (
  some (.inr (.inr (t3,decide (t3<t2)))))
theorem A8 {zero t t2}:LX tab ow (.close []) qA (bX zero t t2) (fun s=>⟨[(3,I zero),(6,sl eI t),(7,I t2),(8,I s)],[]⟩) (alt (fun e=>((.ret,⟨[(2,I e)],[]⟩):dd×St)) (fun e=>(.exit 0,⟨[(3,I zero),(6,sl eI t),(7,I t2),(8,I e.1),(9,B e.2)],[]⟩))):=by
 refine lrX (fun s o h=> ?_)
 simp only [bX] at h
 simp only [qA,rm]
 exact go2
noncomputable def li (vals:(List Int)):Option (Int):=
 (Loop (bX (0:Int) vals ((vals.length:Nat):Int)) (0:Int)).bind (alt (fun e_2=>
 some e_2) (fun e_3=>
 some (0:Int)))
theorem Ep {vals r} (h:li vals=some r):Call tab ow 349 [sl eI vals] []=some (I r,[]):=by
 rw [ak (af:=ko) rfl]
 unfold li at h
 simp only [ko,oe]
 have d1:= @A8
 exact go2
section
theorem Df:mkR 2010 []=rws eI []:=rfl
attribute [local go_sem] Df
noncomputable def ik (e_ f:aN):Option (Int):=
 (dJ e_.Row f.Row).bind fun r_=>
 (dJ e_.Col f.Col).bind fun r_2=>
 (li ([r_,r_2]:List Int)).bind fun r_3=>
 some r_3
theorem yx {e_ f r} (h:ik e_ f=some r):Call tab ow 288 [.agg [I e_.Row,I e_.Col,I e_.Value],.agg [I f.Row,I f.Col,I f.Value]] []=some (I r,[]):=by
 rw [ak (af:=gX) rfl]
 unfold ik at h
 simp only [gX,oY]
 have d1:= @vv
 have d2:= @Ep
 exact go2
end
end Go.AI.So
