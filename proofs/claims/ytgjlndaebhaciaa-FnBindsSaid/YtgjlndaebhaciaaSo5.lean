/- Walks through the program, with open values. -/
import Derived.Test.YtgjlndaebhaciaaSo4
set_option linter.unusedVariables false
set_option linter.unusedSimpArgs false
set_option maxRecDepth 100000
set_option maxHeartbeats 1000000
namespace Go.AI.So
noncomputable def cp (x:Int):Option (Bool):=
 some (x !=x)
theorem lK {x r} (h:cp x=some r):Call tab ow 152 [I x] []=some (B r,[]):=by
 rw [al (af:=cx) rfl]
 unfold cp at h
 simp only [cx,fS]
 exact go2
noncomputable def bm (x y:Int):Option (Int):=
 (cp x).bind fun r_=>
 (cp y).bind fun r_2=>
 br r_ (
 br r_2 (
 some (0:Int)) (
 some (-1:Int))) (
 br r_2 (
 some (1:Int)) (
 br (decide (x<y)) (
 some (-1:Int)) (
 br (decide (x>y)) (
 some (1:Int)) (
 some (0:Int)))))
theorem jt {x y r} (h:bm x y=some r):Call tab ow 138 [I x,I y] []=some (I r,[]):=by
 rw [al (af:=bM) rfl]
 unfold bm at h
 simp only [bM,dY]
 have d1:= @lK
 exact go2
noncomputable def aI (zero:Int) (t:List Int) (t2:Int):Int→Option ((Int)⊕(Int⊕(Int×Bool)))
 |t3=>
  br (decide (t3<t2)) (
  (atL t t3).bind fun x=>
  br (x !=zero) (
  some (.inr (.inl x))) (
  some (.inl (IntKind.wrap .i64 (t3+(1:Int)))))) (
  some (.inr (.inr (t3,decide (t3<t2)))))
@[reducible] def gY (zero:Int) (t:List Int) (t2 s:Int):St:=⟨[(3,I zero),(6,sl eI t),(7,I t2),(8,I s)],[]⟩
@[reducible] def gU (zero:Int) (t:List Int) (t2:Int):(Int⊕(Int×Bool))→aH×St:=alt (fun e=>((.ret,⟨[(2,I e)],[]⟩):aH×St)) (fun e=>(.exit 0,⟨[(3,I zero),(6,sl eI t),(7,I t2),(8,I e.1),(9,B e.2)],[]⟩))
theorem nk {zero t t2 s e} (h:Loop (aI zero t t2) s=some e):bL tab ow (.close []) gN (gY zero t t2 s)=some (gU zero t t2 e):=by
 refine lrG (fun s o h=> ?_) h
 simp only [aI] at h
 simp only [gY,gU,gN,gG]
 exact go2
noncomputable def dN (vals:(List Int)):Option (Int):=
 (Loop (aI (0:Int) vals ((vals.length:Nat):Int)) (0:Int)).bind (alt (fun e_2=>
 some e_2) (fun e_3=>
 some (0:Int)))
theorem qp {vals r} (h:dN vals=some r):Call tab ow 137 [sl eI vals] []=some (I r,[]):=by
 rw [al (af:=dx) rfl]
 unfold dN at h
 simp only [dx,fH]
 have d1:= @nk
 exact go2
section
theorem jN:mkR 2010 []=rws eI []:=rfl
attribute [local go_sem] jN
noncomputable def cJ (e_ f:ah):Option (Int):=
 (bm e_.Row f.Row).bind fun r_=>
 (bm e_.Col f.Col).bind fun r_2=>
 (dN ([r_,r_2]:List Int)).bind fun r_3=>
 some r_3
theorem lF {e_ f r} (h:cJ e_ f=some r):Call tab ow 108 [.agg [I e_.Row,I e_.Col,I e_.Value],.agg [I f.Row,I f.Col,I f.Value]] []=some (I r,[]):=by
 rw [al (af:=cr) rfl]
 unfold cJ at h
 simp only [cr,fN]
 have d1:= @jt
 have d2:= @qp
 exact go2
end
end Go.AI.So
