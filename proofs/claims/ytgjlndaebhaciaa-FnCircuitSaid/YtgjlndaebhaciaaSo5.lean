/- Walks through the program, with open values. -/
import Derived.Test.YtgjlndaebhaciaaSo4
set_option linter.unusedVariables false
set_option linter.unusedSimpArgs false
set_option maxRecDepth 100000
set_option maxHeartbeats 1000000
namespace Go.AI.So
noncomputable def ca (x:Int):Option (Bool):=
 some (x !=x)
theorem kH {x r} (h:ca x=some r):Call tab ow 152 [I x] []=some (B r,[]):=by
 rw [al (af:=cf) rfl]
 unfold ca at h
 simp only [cf,fC]
 exact go2
noncomputable def bh (x y:Int):Option (Int):=
 (ca x).bind fun r_=>
 (ca y).bind fun r_2=>
 br r_ (
 br r_2 (
 some (0:Int)) (
 some (-1:Int))) (
 br r_2 (
 some (1:Int)) (
 br (decide (x<y)) (
 some (-1:Int)) (
 br (decide (x>y)) (
 some (1:Int)) (
 some (0:Int)))))
theorem iX {x y r} (h:bh x y=some r):Call tab ow 138 [I x,I y] []=some (I r,[]):=by
 rw [al (af:=bF) rfl]
 unfold bh at h
 simp only [bF,dM]
 have d1:= @kH
 exact go2
noncomputable def aD (zero:Int) (t:List Int) (t2:Int):Int→Option ((Int)⊕(Int⊕(Int×Bool)))
 |t3=>
  br (decide (t3<t2)) (
  (atL t t3).bind fun x=>
  br (x !=zero) (
  some (.inr (.inl x))) (
  some (.inl (IntKind.wrap .i64 (t3+(1:Int)))))) (
  some (.inr (.inr (t3,decide (t3<t2)))))
@[reducible] def fU (zero:Int) (t:List Int) (t2 s:Int):St:=⟨[(3,I zero),(6,sl eI t),(7,I t2),(8,I s)],[]⟩
@[reducible] def gk (zero:Int) (t:List Int) (t2:Int):(Int⊕(Int×Bool))→aJ×St:=alt (fun e=>((.ret,⟨[(2,I e)],[]⟩):aJ×St)) (fun e=>(.exit 0,⟨[(3,I zero),(6,sl eI t),(7,I t2),(8,I e.1),(9,B e.2)],[]⟩))
theorem lM {zero t t2 s e} (h:Loop (aD zero t t2) s=some e):cy tab ow (.close []) fR (fU zero t t2 s)=some (gk zero t t2 e):=by
 refine lrG (fun s o h=> ?_) h
 simp only [aD] at h
 simp only [fU,gk,fR,fX]
 exact go2
noncomputable def du (vals:(List Int)):Option (Int):=
 (Loop (aD (0:Int) vals ((vals.length:Nat):Int)) (0:Int)).bind (alt (fun e_2=>
 some e_2) (fun e_3=>
 some (0:Int)))
theorem ob {vals r} (h:du vals=some r):Call tab ow 137 [sl eI vals] []=some (I r,[]):=by
 rw [al (af:=dl) rfl]
 unfold du at h
 simp only [dl,fe]
 have d1:= @lM
 exact go2
section
theorem jf:mkR 2010 []=rws eI []:=rfl
attribute [local go_sem] jf
noncomputable def cB (e_ f:ag):Option (Int):=
 (bh e_.Row f.Row).bind fun r_=>
 (bh e_.Col f.Col).bind fun r_2=>
 (du ([r_,r_2]:List Int)).bind fun r_3=>
 some r_3
theorem kG {e_ f r} (h:cB e_ f=some r):Call tab ow 108 [.agg [I e_.Row,I e_.Col,I e_.Value],.agg [I f.Row,I f.Col,I f.Value]] []=some (I r,[]):=by
 rw [al (af:=cc) rfl]
 unfold cB at h
 simp only [cc,fw]
 have d1:= @iX
 have d2:= @ob
 exact go2
end
end Go.AI.So
