/- Walks through the program, with open values. -/
import Derived.Test.YtgjlndaebhaciaaSo4
set_option linter.unusedVariables false
set_option linter.unusedSimpArgs false
set_option maxRecDepth 100000
set_option maxHeartbeats 1000000
namespace Go.AI.So
noncomputable def eJ (x:Int):Option (Bool):=
 some (x !=x)
theorem qJ {x r} (h:eJ x=some r):Call tab ow 152 [I x] []=some (B r,[]):=by
 rw [au (af:=eX) rfl]
 unfold eJ at h
 simp only [eX,kU]
 exact go2
noncomputable def cA (x y:Int):Option (Int):=
 (eJ x).bind fun r_=>
 (eJ y).bind fun r_2=>
 br r_ (
 br r_2 (
 some (0:Int)) (
 some (-1:Int))) (
 br r_2 (
 some (1:Int)) (
 br (decide (x<y)) (
 some (-1:Int)) (
 br (decide (x>y)) (
 some (1:Int)) (
 some (0:Int)))))
theorem oZ {x y r} (h:cA x y=some r):Call tab ow 138 [I x,I y] []=some (I r,[]):=by
 rw [au (af:=dF) rfl]
 unfold cA at h
 simp only [dF,j9]
 have d1:= @qJ
 exact go2
noncomputable def aZ (zero:Int) (t:List Int) (t2:Int):Int→Option ((Int)⊕(Int⊕(Int×Bool)))
 |t3=>
  br (decide (t3<t2)) (
  (atL t t3).bind fun x=>
  br (x !=zero) (
  some (.inr (.inl x))) (
  some (.inl (IntKind.wrap .i64 (t3+(1:Int)))))) (
  some (.inr (.inr (t3,decide (t3<t2)))))
@[reducible] def lQ (zero:Int) (t:List Int) (t2 s:Int):St:=⟨[(3,I zero),(6,sl eI t),(7,I t2),(8,I s)],[]⟩
@[reducible] def mQ (zero:Int) (t:List Int) (t2:Int):(Int⊕(Int×Bool))→aH×St:=alt (fun e=>((.ret,⟨[(2,I e)],[]⟩):aH×St)) (fun e=>(.exit 0,⟨[(3,I zero),(6,sl eI t),(7,I t2),(8,I e.1),(9,B e.2)],[]⟩))
theorem rR {zero t t2 s e} (h:Loop (aZ zero t t2) s=some e):cw tab ow (.close []) mR (lQ zero t t2 s)=some (mQ zero t t2 e):=by
 refine lrG (fun s o h=> ?_) h
 simp only [aZ] at h
 simp only [lQ,mQ,mR,lS]
 exact go2
noncomputable def iK (vals:(List Int)):Option (Int):=
 (Loop (aZ (0:Int) vals ((vals.length:Nat):Int)) (0:Int)).bind (alt (fun e_2=>
 some e_2) (fun e_3=>
 some (0:Int)))
theorem wA {vals r} (h:iK vals=some r):Call tab ow 137 [sl eI vals] []=some (I r,[]):=by
 rw [au (af:=iu) rfl]
 unfold iK at h
 simp only [iu,kC]
 have d1:= @rR
 exact go2
section
theorem pn:mkR 2010 []=rws eI []:=rfl
attribute [local go_sem] pn
noncomputable def gM (e_ f:ab):Option (Int):=
 (cA e_.Row f.Row).bind fun r_=>
 (cA e_.Col f.Col).bind fun r_2=>
 (iK ([r_,r_2]:List Int)).bind fun r_3=>
 some r_3
theorem qO {e_ f r} (h:gM e_ f=some r):Call tab ow 108 [.agg [I e_.Row,I e_.Col,I e_.Value],.agg [I f.Row,I f.Col,I f.Value]] []=some (I r,[]):=by
 rw [au (af:=eU) rfl]
 unfold gM at h
 simp only [eU,li]
 have d1:= @oZ
 have d2:= @wA
 exact go2
end
end Go.AI.So
