/- Walks through the program, with open values. -/
import Derived.Test.YtgjlndaebhaciaaSo4
set_option linter.unusedVariables false
set_option linter.unusedSimpArgs false
set_option maxRecDepth 100000
set_option maxHeartbeats 1000000
namespace Go.AI.So
noncomputable def eC (x:Int):Option (Bool):=
 some (x !=x)
theorem qH {x r} (h:eC x=some r):Call tab ow 152 [I x] []=some (B r,[]):=by
 rw [aq (af:=eU) rfl]
 unfold eC at h
 simp only [eU,l7]
 exact go2
noncomputable def cy (x y:Int):Option (Int):=
 (eC x).bind fun r_=>
 (eC y).bind fun r_2=>
 br r_ (
 br r_2 (
 some (0:Int)) (
 some (-1:Int))) (
 br r_2 (
 some (1:Int)) (
 br (decide (x<y)) (
 some (-1:Int)) (
 br (decide (x>y)) (
 some (1:Int)) (
 some (0:Int)))))
theorem oF {x y r} (h:cy x y=some r):Call tab ow 138 [I x,I y] []=some (I r,[]):=by
 rw [aq (af:=dF) rfl]
 unfold cy at h
 simp only [dF,jb]
 have d1:= @qH
 exact go2
noncomputable def aV (zero:Int) (t:List Int) (t2:Int):Int→Option ((Int)⊕(Int⊕(Int×Bool)))
 |t3=>
  br (decide (t3<t2)) (
  (atL t t3).bind fun x=>
  br (x !=zero) (
  some (.inr (.inl x))) (
  some (.inl (IntKind.wrap .i64 (t3+(1:Int)))))) (
  some (.inr (.inr (t3,decide (t3<t2)))))
@[reducible] def mb (zero:Int) (t:List Int) (t2 s:Int):St:=⟨[(3,I zero),(6,sl eI t),(7,I t2),(8,I s)],[]⟩
@[reducible] def mF (zero:Int) (t:List Int) (t2:Int):(Int⊕(Int×Bool))→aH×St:=alt (fun e=>((.ret,⟨[(2,I e)],[]⟩):aH×St)) (fun e=>(.exit 0,⟨[(3,I zero),(6,sl eI t),(7,I t2),(8,I e.1),(9,B e.2)],[]⟩))
theorem sa {zero t t2 s e} (h:Loop (aV zero t t2) s=some e):cw tab ow (.close []) ma (mb zero t t2 s)=some (mF zero t t2 e):=by
 refine lrG (fun s o h=> ?_) h
 simp only [aV] at h
 simp only [mb,mF,ma,mJ]
 exact go2
noncomputable def j3 (vals:(List Int)):Option (Int):=
 (Loop (aV (0:Int) vals ((vals.length:Nat):Int)) (0:Int)).bind (alt (fun e_2=>
 some e_2) (fun e_3=>
 some (0:Int)))
theorem uG {vals r} (h:j3 vals=some r):Call tab ow 137 [sl eI vals] []=some (I r,[]):=by
 rw [aq (af:=iu) rfl]
 unfold j3 at h
 simp only [iu,kP]
 have d1:= @sa
 exact go2
section
theorem pH:mkR 2010 []=rws eI []:=rfl
attribute [local go_sem] pH
noncomputable def gH (e_ f:ab):Option (Int):=
 (cy e_.Row f.Row).bind fun r_=>
 (cy e_.Col f.Col).bind fun r_2=>
 (j3 ([r_,r_2]:List Int)).bind fun r_3=>
 some r_3
theorem qr {e_ f r} (h:gH e_ f=some r):Call tab ow 108 [.agg [I e_.Row,I e_.Col,I e_.Value],.agg [I f.Row,I f.Col,I f.Value]] []=some (I r,[]):=by
 rw [aq (af:=eR) rfl]
 unfold gH at h
 simp only [eR,kY]
 have d1:= @oF
 have d2:= @uG
 exact go2
end
end Go.AI.So
