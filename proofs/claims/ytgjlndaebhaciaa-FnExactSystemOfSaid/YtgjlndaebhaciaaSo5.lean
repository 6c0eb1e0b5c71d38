/- Walks through the program, with open values. -/
import Derived.Test.YtgjlndaebhaciaaSo4
set_option linter.unusedVariables false
set_option linter.unusedSimpArgs false
set_option maxRecDepth 100000
set_option maxHeartbeats 1000000
namespace Go.AI.So
noncomputable def ez (x:Int):Option (Bool):=
 some (x !=x)
theorem qU {x r} (h:ez x=some r):Call tab ow 152 [I x] []=some (B r,[]):=by
 rw [aq (af:=eX) rfl]
 unfold ez at h
 simp only [eX,l8]
 exact go2
noncomputable def cy (x y:Int):Option (Int):=
 (ez x).bind fun r_=>
 (ez y).bind fun r_2=>
 br r_ (
 br r_2 (
 some (0:Int)) (
 some (-1:Int))) (
 br r_2 (
 some (1:Int)) (
 br (decide (x<y)) (
 some (-1:Int)) (
 br (decide (x>y)) (
 some (1:Int)) (
 some (0:Int)))))
theorem oy {x y r} (h:cy x y=some r):Call tab ow 138 [I x,I y] []=some (I r,[]):=by
 rw [aq (af:=dH) rfl]
 unfold cy at h
 simp only [dH,ji]
 have d1:= @qU
 exact go2
noncomputable def aX (zero:Int) (t:List Int) (t2:Int):Int→Option ((Int)⊕(Int⊕(Int×Bool)))
 |t3=>
  br (decide (t3<t2)) (
  (atL t t3).bind fun x=>
  br (x !=zero) (
  some (.inr (.inl x))) (
  some (.inl (IntKind.wrap .i64 (t3+(1:Int)))))) (
  some (.inr (.inr (t3,decide (t3<t2)))))
@[reducible] def mL (zero:Int) (t:List Int) (t2 s:Int):St:=⟨[(3,I zero),(6,sl eI t),(7,I t2),(8,I s)],[]⟩
@[reducible] def mc (zero:Int) (t:List Int) (t2:Int):(Int⊕(Int×Bool))→aH×St:=alt (fun e=>((.ret,⟨[(2,I e)],[]⟩):aH×St)) (fun e=>(.exit 0,⟨[(3,I zero),(6,sl eI t),(7,I t2),(8,I e.1),(9,B e.2)],[]⟩))
theorem s7 {zero t t2 s e} (h:Loop (aX zero t t2) s=some e):cw tab ow (.close []) mw (mL zero t t2 s)=some (mc zero t t2 e):=by
 refine lrG (fun s o h=> ?_) h
 simp only [aX] at h
 simp only [mL,mc,mw,lW]
 exact go2
noncomputable def iT (vals:(List Int)):Option (Int):=
 (Loop (aX (0:Int) vals ((vals.length:Nat):Int)) (0:Int)).bind (alt (fun e_2=>
 some e_2) (fun e_3=>
 some (0:Int)))
theorem wc {vals r} (h:iT vals=some r):Call tab ow 137 [sl eI vals] []=some (I r,[]):=by
 rw [aq (af:=iy) rfl]
 unfold iT at h
 simp only [iy,kJ]
 have d1:= @s7
 exact go2
section
theorem pH:mkR 2010 []=rws eI []:=rfl
attribute [local go_sem] pH
noncomputable def gG (e_ f:ab):Option (Int):=
 (cy e_.Row f.Row).bind fun r_=>
 (cy e_.Col f.Col).bind fun r_2=>
 (iT ([r_,r_2]:List Int)).bind fun r_3=>
 some r_3
theorem qN {e_ f r} (h:gG e_ f=some r):Call tab ow 108 [.agg [I e_.Row,I e_.Col,I e_.Value],.agg [I f.Row,I f.Col,I f.Value]] []=some (I r,[]):=by
 rw [aq (af:=eQ) rfl]
 unfold gG at h
 simp only [eQ,ln]
 have d1:= @oy
 have d2:= @wc
 exact go2
end
end Go.AI.So
