/- Walks through the program, with open values. -/
import Derived.Test.YtgjlndaebhaciaaSo4
set_option linter.unusedVariables false
set_option linter.unusedSimpArgs false
set_option maxRecDepth 100000
set_option maxHeartbeats 1000000
namespace Go.AI.So
noncomputable def eJ (x:Int):Option (Bool):=
 some (x !=x)
theorem qJ {x r} (h:eJ x=some r):Call tab ow 152 [I x] []=some (B r,[]):=by
 rw [au (af:=eV) rfl]
 unfold eJ at h
 simp only [eV,lj]
 exact go2
noncomputable def cy (x y:Int):Option (Int):=
 (eJ x).bind fun r_=>
 (eJ y).bind fun r_2=>
 br r_ (
 br r_2 (
 some (0:Int)) (
 some (-1:Int))) (
 br r_2 (
 some (1:Int)) (
 br (decide (x<y)) (
 some (-1:Int)) (
 br (decide (x>y)) (
 some (1:Int)) (
 some (0:Int)))))
theorem pe {x y r} (h:cy x y=some r):Call tab ow 138 [I x,I y] []=some (I r,[]):=by
 rw [au (af:=dI) rfl]
 unfold cy at h
 simp only [dI,jc]
 have d1:= @qJ
 exact go2
noncomputable def aY (zero:Int) (t:List Int) (t2:Int):Int→Option ((Int)⊕(Int⊕(Int×Bool)))
 |t3=>
  br (decide (t3<t2)) (
  (atL t t3).bind fun x=>
  br (x !=zero) (
  some (.inr (.inl x))) (
  some (.inl (IntKind.wrap .i64 (t3+(1:Int)))))) (
  some (.inr (.inr (t3,decide (t3<t2)))))
@[reducible] def mP (zero:Int) (t:List Int) (t2 s:Int):St:=⟨[(3,I zero),(6,sl eI t),(7,I t2),(8,I s)],[]⟩
@[reducible] def mI (zero:Int) (t:List Int) (t2:Int):(Int⊕(Int×Bool))→aH×St:=alt (fun e=>((.ret,⟨[(2,I e)],[]⟩):aH×St)) (fun e=>(.exit 0,⟨[(3,I zero),(6,sl eI t),(7,I t2),(8,I e.1),(9,B e.2)],[]⟩))
theorem sJ {zero t t2 s e} (h:Loop (aY zero t t2) s=some e):cw tab ow (.close []) lR (mP zero t t2 s)=some (mI zero t t2 e):=by
 refine lrG (fun s o h=> ?_) h
 simp only [aY] at h
 simp only [mP,mI,lR,lX]
 exact go2
noncomputable def iJ (vals:(List Int)):Option (Int):=
 (Loop (aY (0:Int) vals ((vals.length:Nat):Int)) (0:Int)).bind (alt (fun e_2=>
 some e_2) (fun e_3=>
 some (0:Int)))
theorem vE {vals r} (h:iJ vals=some r):Call tab ow 137 [sl eI vals] []=some (I r,[]):=by
 rw [au (af:=ix) rfl]
 unfold iJ at h
 simp only [ix,kO]
 have d1:= @sJ
 exact go2
section
theorem py:mkR 2010 []=rws eI []:=rfl
attribute [local go_sem] py
noncomputable def gB (e_ f:ab):Option (Int):=
 (cy e_.Row f.Row).bind fun r_=>
 (cy e_.Col f.Col).bind fun r_2=>
 (iJ ([r_,r_2]:List Int)).bind fun r_3=>
 some r_3
theorem qM {e_ f r} (h:gB e_ f=some r):Call tab ow 108 [.agg [I e_.Row,I e_.Col,I e_.Value],.agg [I f.Row,I f.Col,I f.Value]] []=some (I r,[]):=by
 rw [au (af:=eQ) rfl]
 unfold gB at h
 simp only [eQ,lv]
 have d1:= @pe
 have d2:= @vE
 exact go2
end
end Go.AI.So
