/- Part. -/
import Derived.Test.YtdnkignjanfikaaGreatSo0
import Derived.Test.YtdnkignjanfikaaGreatAiTop3
import Derived.Test.YtdnkignjanfikaaGreatAiAdd
namespace Go.AI.So
structure au where
 Row:Int
 Col:Int
 Value:Int
def aA:En au:=⟨3,fun x=>[I x.Row,I x.Col,I x.Value]⟩
def Ps (x:au):Prop:=bdI x.Row∧bdI x.Col∧bdI x.Value
theorem Jz:aA.esz=3:=by decide
theorem Jc (x:au):aA.enc x=[I x.Row,I x.Col,I x.Value]:=rfl
theorem Mn (a0 a1 a2:Int) (l:List au):dj [I a0,I a1,I a2] (rws aA l)=rws aA ((⟨a0,a1,a2⟩:au)::l):=rfl
theorem SU (a0 a1 a2:Int) (l:List au) (i:Nat):i4 (rws aA l) i [I a0,I a1,I a2]=rws aA (l.set i (⟨a0,a1,a2⟩:au)):=by simp [i4,rws,aA]
theorem Sc (x:au):au.mk x.Row x.Col x.Value=x:=rfl
attribute [go_sem] Jz Jc Mn SU Sc
end Go.AI.So
set_option linter.unusedVariables false
set_option linter.unusedSimpArgs false
set_option maxRecDepth 100000
set_option maxHeartbeats 1000000
namespace Go.AI.So
noncomputable def fH (x:Int):Option (Bool):=
 some (x !=x)
theorem wt {x r} (h:fH x=some r):Call tab ow 387 [I x] []=some (B r,[]):=by
 rw [aj (af:=fO) rfl]
 unfold fH at h
 simp only [fO,mN]
 exact go2
noncomputable def dl (x y:Int):Option (Int):=
 (fH x).bind fun r_=>
 (fH y).bind fun r_2=>
 br r_ (
 br r_2 (
 some (0:Int)) (
 some (-1:Int))) (
 br r_2 (
 some (1:Int)) (
 br (decide (x<y)) (
 some (-1:Int)) (
 br (decide (x>y)) (
 some (1:Int)) (
 some (0:Int)))))
theorem sr {x y r} (h:dl x y=some r):Call tab ow 350 [I x,I y] []=some (I r,[]):=by
 rw [aj (af:=ee) rfl]
 unfold dl at h
 simp only [ee,ko]
 have d1:= @wt
 exact go2
noncomputable def bN (zero:Int) (t:List Int) (t2:Int):Int→Option ((Int)⊕(Int⊕(Int×Bool)))
 |t3=>
  br (decide (t3<t2)) (
  (atL t t3).bind fun x=>
  br (x !=zero) (
  some (.inr (.inl x))) (
  some (.inl (IntKind.wrap .i64 (t3+(1:Int)))))) (
  some (.inr (.inr (t3,decide (t3<t2)))))
theorem ya {zero t t2}:LX tab ow (.close []) nR (bN zero t t2) (fun s=>⟨[(3,I zero),(6,sl eI t),(7,I t2),(8,I s)],[]⟩) (alt (fun e=>((.ret,⟨[(2,I e)],[]⟩):bR×St)) (fun e=>(.exit 0,⟨[(3,I zero),(6,sl eI t),(7,I t2),(8,I e.1),(9,B e.2)],[]⟩))):=by
 refine lrX (fun s o h=> ?_)
 simp only [bN] at h
 simp only [nR,o3]
 exact go2
noncomputable def jv (vals:(List Int)):Option (Int):=
 (Loop (bN (0:Int) vals ((vals.length:Nat):Int)) (0:Int)).bind (alt (fun e_2=>
 some e_2) (fun e_3=>
 some (0:Int)))
theorem D1 {vals r} (h:jv vals=some r):Call tab ow 349 [sl eI vals] []=some (I r,[]):=by
 rw [aj (af:=jc) rfl]
 unfold jv at h
 simp only [jc,mo]
 have d1:= @ya
 exact go2
section
theorem BF:mkR 2010 []=rws eI []:=rfl
attribute [local go_sem] BF
noncomputable def gp (e_ f:au):Option (Int):=
 (dl e_.Row f.Row).bind fun r_=>
 (dl e_.Col f.Col).bind fun r_2=>
 (jv ([r_,r_2]:List Int)).bind fun r_3=>
 some r_3
theorem wq {e_ f r} (h:gp e_ f=some r):Call tab ow 288 [.agg [I e_.Row,I e_.Col,I e_.Value],.agg [I f.Row,I f.Col,I f.Value]] []=some (I r,[]):=by
 rw [aj (af:=fK) rfl]
 unfold gp at h
 simp only [fK,my]
 have d1:= @sr
 have d2:= @D1
 exact go2
end
end Go.AI.So
