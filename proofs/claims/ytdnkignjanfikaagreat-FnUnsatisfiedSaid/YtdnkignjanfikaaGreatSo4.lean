/- Structs. -/
import Derived.Test.YtdnkignjanfikaaGreatSo0
import Derived.Test.YtdnkignjanfikaaGreatAiTop3
import Derived.Test.YtdnkignjanfikaaGreatAiAdd
namespace Go.AI.So
structure ae where
 Row:Int
 Col:Int
 Value:Int
def ai:En ae:=⟨3,fun x=>[I x.Row,I x.Col,I x.Value]⟩
def Mg (x:ae):Prop:=bdI x.Row∧bdI x.Col∧bdI x.Value
theorem G1:ai.esz=3:=by decide
theorem Fu (x:ae):ai.enc x=[I x.Row,I x.Col,I x.Value]:=rfl
theorem Jy (a0 a1 a2:Int) (l:List ae):bK [I a0,I a1,I a2] (rws ai l)=rws ai ((⟨a0,a1,a2⟩:ae)::l):=rfl
theorem NN (a0 a1 a2:Int) (l:List ae) (i:Nat):dZ (rws ai l) i [I a0,I a1,I a2]=rws ai (l.set i (⟨a0,a1,a2⟩:ae)):=by simp [dZ,rws,ai]
theorem OB (x:ae):ae.mk x.Row x.Col x.Value=x:=rfl
attribute [go_sem] G1 Fu Jy NN OB
end Go.AI.So
set_option linter.unusedVariables false
set_option linter.unusedSimpArgs false
set_option maxRecDepth 100000
set_option maxHeartbeats 1000000
namespace Go.AI.So
noncomputable def dj (x:Int):Option (Bool):=
 some (x !=x)
theorem ti {x r} (h:dj x=some r):Call tab ow 387 [I x] []=some (B r,[]):=by
 rw [ag (af:=du) rfl]
 unfold dj at h
 simp only [du,jx]
 exact go2
noncomputable def bQ (x y:Int):Option (Int):=
 (dj x).bind fun r_=>
 (dj y).bind fun r_2=>
 br r_ (
 br r_2 (
 some (0:Int)) (
 some (-1:Int))) (
 br r_2 (
 some (1:Int)) (
 br (decide (x<y)) (
 some (-1:Int)) (
 br (decide (x>y)) (
 some (1:Int)) (
 some (0:Int)))))
theorem oD {x y r} (h:bQ x y=some r):Call tab ow 350 [I x,I y] []=some (I r,[]):=by
 rw [ag (af:=cA) rfl]
 unfold bQ at h
 simp only [cA,hU]
 have d1:= @ti
 exact go2
noncomputable def aQ (zero:Int) (t:List Int) (t2:Int):Int→Option ((Int)⊕(Int⊕(Int×Bool)))
 |t3=>
  br (decide (t3<t2)) (
  (atL t t3).bind fun x=>
  br (x !=zero) (
  some (.inr (.inl x))) (
  some (.inl (IntKind.wrap .i64 (t3+(1:Int)))))) (
  some (.inr (.inr (t3,decide (t3<t2)))))
@[reducible] def kI (zero:Int) (t:List Int) (t2 s:Int):St:=⟨[(3,I zero),(6,sl eI t),(7,I t2),(8,I s)],[]⟩
@[reducible] def kK (zero:Int) (t:List Int) (t2:Int):(Int⊕(Int×Bool))→aw×St:=alt (fun e=>((.ret,⟨[(2,I e)],[]⟩):aw×St)) (fun e=>(.exit 0,⟨[(3,I zero),(6,sl eI t),(7,I t2),(8,I e.1),(9,B e.2)],[]⟩))
theorem vo {zero t t2 s e} (h:Loop (aQ zero t t2) s=some e):aO tab ow (.close []) kw (kI zero t t2 s)=some (kK zero t t2 e):=by
 refine lrG (fun s o h=> ?_) h
 simp only [aQ] at h
 simp only [kI,kK,kw,ll]
 exact go2
noncomputable def gn (vals:(List Int)):Option (Int):=
 (Loop (aQ (0:Int) vals ((vals.length:Nat):Int)) (0:Int)).bind (alt (fun e_2=>
 some e_2) (fun e_3=>
 some (0:Int)))
theorem zK {vals r} (h:gn vals=some r):Call tab ow 349 [sl eI vals] []=some (I r,[]):=by
 rw [ag (af:=fu) rfl]
 unfold gn at h
 simp only [fu,jo]
 have d1:= @vo
 exact go2
section
theorem qU:mkR 2010 []=rws eI []:=rfl
attribute [local go_sem] qU
noncomputable def dI (e_ f:ae):Option (Int):=
 (bQ e_.Row f.Row).bind fun r_=>
 (bQ e_.Col f.Col).bind fun r_2=>
 (gn ([r_,r_2]:List Int)).bind fun r_3=>
 some r_3
theorem tn {e_ f r} (h:dI e_ f=some r):Call tab ow 288 [.agg [I e_.Row,I e_.Col,I e_.Value],.agg [I f.Row,I f.Col,I f.Value]] []=some (I r,[]):=by
 rw [ag (af:=dp) rfl]
 unfold dI at h
 simp only [dp,jB]
 have d1:= @oD
 have d2:= @zK
 exact go2
end
end Go.AI.So
