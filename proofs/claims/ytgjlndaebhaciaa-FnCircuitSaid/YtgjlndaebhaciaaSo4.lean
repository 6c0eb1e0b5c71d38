/- Structs. -/
import Derived.Test.YtgjlndaebhaciaaSo2
import Derived.Test.YtgjlndaebhaciaaAiTop3
import Derived.Test.YtgjlndaebhaciaaAiAdd
namespace Go.AI.So
structure ag where
 Row:Int
 Col:Int
 Value:Int
def an:En ag:=⟨3,fun x=>[I x.Row,I x.Col,I x.Value]⟩
def ws (x:ag):Prop:=bdI x.Row∧bdI x.Col∧bdI x.Value
theorem sA:an.esz=3:=by decide
theorem tc (x:ag):an.enc x=[I x.Row,I x.Col,I x.Value]:=rfl
theorem uP (a0 a1 a2:Int) (l:List ag):co [I a0,I a1,I a2] (rws an l)=rws an ((⟨a0,a1,a2⟩:ag)::l):=rfl
theorem xC (a0 a1 a2:Int) (l:List ag) (i:Nat):dS (rws an l) i [I a0,I a1,I a2]=rws an (l.set i (⟨a0,a1,a2⟩:ag)):=by simp [dS,rws,an]
theorem yw (x:ag):ag.mk x.Row x.Col x.Value=x:=rfl
attribute [go_sem] sA tc uP xC yw
end Go.AI.So
