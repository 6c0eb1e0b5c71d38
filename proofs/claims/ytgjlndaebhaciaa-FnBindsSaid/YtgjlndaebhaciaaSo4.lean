/- Structs. -/
import Derived.Test.YtgjlndaebhaciaaSo2
import Derived.Test.YtgjlndaebhaciaaAiTop3
import Derived.Test.YtgjlndaebhaciaaAiAdd
namespace Go.AI.So
structure ah where
 Row:Int
 Col:Int
 Value:Int
def aw:En ah:=⟨3,fun x=>[I x.Row,I x.Col,I x.Value]⟩
def yd (x:ah):Prop:=bdI x.Row∧bdI x.Col∧bdI x.Value
theorem uQ:aw.esz=3:=by decide
theorem uJ (x:ah):aw.enc x=[I x.Row,I x.Col,I x.Value]:=rfl
theorem wB (a0 a1 a2:Int) (l:List ah):cA [I a0,I a1,I a2] (rws aw l)=rws aw ((⟨a0,a1,a2⟩:ah)::l):=rfl
theorem yX (a0 a1 a2:Int) (l:List ah) (i:Nat):eo (rws aw l) i [I a0,I a1,I a2]=rws aw (l.set i (⟨a0,a1,a2⟩:ah)):=by simp [eo,rws,aw]
theorem yO (x:ah):ah.mk x.Row x.Col x.Value=x:=rfl
attribute [go_sem] uQ uJ wB yX yO
end Go.AI.So
