/- Structs. -/
import Derived.Test.YtgjlndaebhaciaaSo2
import Derived.Test.YtgjlndaebhaciaaAiTop3
import Derived.Test.YtgjlndaebhaciaaAiAdd
namespace Go.AI.So
structure ab where
 Row:Int
 Col:Int
 Value:Int
def ai:En ab:=⟨3,fun x=>[I x.Row,I x.Col,I x.Value]⟩
def ra (x:ab):Prop:=bdI x.Row∧bdI x.Col∧bdI x.Value
theorem ob:ai.esz=3:=by decide
theorem nX (x:ab):ai.enc x=[I x.Row,I x.Col,I x.Value]:=rfl
theorem pI (a0 a1 a2:Int) (l:List ab):bD [I a0,I a1,I a2] (rws ai l)=rws ai ((⟨a0,a1,a2⟩:ab)::l):=rfl
theorem sc (a0 a1 a2:Int) (l:List ab) (i:Nat):cI (rws ai l) i [I a0,I a1,I a2]=rws ai (l.set i (⟨a0,a1,a2⟩:ab)):=by simp [cI,rws,ai]
theorem rT (x:ab):ab.mk x.Row x.Col x.Value=x:=rfl
attribute [go_sem] ob nX pI sc rT
end Go.AI.So
