/- Structs. -/
import Derived.Test.YtdmhkkcihecndaaGreatTb1
import Derived.Test.YtdmhkkcihecndaaGreatAiArg
import Derived.Test.YtdmhkkcihecndaaGreatAiAdd
namespace Go.AI.Fn
structure Ext where
 A:Int
 B:Int
structure bI where
 code:(List UInt8)
 at_:Int
 seed:Int
structure Setting where
 Rate:Int
 Queries:Int
 Grind:Int
structure Source where
 Script:(List Ext)
 At:Int
 State:(List UInt8)
 Count:Int
structure aP where
 word:(List Ext)
 rows:(List (List (List UInt8)))
structure aB where
 Pairs:(List Ext)
 Paths:(List (List (List UInt8)))
structure aC where
 Rounds:(List (List Ext))
 Roots:(List (List UInt8))
 Last:Ext
 Nonce:Int
 Queries:(List aB)
structure BC where
 Row:Int
 Col:Int
 Value:Int
structure Vn where
 Rows:Int
 Cols:Int
 Publics:Int
 A:(List BC)
 B:(List BC)
 C:(List BC)
structure a3T where
 Root:(List UInt8)
 Gates:(List (List Ext))
 VA:Ext
 VB:Ext
 VC:Ext
 Wires:(List (List Ext))
 VW:Ext
 Open:aC
structure ZV where
 t:(List UInt8)
 ok:Bool
structure KM where
 b:(List UInt8)
structure a4w where
 Op:Int
 A:Int
 B:Int
 K:Int
structure Circuit where
 Gates:(List a4w)
structure Z0 where
 Circuit:Circuit
 Publics:(List Int)
 Inputs:(List Int)
 Setting:Setting
 Source:Source
def ae:En Ext:=⟨2,fun x=>[I x.A,I x.B]⟩
def zH (x:Ext):Prop:=bdI x.A∧bdI x.B
theorem a1t:ae.esz=2:=by decide
theorem a5V (a0 a1:Int) (l:List Ext) (i:Nat):KU (rws ae l) i [I a0,I a1]=rws ae (l.set i (⟨a0,a1⟩:Ext)):=by simp [KU,rws,ae]
attribute [go_sem] a1t a5V
def a7J:En bI:=⟨3,fun x=>[sl eU8 x.code,I x.at_,I x.seed]⟩
def a6m (x:bI):Prop:=bdL (bdT (α:=UInt8)) x.code∧bdI x.at_∧bdI x.seed
def a74:En Setting:=⟨3,fun x=>[I x.Rate,I x.Queries,I x.Grind]⟩
def YI (x:Setting):Prop:=bdI x.Rate∧bdI x.Queries∧bdI x.Grind
def a7N:En Source:=⟨4,fun x=>[sl ae x.Script,I x.At,S x.State,I x.Count]⟩
def ZE (x:Source):Prop:=bdL zH x.Script∧bdI x.At∧bdS x.State∧bdI x.Count
def dH:En aP:=⟨2,fun x=>[sl ae x.word,sl (eL eS) x.rows]⟩
def a3R (x:aP):Prop:=bdL zH x.word∧bdL (bdL bdS) x.rows
theorem Mk:dH.esz=2:=by decide
attribute [go_sem] Mk
def aG:En aB:=⟨2,fun x=>[sl ae x.Pairs,sl (eL eS) x.Paths]⟩
def a2J (x:aB):Prop:=bdL zH x.Pairs∧bdL (bdL bdS) x.Paths
theorem Uw:aG.esz=2:=by decide
attribute [go_sem] Uw
def a6z:En aC:=⟨6,fun x=>[sl (eL ae) x.Rounds,sl eS x.Roots,I x.Last.A,I x.Last.B,I x.Nonce,sl aG x.Queries]⟩
def Y4 (x:aC):Prop:=bdL (bdL zH) x.Rounds∧bdL bdS x.Roots∧zH x.Last∧bdI x.Nonce∧bdL a2J x.Queries
def UP:En BC:=⟨3,fun x=>[I x.Row,I x.Col,I x.Value]⟩
def PI (x:BC):Prop:=bdI x.Row∧bdI x.Col∧bdI x.Value
def a7O:En Vn:=⟨6,fun x=>[I x.Rows,I x.Cols,I x.Publics,sl UP x.A,sl UP x.B,sl UP x.C]⟩
def a6Z (x:Vn):Prop:=bdI x.Rows∧bdI x.Cols∧bdI x.Publics∧bdL PI x.A∧bdL PI x.B∧bdL PI x.C
def a85:En a3T:=⟨17,fun x=>[S x.Root,sl (eL ae) x.Gates,I x.VA.A,I x.VA.B,I x.VB.A,I x.VB.B,I x.VC.A,I x.VC.B,sl (eL ae) x.Wires,I x.VW.A,I x.VW.B,sl (eL ae) x.Open.Rounds,sl eS x.Open.Roots,I x.Open.Last.A,I x.Open.Last.B,I x.Open.Nonce,sl aG x.Open.Queries]⟩
def a7K (x:a3T):Prop:=bdS x.Root∧bdL (bdL zH) x.Gates∧zH x.VA∧zH x.VB∧zH x.VC∧bdL (bdL zH) x.Wires∧zH x.VW∧Y4 x.Open
def a7L:En ZV:=⟨2,fun x=>[S x.t,B x.ok]⟩
def a77 (x:ZV):Prop:=bdS x.t∧bdT (α:=Bool) x.ok
def a49:En KM:=⟨1,fun x=>[sl eU8 x.b]⟩
def a36 (x:KM):Prop:=bdL (bdT (α:=UInt8)) x.b
def a41:En a4w:=⟨4,fun x=>[I x.Op,I x.A,I x.B,I x.K]⟩
def a4R (x:a4w):Prop:=bdI x.Op∧bdI x.A∧bdI x.B∧bdI x.K
def a7A:En Circuit:=⟨1,fun x=>[sl a41 x.Gates]⟩
def XQ (x:Circuit):Prop:=bdL a4R x.Gates
def a7I:En Z0:=⟨10,fun x=>[sl a41 x.Circuit.Gates,sl eI x.Publics,sl eI x.Inputs,I x.Setting.Rate,I x.Setting.Queries,I x.Setting.Grind,sl ae x.Source.Script,I x.Source.At,S x.Source.State,I x.Source.Count]⟩
def a7e (x:Z0):Prop:=XQ x.Circuit∧bdL bdI x.Publics∧bdL bdI x.Inputs∧YI x.Setting∧ZE x.Source
end Go.AI.Fn
