/- Structs. -/
import Derived.Test.YtdmhkkcihecndaaGreatTb1
import Derived.Test.YtdmhkkcihecndaaGreatAiArg
import Derived.Test.YtdmhkkcihecndaaGreatAiAdd
namespace Go.AI.Fn
structure Ext where
 A:Int
 B:Int
structure bJ where
 code:(List UInt8)
 at_:Int
 seed:Int
structure Setting where
 Rate:Int
 Queries:Int
 Grind:Int
structure Source where
 Script:(List Ext)
 At:Int
 State:(List UInt8)
 Count:Int
structure aG where
 word:(List Ext)
 rows:(List (List (List UInt8)))
structure aq where
 Pairs:(List Ext)
 Paths:(List (List (List UInt8)))
structure aC where
 Rounds:(List (List Ext))
 Roots:(List (List UInt8))
 Last:Ext
 Nonce:Int
 Queries:(List aq)
structure tR where
 Row:Int
 Col:Int
 Value:Int
structure a0a where
 Rows:Int
 Cols:Int
 Publics:Int
 A:(List tR)
 B:(List tR)
 C:(List tR)
structure b2A where
 Root:(List UInt8)
 Gates:(List (List Ext))
 VA:Ext
 VB:Ext
 VC:Ext
 Wires:(List (List Ext))
 VW:Ext
 Open:aC
structure a6l where
 t:(List UInt8)
 ok:Bool
structure Od where
 b:(List UInt8)
structure b3N where
 Op:Int
 A:Int
 B:Int
 K:Int
structure Circuit where
 Gates:(List b3N)
structure a8p where
 Circuit:Circuit
 Publics:(List Int)
 Inputs:(List Int)
 Setting:Setting
 Source:Source
def ag:En Ext:=⟨2,fun x=>[I x.A,I x.B]⟩
def As (x:Ext):Prop:=bdI x.A∧bdI x.B
theorem a7f:ag.esz=2:=by decide
theorem a4S (x:Ext):ag.enc x=[I x.A,I x.B]:=rfl
theorem a8C (a0 a1:Int) (l:List Ext):CJ [I a0,I a1] (rws ag l)=rws ag ((⟨a0,a1⟩:Ext)::l):=rfl
theorem b4y (a0 a1:Int) (l:List Ext) (i:Nat):vz (rws ag l) i [I a0,I a1]=rws ag (l.set i (⟨a0,a1⟩:Ext)):=by simp [vz,rws,ag]
theorem b58 (x:Ext):Ext.mk x.A x.B=x:=rfl
attribute [go_sem] a7f a4S a8C b4y b58
def b7c:En bJ:=⟨3,fun x=>[sl eU8 x.code,I x.at_,I x.seed]⟩
def b5r (x:bJ):Prop:=bdL (bdT (α:=UInt8)) x.code∧bdI x.at_∧bdI x.seed
def b5T:En Setting:=⟨3,fun x=>[I x.Rate,I x.Queries,I x.Grind]⟩
def a2L (x:Setting):Prop:=bdI x.Rate∧bdI x.Queries∧bdI x.Grind
def b77:En Source:=⟨4,fun x=>[sl ag x.Script,I x.At,S x.State,I x.Count]⟩
def a55 (x:Source):Prop:=bdL As x.Script∧bdI x.At∧bdS x.State∧bdI x.Count
def dt:En aG:=⟨2,fun x=>[sl ag x.word,sl (eL eS) x.rows]⟩
def b2j (x:aG):Prop:=bdL As x.word∧bdL (bdL bdS) x.rows
theorem MT:dt.esz=2:=by decide
theorem P4 (x:aG):dt.enc x=[sl ag x.word,sl (eL eS) x.rows]:=rfl
theorem Pv (a0:(List Ext)) (a1:(List (List (List UInt8)))) (l:List aG):CJ [sl ag a0,sl (eL eS) a1] (rws dt l)=rws dt ((⟨a0,a1⟩:aG)::l):=rfl
theorem Tl (x:aG):aG.mk x.word x.rows=x:=rfl
attribute [go_sem] MT P4 Pv Tl
def aQ:En aq:=⟨2,fun x=>[sl ag x.Pairs,sl (eL eS) x.Paths]⟩
def a9Q (x:aq):Prop:=bdL As x.Pairs∧bdL (bdL bdS) x.Paths
theorem Zz:aQ.esz=2:=by decide
theorem Zr (x:aq):aQ.enc x=[sl ag x.Pairs,sl (eL eS) x.Paths]:=rfl
theorem a2h (a0:(List Ext)) (a1:(List (List (List UInt8)))) (l:List aq):CJ [sl ag a0,sl (eL eS) a1] (rws aQ l)=rws aQ ((⟨a0,a1⟩:aq)::l):=rfl
theorem a8a (a0:(List Ext)) (a1:(List (List (List UInt8)))) (l:List aq) (i:Nat):vz (rws aQ l) i [sl ag a0,sl (eL eS) a1]=rws aQ (l.set i (⟨a0,a1⟩:aq)):=by simp [vz,rws,aQ]
theorem a78 (x:aq):aq.mk x.Pairs x.Paths=x:=rfl
attribute [go_sem] Zz Zr a2h a8a a78
def b6q:En aC:=⟨6,fun x=>[sl (eL ag) x.Rounds,sl eS x.Roots,I x.Last.A,I x.Last.B,I x.Nonce,sl aQ x.Queries]⟩
def a2u (x:aC):Prop:=bdL (bdL As) x.Rounds∧bdL bdS x.Roots∧As x.Last∧bdI x.Nonce∧bdL a9Q x.Queries
def Ay:En tR:=⟨3,fun x=>[I x.Row,I x.Col,I x.Value]⟩
def Ul (x:tR):Prop:=bdI x.Row∧bdI x.Col∧bdI x.Value
theorem YW:Ay.esz=3:=by decide
theorem Zg (x:tR):Ay.enc x=[I x.Row,I x.Col,I x.Value]:=rfl
theorem a57 (a0 a1 a2:Int) (l:List tR) (i:Nat):vz (rws Ay l) i [I a0,I a1,I a2]=rws Ay (l.set i (⟨a0,a1,a2⟩:tR)):=by simp [vz,rws,Ay]
theorem a4N (x:tR):tR.mk x.Row x.Col x.Value=x:=rfl
attribute [go_sem] YW Zg a57 a4N
def b7d:En a0a:=⟨6,fun x=>[I x.Rows,I x.Cols,I x.Publics,sl Ay x.A,sl Ay x.B,sl Ay x.C]⟩
def b5H (x:a0a):Prop:=bdI x.Rows∧bdI x.Cols∧bdI x.Publics∧bdL Ul x.A∧bdL Ul x.B∧bdL Ul x.C
def b7x:En b2A:=⟨17,fun x=>[S x.Root,sl (eL ag) x.Gates,I x.VA.A,I x.VA.B,I x.VB.A,I x.VB.B,I x.VC.A,I x.VC.B,sl (eL ag) x.Wires,I x.VW.A,I x.VW.B,sl (eL ag) x.Open.Rounds,sl eS x.Open.Roots,I x.Open.Last.A,I x.Open.Last.B,I x.Open.Nonce,sl aQ x.Open.Queries]⟩
def b7a (x:b2A):Prop:=bdS x.Root∧bdL (bdL As) x.Gates∧As x.VA∧As x.VB∧As x.VC∧bdL (bdL As) x.Wires∧As x.VW∧a2u x.Open
def b78:En a6l:=⟨2,fun x=>[S x.t,B x.ok]⟩
def b5x (x:a6l):Prop:=bdS x.t∧bdT (α:=Bool) x.ok
def b2B:En Od:=⟨1,fun x=>[sl eU8 x.b]⟩
def a8P (x:Od):Prop:=bdL (bdT (α:=UInt8)) x.b
def b2e:En b3N:=⟨4,fun x=>[I x.Op,I x.A,I x.B,I x.K]⟩
def b37 (x:b3N):Prop:=bdI x.Op∧bdI x.A∧bdI x.B∧bdI x.K
def b69:En Circuit:=⟨1,fun x=>[sl b2e x.Gates]⟩
def a2l (x:Circuit):Prop:=bdL b37 x.Gates
def b7b:En a8p:=⟨10,fun x=>[sl b2e x.Circuit.Gates,sl eI x.Publics,sl eI x.Inputs,I x.Setting.Rate,I x.Setting.Queries,I x.Setting.Grind,sl ag x.Source.Script,I x.Source.At,S x.Source.State,I x.Source.Count]⟩
def b5y (x:a8p):Prop:=a2l x.Circuit∧bdL bdI x.Publics∧bdL bdI x.Inputs∧a2L x.Setting∧a55 x.Source
end Go.AI.Fn
