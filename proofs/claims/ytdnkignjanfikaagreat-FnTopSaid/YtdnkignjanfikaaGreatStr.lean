/- Part. -/
import Derived.Test.YtdnkignjanfikaaGreatTb1
import Derived.Test.YtdnkignjanfikaaGreatAiTop3
namespace Go.AI.Fn
structure aC where
 Op:Int
 A:Int
 B:Int
 K:Int
structure Circuit where
 Gates:(List aC)
structure Setting where
 Rate:Int
 Queries:Int
 Grind:Int
structure Ext where
 A:Int
 B:Int
structure Source where
 Script:(List Ext)
 At:Int
 State:(List UInt8)
 Count:Int
structure Wa where
 Circuit:Circuit
 Publics:(List Int)
 Inputs:(List Int)
 Setting:Setting
 Source:Source
structure bV where
 code:(List UInt8)
 at_:Int
 seed:Int
structure cw where
 Pairs:(List Ext)
 Paths:(List (List (List UInt8)))
structure bK where
 Rounds:(List (List Ext))
 Roots:(List (List UInt8))
 Last:Ext
 Nonce:Int
 Queries:(List cw)
structure jF where
 Root:(List UInt8)
 Gates:(List (List Ext))
 VA:Ext
 VB:Ext
 VC:Ext
 Wires:(List (List Ext))
 VW:Ext
 Open:bK
structure aN where
 Row:Int
 Col:Int
 Value:Int
structure bD where
 Rows:Int
 Cols:Int
 Publics:Int
 A:(List aN)
 B:(List aN)
 C:(List aN)
structure cQ where
 word:(List Ext)
 rows:(List (List (List UInt8)))
structure dQ where
 b:(List UInt8)
structure Handed where
 Publics:(List Int)
 Inputs:(List Int)
structure b2k where
 t:(List UInt8)
 ok:Bool
def en:En aC:=⟨4,fun x=>[I x.Op,I x.A,I x.B,I x.K]⟩
def c41 (x:aC):Prop:=bdI x.Op∧bdI x.A∧bdI x.B∧bdI x.K
theorem a8I:en.esz=4:=by decide
theorem a8z (x:aC):en.enc x=[I x.Op,I x.A,I x.B,I x.K]:=rfl
theorem b3E (a0 a1 a2 a3:Int) (l:List aC):Av [I a0,I a1,I a2,I a3] (rws en l)=rws en ((⟨a0,a1,a2,a3⟩:aC)::l):=rfl
attribute [go_sem] a8I a8z b3E
def c5z:En Circuit:=⟨1,fun x=>[sl en x.Gates]⟩
def a6y (x:Circuit):Prop:=bdL c41 x.Gates
def c5v:En Setting:=⟨3,fun x=>[I x.Rate,I x.Queries,I x.Grind]⟩
def a8k (x:Setting):Prop:=bdI x.Rate∧bdI x.Queries∧bdI x.Grind
def aG:En Ext:=⟨2,fun x=>[I x.A,I x.B]⟩
def Gy (x:Ext):Prop:=bdI x.A∧bdI x.B
theorem b07:aG.esz=2:=by decide
theorem b49 (x:Ext):aG.enc x=[I x.A,I x.B]:=rfl
theorem b5Z (a0 a1:Int) (l:List Ext):Av [I a0,I a1] (rws aG l)=rws aG ((⟨a0,a1⟩:Ext)::l):=rfl
theorem c0K (a0 a1:Int) (l:List Ext) (i:Nat):Gg (rws aG l) i [I a0,I a1]=rws aG (l.set i (⟨a0,a1⟩:Ext)):=by simp [Gg,rws,aG]
theorem c1I (x:Ext):Ext.mk x.A x.B=x:=rfl
attribute [go_sem] b07 b49 b5Z c0K c1I
def c6F:En Source:=⟨4,fun x=>[sl aG x.Script,I x.At,S x.State,I x.Count]⟩
def b4Y (x:Source):Prop:=bdL Gy x.Script∧bdI x.At∧bdS x.State∧bdI x.Count
def c6D:En Wa:=⟨10,fun x=>[sl en x.Circuit.Gates,sl eI x.Publics,sl eI x.Inputs,I x.Setting.Rate,I x.Setting.Queries,I x.Setting.Grind,sl aG x.Source.Script,I x.Source.At,S x.Source.State,I x.Source.Count]⟩
def c5i (x:Wa):Prop:=a6y x.Circuit∧bdL bdI x.Publics∧bdL bdI x.Inputs∧a8k x.Setting∧b4Y x.Source
def c6E:En bV:=⟨3,fun x=>[sl eU8 x.code,I x.at_,I x.seed]⟩
def c4W (x:bV):Prop:=bdL (bdT (α:=UInt8)) x.code∧bdI x.at_∧bdI x.seed
def db:En cw:=⟨2,fun x=>[sl aG x.Pairs,sl (eL eS) x.Paths]⟩
def b8H (x:cw):Prop:=bdL Gy x.Pairs∧bdL (bdL bdS) x.Paths
theorem a2C:db.esz=2:=by decide
theorem a33 (x:cw):db.enc x=[sl aG x.Pairs,sl (eL eS) x.Paths]:=rfl
theorem a7J (a0:(List Ext)) (a1:(List (List (List UInt8)))) (l:List cw):Av [sl aG a0,sl (eL eS) a1] (rws db l)=rws db ((⟨a0,a1⟩:cw)::l):=rfl
attribute [go_sem] a2C a33 a7J
def c4G:En bK:=⟨6,fun x=>[sl (eL aG) x.Rounds,sl eS x.Roots,I x.Last.A,I x.Last.B,I x.Nonce,sl db x.Queries]⟩
def a7H (x:bK):Prop:=bdL (bdL Gy) x.Rounds∧bdL bdS x.Roots∧Gy x.Last∧bdI x.Nonce∧bdL b8H x.Queries
def c70:En jF:=⟨17,fun x=>[S x.Root,sl (eL aG) x.Gates,I x.VA.A,I x.VA.B,I x.VB.A,I x.VB.B,I x.VC.A,I x.VC.B,sl (eL aG) x.Wires,I x.VW.A,I x.VW.B,sl (eL aG) x.Open.Rounds,sl eS x.Open.Roots,I x.Open.Last.A,I x.Open.Last.B,I x.Open.Nonce,sl db x.Open.Queries]⟩
def c6G (x:jF):Prop:=bdS x.Root∧bdL (bdL Gy) x.Gates∧Gy x.VA∧Gy x.VB∧Gy x.VC∧bdL (bdL Gy) x.Wires∧Gy x.VW∧a7H x.Open
def aV:En aN:=⟨3,fun x=>[I x.Row,I x.Col,I x.Value]⟩
def PR (x:aN):Prop:=bdI x.Row∧bdI x.Col∧bdI x.Value
theorem Kh:aV.esz=3:=by decide
theorem JB (x:aN):aV.enc x=[I x.Row,I x.Col,I x.Value]:=rfl
theorem NF (a0 a1 a2:Int) (l:List aN):Av [I a0,I a1,I a2] (rws aV l)=rws aV ((⟨a0,a1,a2⟩:aN)::l):=rfl
theorem Sh (a0 a1 a2:Int) (l:List aN) (i:Nat):Gg (rws aV l) i [I a0,I a1,I a2]=rws aV (l.set i (⟨a0,a1,a2⟩:aN)):=by simp [Gg,rws,aV]
theorem Tg (x:aN):aN.mk x.Row x.Col x.Value=x:=rfl
attribute [go_sem] Kh JB NF Sh Tg
def c6B:En bD:=⟨6,fun x=>[I x.Rows,I x.Cols,I x.Publics,sl aV x.A,sl aV x.B,sl aV x.C]⟩
def c6y (x:bD):Prop:=bdI x.Rows∧bdI x.Cols∧bdI x.Publics∧bdL PR x.A∧bdL PR x.B∧bdL PR x.C
def im:En cQ:=⟨2,fun x=>[sl aG x.word,sl (eL eS) x.rows]⟩
def c0x (x:cQ):Prop:=bdL Gy x.word∧bdL (bdL bdS) x.rows
theorem RO:im.esz=2:=by decide
theorem QB (x:cQ):im.enc x=[sl aG x.word,sl (eL eS) x.rows]:=rfl
theorem TS (a0:(List Ext)) (a1:(List (List (List UInt8)))) (l:List cQ):Av [sl aG a0,sl (eL eS) a1] (rws im l)=rws im ((⟨a0,a1⟩:cQ)::l):=rfl
theorem XU (x:cQ):cQ.mk x.word x.rows=x:=rfl
attribute [go_sem] RO QB TS XU
def c03:En dQ:=⟨1,fun x=>[sl eU8 x.b]⟩
def b9H (x:dQ):Prop:=bdL (bdT (α:=UInt8)) x.b
def c6A:En Handed:=⟨2,fun x=>[sl eI x.Publics,sl eI x.Inputs]⟩
def c4S (x:Handed):Prop:=bdL bdI x.Publics∧bdL bdI x.Inputs
def c6C:En b2k:=⟨2,fun x=>[S x.t,B x.ok]⟩
def c66 (x:b2k):Prop:=bdS x.t∧bdT (α:=Bool) x.ok
end Go.AI.Fn
