/- Part. -/
import Derived.Test.YtdnkignjanfikaaGreatTb1
import Derived.Test.YtdnkignjanfikaaGreatAiTop3
namespace Go.AI.Fn
structure aC where
 Op:Int
 A:Int
 B:Int
 K:Int
structure Circuit where
 Gates:(List aC)
structure Setting where
 Rate:Int
 Queries:Int
 Grind:Int
structure Ext where
 A:Int
 B:Int
structure Source where
 Script:(List Ext)
 At:Int
 State:(List UInt8)
 Count:Int
structure Wt where
 Circuit:Circuit
 Publics:(List Int)
 Inputs:(List Int)
 Setting:Setting
 Source:Source
structure bV where
 code:(List UInt8)
 at_:Int
 seed:Int
structure cx where
 Pairs:(List Ext)
 Paths:(List (List (List UInt8)))
structure bJ where
 Rounds:(List (List Ext))
 Roots:(List (List UInt8))
 Last:Ext
 Nonce:Int
 Queries:(List cx)
structure jy where
 Root:(List UInt8)
 Gates:(List (List Ext))
 VA:Ext
 VB:Ext
 VC:Ext
 Wires:(List (List Ext))
 VW:Ext
 Open:bJ
structure aN where
 Row:Int
 Col:Int
 Value:Int
structure bD where
 Rows:Int
 Cols:Int
 Publics:Int
 A:(List aN)
 B:(List aN)
 C:(List aN)
structure cQ where
 word:(List Ext)
 rows:(List (List (List UInt8)))
structure dQ where
 b:(List UInt8)
structure Handed where
 Publics:(List Int)
 Inputs:(List Int)
structure b0g where
 t:(List UInt8)
 ok:Bool
def er:En aC:=⟨4,fun x=>[I x.Op,I x.A,I x.B,I x.K]⟩
def c0I (x:aC):Prop:=bdI x.Op∧bdI x.A∧bdI x.B∧bdI x.K
theorem a7a:er.esz=4:=by decide
theorem a8k (x:aC):er.enc x=[I x.Op,I x.A,I x.B,I x.K]:=rfl
theorem b2p (a0 a1 a2 a3:Int) (l:List aC):Ak [I a0,I a1,I a2,I a3] (rws er l)=rws er ((⟨a0,a1,a2,a3⟩:aC)::l):=rfl
attribute [go_sem] a7a a8k b2p
def c5Y:En Circuit:=⟨1,fun x=>[sl er x.Gates]⟩
def a92 (x:Circuit):Prop:=bdL c0I x.Gates
def c63:En Setting:=⟨3,fun x=>[I x.Rate,I x.Queries,I x.Grind]⟩
def a7x (x:Setting):Prop:=bdI x.Rate∧bdI x.Queries∧bdI x.Grind
def aG:En Ext:=⟨2,fun x=>[I x.A,I x.B]⟩
def FX (x:Ext):Prop:=bdI x.A∧bdI x.B
theorem b2n:aG.esz=2:=by decide
theorem b3E (x:Ext):aG.enc x=[I x.A,I x.B]:=rfl
theorem b5N (a0 a1:Int) (l:List Ext):Ak [I a0,I a1] (rws aG l)=rws aG ((⟨a0,a1⟩:Ext)::l):=rfl
theorem c1R (a0 a1:Int) (l:List Ext) (i:Nat):Gj (rws aG l) i [I a0,I a1]=rws aG (l.set i (⟨a0,a1⟩:Ext)):=by simp [Gj,rws,aG]
theorem c1V (x:Ext):Ext.mk x.A x.B=x:=rfl
attribute [go_sem] b2n b3E b5N c1R c1V
def c6C:En Source:=⟨4,fun x=>[sl aG x.Script,I x.At,S x.State,I x.Count]⟩
def b34 (x:Source):Prop:=bdL FX x.Script∧bdI x.At∧bdS x.State∧bdI x.Count
def c6E:En Wt:=⟨10,fun x=>[sl er x.Circuit.Gates,sl eI x.Publics,sl eI x.Inputs,I x.Setting.Rate,I x.Setting.Queries,I x.Setting.Grind,sl aG x.Source.Script,I x.Source.At,S x.Source.State,I x.Source.Count]⟩
def c65 (x:Wt):Prop:=a92 x.Circuit∧bdL bdI x.Publics∧bdL bdI x.Inputs∧a7x x.Setting∧b34 x.Source
def c6D:En bV:=⟨3,fun x=>[sl eU8 x.code,I x.at_,I x.seed]⟩
def c5S (x:bV):Prop:=bdL (bdT (α:=UInt8)) x.code∧bdI x.at_∧bdI x.seed
def db:En cx:=⟨2,fun x=>[sl aG x.Pairs,sl (eL eS) x.Paths]⟩
def b7T (x:cx):Prop:=bdL FX x.Pairs∧bdL (bdL bdS) x.Paths
theorem a3J:db.esz=2:=by decide
theorem a1V (x:cx):db.enc x=[sl aG x.Pairs,sl (eL eS) x.Paths]:=rfl
theorem a6U (a0:(List Ext)) (a1:(List (List (List UInt8)))) (l:List cx):Ak [sl aG a0,sl (eL eS) a1] (rws db l)=rws db ((⟨a0,a1⟩:cx)::l):=rfl
attribute [go_sem] a3J a1V a6U
def c5r:En bJ:=⟨6,fun x=>[sl (eL aG) x.Rounds,sl eS x.Roots,I x.Last.A,I x.Last.B,I x.Nonce,sl db x.Queries]⟩
def a8C (x:bJ):Prop:=bdL (bdL FX) x.Rounds∧bdL bdS x.Roots∧FX x.Last∧bdI x.Nonce∧bdL b7T x.Queries
def c7e:En jy:=⟨17,fun x=>[S x.Root,sl (eL aG) x.Gates,I x.VA.A,I x.VA.B,I x.VB.A,I x.VB.B,I x.VC.A,I x.VC.B,sl (eL aG) x.Wires,I x.VW.A,I x.VW.B,sl (eL aG) x.Open.Rounds,sl eS x.Open.Roots,I x.Open.Last.A,I x.Open.Last.B,I x.Open.Nonce,sl db x.Open.Queries]⟩
def c6A (x:jy):Prop:=bdS x.Root∧bdL (bdL FX) x.Gates∧FX x.VA∧FX x.VB∧FX x.VC∧bdL (bdL FX) x.Wires∧FX x.VW∧a8C x.Open
def aV:En aN:=⟨3,fun x=>[I x.Row,I x.Col,I x.Value]⟩
def PJ (x:aN):Prop:=bdI x.Row∧bdI x.Col∧bdI x.Value
theorem JY:aV.esz=3:=by decide
theorem Kh (x:aN):aV.enc x=[I x.Row,I x.Col,I x.Value]:=rfl
theorem MV (a0 a1 a2:Int) (l:List aN):Ak [I a0,I a1,I a2] (rws aV l)=rws aV ((⟨a0,a1,a2⟩:aN)::l):=rfl
theorem Qx (a0 a1 a2:Int) (l:List aN) (i:Nat):Gj (rws aV l) i [I a0,I a1,I a2]=rws aV (l.set i (⟨a0,a1,a2⟩:aN)):=by simp [Gj,rws,aV]
theorem Rs (x:aN):aN.mk x.Row x.Col x.Value=x:=rfl
attribute [go_sem] JY Kh MV Qx Rs
def c6G:En bD:=⟨6,fun x=>[I x.Rows,I x.Cols,I x.Publics,sl aV x.A,sl aV x.B,sl aV x.C]⟩
def c4u (x:bD):Prop:=bdI x.Rows∧bdI x.Cols∧bdI x.Publics∧bdL PJ x.A∧bdL PJ x.B∧bdL PJ x.C
def io:En cQ:=⟨2,fun x=>[sl aG x.word,sl (eL eS) x.rows]⟩
def c0l (x:cQ):Prop:=bdL FX x.word∧bdL (bdL bdS) x.rows
theorem QR:io.esz=2:=by decide
theorem S7 (x:cQ):io.enc x=[sl aG x.word,sl (eL eS) x.rows]:=rfl
theorem Uk (a0:(List Ext)) (a1:(List (List (List UInt8)))) (l:List cQ):Ak [sl aG a0,sl (eL eS) a1] (rws io l)=rws io ((⟨a0,a1⟩:cQ)::l):=rfl
theorem Wq (x:cQ):cQ.mk x.word x.rows=x:=rfl
attribute [go_sem] QR S7 Uk Wq
def c0d:En dQ:=⟨1,fun x=>[sl eU8 x.b]⟩
def b7W (x:dQ):Prop:=bdL (bdT (α:=UInt8)) x.b
def c6F:En Handed:=⟨2,fun x=>[sl eI x.Publics,sl eI x.Inputs]⟩
def c5W (x:Handed):Prop:=bdL bdI x.Publics∧bdL bdI x.Inputs
def c6B:En b0g:=⟨2,fun x=>[S x.t,B x.ok]⟩
def c5I (x:b0g):Prop:=bdS x.t∧bdT (α:=Bool) x.ok
end Go.AI.Fn
