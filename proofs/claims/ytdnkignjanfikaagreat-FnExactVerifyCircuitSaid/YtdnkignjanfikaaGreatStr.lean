/- Structs. -/
import Derived.Test.YtdnkignjanfikaaGreatTb1
import Derived.Test.YtdnkignjanfikaaGreatAiTop3
import Derived.Test.YtdnkignjanfikaaGreatAiAdd
import Derived.Test.YtdnkignjanfikaaGreatAiEntX
namespace Go.AI.Fn
structure Gate where
 Op:Int
 A:Int
 B:Int
 K:Int
structure Circuit where
 Gates:(List Gate)
structure Setting where
 Rate:Int
 Queries:Int
 Grind:Int
structure Ext where
 A:Int
 B:Int
structure Source where
 Script:(List Ext)
 At:Int
 State:(List UInt8)
 Count:Int
structure Ei where
 Circuit:Circuit
 Publics:(List Int)
 Inputs:(List Int)
 Setting:Setting
 Source:Source
structure tN where
 code:(List UInt8)
 at_:Int
 seed:Int
structure Query where
 Pairs:(List Ext)
 Paths:(List (List (List UInt8)))
structure Opening where
 Rounds:(List (List Ext))
 Roots:(List (List UInt8))
 Last:Ext
 Nonce:Int
 Queries:(List Query)
structure Proof where
 Root:(List UInt8)
 Gates:(List (List Ext))
 VA:Ext
 VB:Ext
 VC:Ext
 Wires:(List (List Ext))
 VW:Ext
 Open:Opening
structure au where
 Row:Int
 Col:Int
 Value:Int
structure bk where
 Rows:Int
 Cols:Int
 Publics:Int
 A:(List au)
 B:(List au)
 C:(List au)
structure ik where
 word:(List Ext)
 rows:(List (List (List UInt8)))
structure jN where
 b:(List UInt8)
structure Handed where
 Publics:(List Int)
 Inputs:(List Int)
structure Dq where
 t:(List UInt8)
 ok:Bool
def eGate:En Gate:=⟨4,fun x=>[I x.Op,I x.A,I x.B,I x.K]⟩
def bdGate (x:Gate):Prop:=bdI x.Op∧bdI x.A∧bdI x.B∧bdI x.K
theorem b1j:eGate.esz=4:=by decide
theorem a9d (x:Gate):eGate.enc x=[I x.Op,I x.A,I x.B,I x.K]:=rfl
theorem b6E (a0 a1 a2 a3:Int) (l:List Gate):dU [I a0,I a1,I a2,I a3] (rws eGate l)=rws eGate ((⟨a0,a1,a2,a3⟩:Gate)::l):=rfl
theorem b9O (a0 a1 a2 a3:Int) (l:List Gate) (i:Nat):iV (rws eGate l) i [I a0,I a1,I a2,I a3]=rws eGate (l.set i (⟨a0,a1,a2,a3⟩:Gate)):=by simp [iV,rws,eGate]
theorem b7C (x:Gate):Gate.mk x.Op x.A x.B x.K=x:=rfl
attribute [go_sem] b1j a9d b6E b9O b7C
def eCircuit:En Circuit:=⟨1,fun x=>[sl eGate x.Gates]⟩
def bdCircuit (x:Circuit):Prop:=bdL bdGate x.Gates
theorem a0O:eCircuit.esz=1:=by decide
theorem Z3 (x:Circuit):eCircuit.enc x=[sl eGate x.Gates]:=rfl
theorem a30 (a0:(List Gate)) (l:List Circuit):dU [sl eGate a0] (rws eCircuit l)=rws eCircuit ((⟨a0⟩:Circuit)::l):=rfl
theorem a6d (a0:(List Gate)) (l:List Circuit) (i:Nat):iV (rws eCircuit l) i [sl eGate a0]=rws eCircuit (l.set i (⟨a0⟩:Circuit)):=by simp [iV,rws,eCircuit]
theorem a5C (x:Circuit):Circuit.mk x.Gates=x:=rfl
attribute [go_sem] a0O Z3 a30 a6d a5C
theorem UN (l:List Circuit):dU [.imm 1 []] (rws eCircuit l)=rws eCircuit ((⟨[]⟩:Circuit)::l):=rfl
attribute [go_sem] UN
def eSetting:En Setting:=⟨3,fun x=>[I x.Rate,I x.Queries,I x.Grind]⟩
def bdSetting (x:Setting):Prop:=bdI x.Rate∧bdI x.Queries∧bdI x.Grind
theorem Zo:eSetting.esz=3:=by decide
theorem a1k (x:Setting):eSetting.enc x=[I x.Rate,I x.Queries,I x.Grind]:=rfl
theorem a4X (a0 a1 a2:Int) (l:List Setting):dU [I a0,I a1,I a2] (rws eSetting l)=rws eSetting ((⟨a0,a1,a2⟩:Setting)::l):=rfl
theorem a7o (a0 a1 a2:Int) (l:List Setting) (i:Nat):iV (rws eSetting l) i [I a0,I a1,I a2]=rws eSetting (l.set i (⟨a0,a1,a2⟩:Setting)):=by simp [iV,rws,eSetting]
theorem a6f (x:Setting):Setting.mk x.Rate x.Queries x.Grind=x:=rfl
attribute [go_sem] Zo a1k a4X a7o a6f
def eExt:En Ext:=⟨2,fun x=>[I x.A,I x.B]⟩
def bdExt (x:Ext):Prop:=bdI x.A∧bdI x.B
theorem b4v:eExt.esz=2:=by decide
theorem b4d (x:Ext):eExt.enc x=[I x.A,I x.B]:=rfl
theorem b7r (a0 a1:Int) (l:List Ext):dU [I a0,I a1] (rws eExt l)=rws eExt ((⟨a0,a1⟩:Ext)::l):=rfl
theorem c2y (a0 a1:Int) (l:List Ext) (i:Nat):iV (rws eExt l) i [I a0,I a1]=rws eExt (l.set i (⟨a0,a1⟩:Ext)):=by simp [iV,rws,eExt]
theorem c1U (x:Ext):Ext.mk x.A x.B=x:=rfl
attribute [go_sem] b4v b4d b7r c2y c1U
def eSource:En Source:=⟨4,fun x=>[sl eExt x.Script,I x.At,S x.State,I x.Count]⟩
def bdSource (x:Source):Prop:=bdL bdExt x.Script∧bdI x.At∧bdS x.State∧bdI x.Count
theorem a26:eSource.esz=4:=by decide
theorem a3B (x:Source):eSource.enc x=[sl eExt x.Script,I x.At,S x.State,I x.Count]:=rfl
theorem a7p (a0:(List Ext)) (a1:Int) (a2:(List UInt8)) (a3:Int) (l:List Source):dU [sl eExt a0,I a1,S a2,I a3] (rws eSource l)=rws eSource ((⟨a0,a1,a2,a3⟩:Source)::l):=rfl
theorem b1q (a0:(List Ext)) (a1:Int) (a2:(List UInt8)) (a3:Int) (l:List Source) (i:Nat):iV (rws eSource l) i [sl eExt a0,I a1,S a2,I a3]=rws eSource (l.set i (⟨a0,a1,a2,a3⟩:Source)):=by simp [iV,rws,eSource]
theorem b01 (x:Source):Source.mk x.Script x.At x.State x.Count=x:=rfl
attribute [go_sem] a26 a3B a7p b1q b01
theorem a0x (a1:Int) (a2:(List UInt8)) (a3:Int) (l:List Source):dU [.imm 1 [],I a1,S a2,I a3] (rws eSource l)=rws eSource ((⟨[],a1,a2,a3⟩:Source)::l):=rfl
attribute [go_sem] a0x
def Eg:En Ei:=⟨10,fun x=>[sl eGate x.Circuit.Gates,sl eI x.Publics,sl eI x.Inputs,I x.Setting.Rate,I x.Setting.Queries,I x.Setting.Grind,sl eExt x.Source.Script,I x.Source.At,S x.Source.State,I x.Source.Count]⟩
def c48 (x:Ei):Prop:=bdCircuit x.Circuit∧bdL bdI x.Publics∧bdL bdI x.Inputs∧bdSetting x.Setting∧bdSource x.Source
theorem a54:Eg.esz=10:=by decide
theorem a3a (x:Ei):Eg.enc x=[sl eGate x.Circuit.Gates,sl eI x.Publics,sl eI x.Inputs,I x.Setting.Rate,I x.Setting.Queries,I x.Setting.Grind,sl eExt x.Source.Script,I x.Source.At,S x.Source.State,I x.Source.Count]:=rfl
theorem a6x (a0:(List Gate)) (a1 a2:(List Int)) (a3 a4 a5:Int) (a6:(List Ext)) (a7:Int) (a8:(List UInt8)) (a9:Int) (l:List Ei):dU [sl eGate a0,sl eI a1,sl eI a2,I a3,I a4,I a5,sl eExt a6,I a7,S a8,I a9] (rws Eg l)=rws Eg ((⟨⟨a0⟩,a1,a2,⟨a3,a4,a5⟩,⟨a6,a7,a8,a9⟩⟩:Ei)::l):=rfl
theorem b0Q (a0:(List Gate)) (a1 a2:(List Int)) (a3 a4 a5:Int) (a6:(List Ext)) (a7:Int) (a8:(List UInt8)) (a9:Int) (l:List Ei) (i:Nat):iV (rws Eg l) i [sl eGate a0,sl eI a1,sl eI a2,I a3,I a4,I a5,sl eExt a6,I a7,S a8,I a9]=rws Eg (l.set i (⟨⟨a0⟩,a1,a2,⟨a3,a4,a5⟩,⟨a6,a7,a8,a9⟩⟩:Ei)):=by simp [iV,rws,Eg]
theorem b0O (x:Ei):Ei.mk x.Circuit x.Publics x.Inputs x.Setting x.Source=x:=rfl
attribute [go_sem] a54 a3a a6x b0Q b0O
def xI:En tN:=⟨3,fun x=>[sl eU8 x.code,I x.at_,I x.seed]⟩
def c4v (x:tN):Prop:=bdL (bdT (α:=UInt8)) x.code∧bdI x.at_∧bdI x.seed
theorem a4W:xI.esz=3:=by decide
theorem a1N (x:tN):xI.enc x=[sl eU8 x.code,I x.at_,I x.seed]:=rfl
theorem a7k (a0:(List UInt8)) (a1 a2:Int) (l:List tN):dU [sl eU8 a0,I a1,I a2] (rws xI l)=rws xI ((⟨a0,a1,a2⟩:tN)::l):=rfl
theorem a9f (a0:(List UInt8)) (a1 a2:Int) (l:List tN) (i:Nat):iV (rws xI l) i [sl eU8 a0,I a1,I a2]=rws xI (l.set i (⟨a0,a1,a2⟩:tN)):=by simp [iV,rws,xI]
theorem b1L (x:tN):tN.mk x.code x.at_ x.seed=x:=rfl
attribute [go_sem] a4W a1N a7k a9f b1L
theorem a0V (a1 a2:Int) (l:List tN):dU [.imm 1 [],I a1,I a2] (rws xI l)=rws xI ((⟨[],a1,a2⟩:tN)::l):=rfl
attribute [go_sem] a0V
def eQuery:En Query:=⟨2,fun x=>[sl eExt x.Pairs,sl (eL eS) x.Paths]⟩
def bdQuery (x:Query):Prop:=bdL bdExt x.Pairs∧bdL (bdL bdS) x.Paths
theorem a6t:eQuery.esz=2:=by decide
theorem a5O (x:Query):eQuery.enc x=[sl eExt x.Pairs,sl (eL eS) x.Paths]:=rfl
theorem b0X (a0:(List Ext)) (a1:(List (List (List UInt8)))) (l:List Query):dU [sl eExt a0,sl (eL eS) a1] (rws eQuery l)=rws eQuery ((⟨a0,a1⟩:Query)::l):=rfl
theorem b3w (a0:(List Ext)) (a1:(List (List (List UInt8)))) (l:List Query) (i:Nat):iV (rws eQuery l) i [sl eExt a0,sl (eL eS) a1]=rws eQuery (l.set i (⟨a0,a1⟩:Query)):=by simp [iV,rws,eQuery]
theorem b5G (x:Query):Query.mk x.Pairs x.Paths=x:=rfl
attribute [go_sem] a6t a5O b0X b3w b5G
theorem a3O (a1:(List (List (List UInt8)))) (l:List Query):dU [.imm 1 [],sl (eL eS) a1] (rws eQuery l)=rws eQuery ((⟨[],a1⟩:Query)::l):=rfl
attribute [go_sem] a3O
theorem a3j (a0:(List Ext)) (l:List Query):dU [sl eExt a0,.imm 1 []] (rws eQuery l)=rws eQuery ((⟨a0,[]⟩:Query)::l):=rfl
attribute [go_sem] a3j
theorem a5d (l:List Query):dU [.imm 1 [],.imm 1 []] (rws eQuery l)=rws eQuery ((⟨[],[]⟩:Query)::l):=rfl
attribute [go_sem] a5d
def eOpening:En Opening:=⟨6,fun x=>[sl (eL eExt) x.Rounds,sl eS x.Roots,I x.Last.A,I x.Last.B,I x.Nonce,sl eQuery x.Queries]⟩
def bdOpening (x:Opening):Prop:=bdL (bdL bdExt) x.Rounds∧bdL bdS x.Roots∧bdExt x.Last∧bdI x.Nonce∧bdL bdQuery x.Queries
theorem Z6:eOpening.esz=6:=by decide
theorem YA (x:Opening):eOpening.enc x=[sl (eL eExt) x.Rounds,sl eS x.Roots,I x.Last.A,I x.Last.B,I x.Nonce,sl eQuery x.Queries]:=rfl
theorem a3m (a0:(List (List Ext))) (a1:(List (List UInt8))) (a2 a3 a4:Int) (a5:(List Query)) (l:List Opening):dU [sl (eL eExt) a0,sl eS a1,I a2,I a3,I a4,sl eQuery a5] (rws eOpening l)=rws eOpening ((⟨a0,a1,⟨a2,a3⟩,a4,a5⟩:Opening)::l):=rfl
theorem a5V (a0:(List (List Ext))) (a1:(List (List UInt8))) (a2 a3 a4:Int) (a5:(List Query)) (l:List Opening) (i:Nat):iV (rws eOpening l) i [sl (eL eExt) a0,sl eS a1,I a2,I a3,I a4,sl eQuery a5]=rws eOpening (l.set i (⟨a0,a1,⟨a2,a3⟩,a4,a5⟩:Opening)):=by simp [iV,rws,eOpening]
theorem a75 (x:Opening):Opening.mk x.Rounds x.Roots x.Last x.Nonce x.Queries=x:=rfl
attribute [go_sem] Z6 YA a3m a5V a75
theorem US (a1:(List (List UInt8))) (a2 a3 a4:Int) (a5:(List Query)) (l:List Opening):dU [.imm 1 [],sl eS a1,I a2,I a3,I a4,sl eQuery a5] (rws eOpening l)=rws eOpening ((⟨[],a1,⟨a2,a3⟩,a4,a5⟩:Opening)::l):=rfl
attribute [go_sem] US
theorem UT (a0:(List (List Ext))) (a2 a3 a4:Int) (a5:(List Query)) (l:List Opening):dU [sl (eL eExt) a0,.imm 1 [],I a2,I a3,I a4,sl eQuery a5] (rws eOpening l)=rws eOpening ((⟨a0,[],⟨a2,a3⟩,a4,a5⟩:Opening)::l):=rfl
attribute [go_sem] UT
theorem W2 (a2 a3 a4:Int) (a5:(List Query)) (l:List Opening):dU [.imm 1 [],.imm 1 [],I a2,I a3,I a4,sl eQuery a5] (rws eOpening l)=rws eOpening ((⟨[],[],⟨a2,a3⟩,a4,a5⟩:Opening)::l):=rfl
attribute [go_sem] W2
theorem Wv (a0:(List (List Ext))) (a1:(List (List UInt8))) (a2 a3 a4:Int) (l:List Opening):dU [sl (eL eExt) a0,sl eS a1,I a2,I a3,I a4,.imm 1 []] (rws eOpening l)=rws eOpening ((⟨a0,a1,⟨a2,a3⟩,a4,[]⟩:Opening)::l):=rfl
attribute [go_sem] Wv
theorem Wq (a1:(List (List UInt8))) (a2 a3 a4:Int) (l:List Opening):dU [.imm 1 [],sl eS a1,I a2,I a3,I a4,.imm 1 []] (rws eOpening l)=rws eOpening ((⟨[],a1,⟨a2,a3⟩,a4,[]⟩:Opening)::l):=rfl
attribute [go_sem] Wq
theorem We (a0:(List (List Ext))) (a2 a3 a4:Int) (l:List Opening):dU [sl (eL eExt) a0,.imm 1 [],I a2,I a3,I a4,.imm 1 []] (rws eOpening l)=rws eOpening ((⟨a0,[],⟨a2,a3⟩,a4,[]⟩:Opening)::l):=rfl
attribute [go_sem] We
theorem UD (a2 a3 a4:Int) (l:List Opening):dU [.imm 1 [],.imm 1 [],I a2,I a3,I a4,.imm 1 []] (rws eOpening l)=rws eOpening ((⟨[],[],⟨a2,a3⟩,a4,[]⟩:Opening)::l):=rfl
attribute [go_sem] UD
def eProof:En Proof:=⟨17,fun x=>[S x.Root,sl (eL eExt) x.Gates,I x.VA.A,I x.VA.B,I x.VB.A,I x.VB.B,I x.VC.A,I x.VC.B,sl (eL eExt) x.Wires,I x.VW.A,I x.VW.B,sl (eL eExt) x.Open.Rounds,sl eS x.Open.Roots,I x.Open.Last.A,I x.Open.Last.B,I x.Open.Nonce,sl eQuery x.Open.Queries]⟩
def bdProof (x:Proof):Prop:=bdS x.Root∧bdL (bdL bdExt) x.Gates∧bdExt x.VA∧bdExt x.VB∧bdExt x.VC∧bdL (bdL bdExt) x.Wires∧bdExt x.VW∧bdOpening x.Open
theorem a6O:eProof.esz=17:=by decide
theorem a7D (x:Proof):eProof.enc x=[S x.Root,sl (eL eExt) x.Gates,I x.VA.A,I x.VA.B,I x.VB.A,I x.VB.B,I x.VC.A,I x.VC.B,sl (eL eExt) x.Wires,I x.VW.A,I x.VW.B,sl (eL eExt) x.Open.Rounds,sl eS x.Open.Roots,I x.Open.Last.A,I x.Open.Last.B,I x.Open.Nonce,sl eQuery x.Open.Queries]:=rfl
theorem b02 (a0:(List UInt8)) (a1:(List (List Ext))) (a2 a3 a4 a5 a6 a7:Int) (a8:(List (List Ext))) (a9 a10:Int) (a11:(List (List Ext))) (a12:(List (List UInt8))) (a13 a14 a15:Int) (a16:(List Query)) (l:List Proof):dU [S a0,sl (eL eExt) a1,I a2,I a3,I a4,I a5,I a6,I a7,sl (eL eExt) a8,I a9,I a10,sl (eL eExt) a11,sl eS a12,I a13,I a14,I a15,sl eQuery a16] (rws eProof l)=rws eProof ((⟨a0,a1,⟨a2,a3⟩,⟨a4,a5⟩,⟨a6,a7⟩,a8,⟨a9,a10⟩,⟨a11,a12,⟨a13,a14⟩,a15,a16⟩⟩:Proof)::l):=rfl
theorem b48 (a0:(List UInt8)) (a1:(List (List Ext))) (a2 a3 a4 a5 a6 a7:Int) (a8:(List (List Ext))) (a9 a10:Int) (a11:(List (List Ext))) (a12:(List (List UInt8))) (a13 a14 a15:Int) (a16:(List Query)) (l:List Proof) (i:Nat):iV (rws eProof l) i [S a0,sl (eL eExt) a1,I a2,I a3,I a4,I a5,I a6,I a7,sl (eL eExt) a8,I a9,I a10,sl (eL eExt) a11,sl eS a12,I a13,I a14,I a15,sl eQuery a16]=rws eProof (l.set i (⟨a0,a1,⟨a2,a3⟩,⟨a4,a5⟩,⟨a6,a7⟩,a8,⟨a9,a10⟩,⟨a11,a12,⟨a13,a14⟩,a15,a16⟩⟩:Proof)):=by simp [iV,rws,eProof]
theorem b50 (x:Proof):Proof.mk x.Root x.Gates x.VA x.VB x.VC x.Wires x.VW x.Open=x:=rfl
attribute [go_sem] a6O a7D b02 b48 b50
def aA:En au:=⟨3,fun x=>[I x.Row,I x.Col,I x.Value]⟩
def PZ (x:au):Prop:=bdI x.Row∧bdI x.Col∧bdI x.Value
theorem JL:aA.esz=3:=by decide
theorem Ki (x:au):aA.enc x=[I x.Row,I x.Col,I x.Value]:=rfl
theorem Nc (a0 a1 a2:Int) (l:List au):dU [I a0,I a1,I a2] (rws aA l)=rws aA ((⟨a0,a1,a2⟩:au)::l):=rfl
theorem TP (a0 a1 a2:Int) (l:List au) (i:Nat):iV (rws aA l) i [I a0,I a1,I a2]=rws aA (l.set i (⟨a0,a1,a2⟩:au)):=by simp [iV,rws,aA]
theorem Ua (x:au):au.mk x.Row x.Col x.Value=x:=rfl
attribute [go_sem] JL Ki Nc TP Ua
def iq:En bk:=⟨6,fun x=>[I x.Rows,I x.Cols,I x.Publics,sl aA x.A,sl aA x.B,sl aA x.C]⟩
def c55 (x:bk):Prop:=bdI x.Rows∧bdI x.Cols∧bdI x.Publics∧bdL PZ x.A∧bdL PZ x.B∧bdL PZ x.C
theorem a2N:iq.esz=6:=by decide
theorem a1X (x:bk):iq.enc x=[I x.Rows,I x.Cols,I x.Publics,sl aA x.A,sl aA x.B,sl aA x.C]:=rfl
theorem a7G (a0 a1 a2:Int) (a3 a4 a5:(List au)) (l:List bk):dU [I a0,I a1,I a2,sl aA a3,sl aA a4,sl aA a5] (rws iq l)=rws iq ((⟨a0,a1,a2,a3,a4,a5⟩:bk)::l):=rfl
theorem a96 (a0 a1 a2:Int) (a3 a4 a5:(List au)) (l:List bk) (i:Nat):iV (rws iq l) i [I a0,I a1,I a2,sl aA a3,sl aA a4,sl aA a5]=rws iq (l.set i (⟨a0,a1,a2,a3,a4,a5⟩:bk)):=by simp [iV,rws,iq]
theorem b0l (x:bk):bk.mk x.Rows x.Cols x.Publics x.A x.B x.C=x:=rfl
attribute [go_sem] a2N a1X a7G a96 b0l
theorem a1h (a0 a1 a2:Int) (a4 a5:(List au)) (l:List bk):dU [I a0,I a1,I a2,.imm 1 [],sl aA a4,sl aA a5] (rws iq l)=rws iq ((⟨a0,a1,a2,[],a4,a5⟩:bk)::l):=rfl
attribute [go_sem] a1h
theorem a1s (a0 a1 a2:Int) (a3 a5:(List au)) (l:List bk):dU [I a0,I a1,I a2,sl aA a3,.imm 1 [],sl aA a5] (rws iq l)=rws iq ((⟨a0,a1,a2,a3,[],a5⟩:bk)::l):=rfl
attribute [go_sem] a1s
theorem a0z (a0 a1 a2:Int) (a5:(List au)) (l:List bk):dU [I a0,I a1,I a2,.imm 1 [],.imm 1 [],sl aA a5] (rws iq l)=rws iq ((⟨a0,a1,a2,[],[],a5⟩:bk)::l):=rfl
attribute [go_sem] a0z
theorem Ye (a0 a1 a2:Int) (a3 a4:(List au)) (l:List bk):dU [I a0,I a1,I a2,sl aA a3,sl aA a4,.imm 1 []] (rws iq l)=rws iq ((⟨a0,a1,a2,a3,a4,[]⟩:bk)::l):=rfl
attribute [go_sem] Ye
theorem a1a (a0 a1 a2:Int) (a4:(List au)) (l:List bk):dU [I a0,I a1,I a2,.imm 1 [],sl aA a4,.imm 1 []] (rws iq l)=rws iq ((⟨a0,a1,a2,[],a4,[]⟩:bk)::l):=rfl
attribute [go_sem] a1a
theorem a1G (a0 a1 a2:Int) (a3:(List au)) (l:List bk):dU [I a0,I a1,I a2,sl aA a3,.imm 1 [],.imm 1 []] (rws iq l)=rws iq ((⟨a0,a1,a2,a3,[],[]⟩:bk)::l):=rfl
attribute [go_sem] a1G
theorem Y7 (a0 a1 a2:Int) (l:List bk):dU [I a0,I a1,I a2,.imm 1 [],.imm 1 [],.imm 1 []] (rws iq l)=rws iq ((⟨a0,a1,a2,[],[],[]⟩:bk)::l):=rfl
attribute [go_sem] Y7
def ig:En ik:=⟨2,fun x=>[sl eExt x.word,sl (eL eS) x.rows]⟩
def c0k (x:ik):Prop:=bdL bdExt x.word∧bdL (bdL bdS) x.rows
theorem SI:ig.esz=2:=by decide
theorem TH (x:ik):ig.enc x=[sl eExt x.word,sl (eL eS) x.rows]:=rfl
theorem VO (a0:(List Ext)) (a1:(List (List (List UInt8)))) (l:List ik):dU [sl eExt a0,sl (eL eS) a1] (rws ig l)=rws ig ((⟨a0,a1⟩:ik)::l):=rfl
theorem a0l (a0:(List Ext)) (a1:(List (List (List UInt8)))) (l:List ik) (i:Nat):iV (rws ig l) i [sl eExt a0,sl (eL eS) a1]=rws ig (l.set i (⟨a0,a1⟩:ik)):=by simp [iV,rws,ig]
theorem XY (x:ik):ik.mk x.word x.rows=x:=rfl
attribute [go_sem] SI TH VO a0l XY
theorem Pk (a1:(List (List (List UInt8)))) (l:List ik):dU [.imm 1 [],sl (eL eS) a1] (rws ig l)=rws ig ((⟨[],a1⟩:ik)::l):=rfl
attribute [go_sem] Pk
theorem PF (a0:(List Ext)) (l:List ik):dU [sl eExt a0,.imm 1 []] (rws ig l)=rws ig ((⟨a0,[]⟩:ik)::l):=rfl
attribute [go_sem] PF
theorem P7 (l:List ik):dU [.imm 1 [],.imm 1 []] (rws ig l)=rws ig ((⟨[],[]⟩:ik)::l):=rfl
attribute [go_sem] P7
def kq:En jN:=⟨1,fun x=>[sl eU8 x.b]⟩
def b7B (x:jN):Prop:=bdL (bdT (α:=UInt8)) x.b
theorem PR:kq.esz=1:=by decide
theorem PO (x:jN):kq.enc x=[sl eU8 x.b]:=rfl
theorem RF (a0:(List UInt8)) (l:List jN):dU [sl eU8 a0] (rws kq l)=rws kq ((⟨a0⟩:jN)::l):=rfl
theorem UM (a0:(List UInt8)) (l:List jN) (i:Nat):iV (rws kq l) i [sl eU8 a0]=rws kq (l.set i (⟨a0⟩:jN)):=by simp [iV,rws,kq]
theorem WG (x:jN):jN.mk x.b=x:=rfl
attribute [go_sem] PR PO RF UM WG
theorem MS (l:List jN):dU [.imm 1 []] (rws kq l)=rws kq ((⟨[]⟩:jN)::l):=rfl
attribute [go_sem] MS
def pn:En Handed:=⟨2,fun x=>[sl eI x.Publics,sl eI x.Inputs]⟩
def c4F (x:Handed):Prop:=bdL bdI x.Publics∧bdL bdI x.Inputs
theorem a29:pn.esz=2:=by decide
theorem a2d (x:Handed):pn.enc x=[sl eI x.Publics,sl eI x.Inputs]:=rfl
theorem a7H (a0 a1:(List Int)) (l:List Handed):dU [sl eI a0,sl eI a1] (rws pn l)=rws pn ((⟨a0,a1⟩:Handed)::l):=rfl
theorem b0i (a0 a1:(List Int)) (l:List Handed) (i:Nat):iV (rws pn l) i [sl eI a0,sl eI a1]=rws pn (l.set i (⟨a0,a1⟩:Handed)):=by simp [iV,rws,pn]
theorem a91 (x:Handed):Handed.mk x.Publics x.Inputs=x:=rfl
attribute [go_sem] a29 a2d a7H b0i a91
theorem Y5 (a1:(List Int)) (l:List Handed):dU [.imm 1 [],sl eI a1] (rws pn l)=rws pn ((⟨[],a1⟩:Handed)::l):=rfl
attribute [go_sem] Y5
theorem Zl (a0:(List Int)) (l:List Handed):dU [sl eI a0,.imm 1 []] (rws pn l)=rws pn ((⟨a0,[]⟩:Handed)::l):=rfl
attribute [go_sem] Zl
theorem a1E (l:List Handed):dU [.imm 1 [],.imm 1 []] (rws pn l)=rws pn ((⟨[],[]⟩:Handed)::l):=rfl
attribute [go_sem] a1E
def E6:En Dq:=⟨2,fun x=>[S x.t,B x.ok]⟩
def c4x (x:Dq):Prop:=bdS x.t∧bdT (α:=Bool) x.ok
theorem a4G:E6.esz=2:=by decide
theorem a40 (x:Dq):E6.enc x=[S x.t,B x.ok]:=rfl
theorem a7y (a0:(List UInt8)) (a1:Bool) (l:List Dq):dU [S a0,B a1] (rws E6 l)=rws E6 ((⟨a0,a1⟩:Dq)::l):=rfl
theorem b07 (a0:(List UInt8)) (a1:Bool) (l:List Dq) (i:Nat):iV (rws E6 l) i [S a0,B a1]=rws E6 (l.set i (⟨a0,a1⟩:Dq)):=by simp [iV,rws,E6]
theorem b29 (x:Dq):Dq.mk x.t x.ok=x:=rfl
attribute [go_sem] a4G a40 a7y b07 b29
end Go.AI.Fn
