/- Part. -/
import Derived.Test.YtdnkignjanfikaaGreatTb1
import Derived.Test.YtdnkignjanfikaaGreatAiTop3
namespace Go.AI.Fn
structure Gate where
 Op:Int
 A:Int
 B:Int
 K:Int
structure Circuit where
 Gates:(List Gate)
structure Setting where
 Rate:Int
 Queries:Int
 Grind:Int
structure Ext where
 A:Int
 B:Int
structure Source where
 Script:(List Ext)
 At:Int
 State:(List UInt8)
 Count:Int
structure Cy where
 Circuit:Circuit
 Publics:(List Int)
 Inputs:(List Int)
 Setting:Setting
 Source:Source
structure tf where
 code:(List UInt8)
 at_:Int
 seed:Int
structure Query where
 Pairs:(List Ext)
 Paths:(List (List (List UInt8)))
structure Opening where
 Rounds:(List (List Ext))
 Roots:(List (List UInt8))
 Last:Ext
 Nonce:Int
 Queries:(List Query)
structure Proof where
 Root:(List UInt8)
 Gates:(List (List Ext))
 VA:Ext
 VB:Ext
 VC:Ext
 Wires:(List (List Ext))
 VW:Ext
 Open:Opening
structure au where
 Row:Int
 Col:Int
 Value:Int
structure bi where
 Rows:Int
 Cols:Int
 Publics:Int
 A:(List au)
 B:(List au)
 C:(List au)
structure ia where
 word:(List Ext)
 rows:(List (List (List UInt8)))
structure jz where
 b:(List UInt8)
structure Handed where
 Publics:(List Int)
 Inputs:(List Int)
structure Cz where
 t:(List UInt8)
 ok:Bool
def eGate:En Gate:=⟨4,fun x=>[I x.Op,I x.A,I x.B,I x.K]⟩
def bdGate (x:Gate):Prop:=bdI x.Op∧bdI x.A∧bdI x.B∧bdI x.K
theorem a8S:eGate.esz=4:=by decide
theorem b1b (x:Gate):eGate.enc x=[I x.Op,I x.A,I x.B,I x.K]:=rfl
theorem b2d (a0 a1 a2 a3:Int) (l:List Gate):dj [I a0,I a1,I a2,I a3] (rws eGate l)=rws eGate ((⟨a0,a1,a2,a3⟩:Gate)::l):=rfl
theorem b8n (a0 a1 a2 a3:Int) (l:List Gate) (i:Nat):i4 (rws eGate l) i [I a0,I a1,I a2,I a3]=rws eGate (l.set i (⟨a0,a1,a2,a3⟩:Gate)):=by simp [i4,rws,eGate]
theorem c0p (x:Gate):Gate.mk x.Op x.A x.B x.K=x:=rfl
attribute [go_sem] a8S b1b b2d b8n c0p
def eCircuit:En Circuit:=⟨1,fun x=>[sl eGate x.Gates]⟩
def bdCircuit (x:Circuit):Prop:=bdL bdGate x.Gates
theorem XC:eCircuit.esz=1:=by decide
theorem Xx (x:Circuit):eCircuit.enc x=[sl eGate x.Gates]:=rfl
theorem a2x (a0:(List Gate)) (l:List Circuit):dj [sl eGate a0] (rws eCircuit l)=rws eCircuit ((⟨a0⟩:Circuit)::l):=rfl
theorem a54 (a0:(List Gate)) (l:List Circuit) (i:Nat):i4 (rws eCircuit l) i [sl eGate a0]=rws eCircuit (l.set i (⟨a0⟩:Circuit)):=by simp [i4,rws,eCircuit]
theorem a3Q (x:Circuit):Circuit.mk x.Gates=x:=rfl
attribute [go_sem] XC Xx a2x a54 a3Q
theorem TT (l:List Circuit):dj [.imm 1 []] (rws eCircuit l)=rws eCircuit ((⟨[]⟩:Circuit)::l):=rfl
attribute [go_sem] TT
def eSetting:En Setting:=⟨3,fun x=>[I x.Rate,I x.Queries,I x.Grind]⟩
def bdSetting (x:Setting):Prop:=bdI x.Rate∧bdI x.Queries∧bdI x.Grind
theorem Zh:eSetting.esz=3:=by decide
theorem ZN (x:Setting):eSetting.enc x=[I x.Rate,I x.Queries,I x.Grind]:=rfl
theorem a0M (a0 a1 a2:Int) (l:List Setting):dj [I a0,I a1,I a2] (rws eSetting l)=rws eSetting ((⟨a0,a1,a2⟩:Setting)::l):=rfl
theorem a4h (a0 a1 a2:Int) (l:List Setting) (i:Nat):i4 (rws eSetting l) i [I a0,I a1,I a2]=rws eSetting (l.set i (⟨a0,a1,a2⟩:Setting)):=by simp [i4,rws,eSetting]
theorem a5Z (x:Setting):Setting.mk x.Rate x.Queries x.Grind=x:=rfl
attribute [go_sem] Zh ZN a0M a4h a5Z
def eExt:En Ext:=⟨2,fun x=>[I x.A,I x.B]⟩
def bdExt (x:Ext):Prop:=bdI x.A∧bdI x.B
theorem b6d:eExt.esz=2:=by decide
theorem b6q (x:Ext):eExt.enc x=[I x.A,I x.B]:=rfl
theorem b7W (a0 a1:Int) (l:List Ext):dj [I a0,I a1] (rws eExt l)=rws eExt ((⟨a0,a1⟩:Ext)::l):=rfl
theorem c3w (a0 a1:Int) (l:List Ext) (i:Nat):i4 (rws eExt l) i [I a0,I a1]=rws eExt (l.set i (⟨a0,a1⟩:Ext)):=by simp [i4,rws,eExt]
theorem c3Y (x:Ext):Ext.mk x.A x.B=x:=rfl
attribute [go_sem] b6d b6q b7W c3w c3Y
def eSource:En Source:=⟨4,fun x=>[sl eExt x.Script,I x.At,S x.State,I x.Count]⟩
def bdSource (x:Source):Prop:=bdL bdExt x.Script∧bdI x.At∧bdS x.State∧bdI x.Count
theorem a2v:eSource.esz=4:=by decide
theorem a2Z (x:Source):eSource.enc x=[sl eExt x.Script,I x.At,S x.State,I x.Count]:=rfl
theorem a49 (a0:(List Ext)) (a1:Int) (a2:(List UInt8)) (a3:Int) (l:List Source):dj [sl eExt a0,I a1,S a2,I a3] (rws eSource l)=rws eSource ((⟨a0,a1,a2,a3⟩:Source)::l):=rfl
theorem a9M (a0:(List Ext)) (a1:Int) (a2:(List UInt8)) (a3:Int) (l:List Source) (i:Nat):i4 (rws eSource l) i [sl eExt a0,I a1,S a2,I a3]=rws eSource (l.set i (⟨a0,a1,a2,a3⟩:Source)):=by simp [i4,rws,eSource]
theorem a89 (x:Source):Source.mk x.Script x.At x.State x.Count=x:=rfl
attribute [go_sem] a2v a2Z a49 a9M a89
theorem XQ (a1:Int) (a2:(List UInt8)) (a3:Int) (l:List Source):dj [.imm 1 [],I a1,S a2,I a3] (rws eSource l)=rws eSource ((⟨[],a1,a2,a3⟩:Source)::l):=rfl
attribute [go_sem] XQ
def CY:En Cy:=⟨10,fun x=>[sl eGate x.Circuit.Gates,sl eI x.Publics,sl eI x.Inputs,I x.Setting.Rate,I x.Setting.Queries,I x.Setting.Grind,sl eExt x.Source.Script,I x.Source.At,S x.Source.State,I x.Source.Count]⟩
def c7q (x:Cy):Prop:=bdCircuit x.Circuit∧bdL bdI x.Publics∧bdL bdI x.Inputs∧bdSetting x.Setting∧bdSource x.Source
theorem a0m:CY.esz=10:=by decide
theorem a1d (x:Cy):CY.enc x=[sl eGate x.Circuit.Gates,sl eI x.Publics,sl eI x.Inputs,I x.Setting.Rate,I x.Setting.Queries,I x.Setting.Grind,sl eExt x.Source.Script,I x.Source.At,S x.Source.State,I x.Source.Count]:=rfl
theorem a5a (a0:(List Gate)) (a1 a2:(List Int)) (a3 a4 a5:Int) (a6:(List Ext)) (a7:Int) (a8:(List UInt8)) (a9:Int) (l:List Cy):dj [sl eGate a0,sl eI a1,sl eI a2,I a3,I a4,I a5,sl eExt a6,I a7,S a8,I a9] (rws CY l)=rws CY ((⟨⟨a0⟩,a1,a2,⟨a3,a4,a5⟩,⟨a6,a7,a8,a9⟩⟩:Cy)::l):=rfl
theorem b0A (a0:(List Gate)) (a1 a2:(List Int)) (a3 a4 a5:Int) (a6:(List Ext)) (a7:Int) (a8:(List UInt8)) (a9:Int) (l:List Cy) (i:Nat):i4 (rws CY l) i [sl eGate a0,sl eI a1,sl eI a2,I a3,I a4,I a5,sl eExt a6,I a7,S a8,I a9]=rws CY (l.set i (⟨⟨a0⟩,a1,a2,⟨a3,a4,a5⟩,⟨a6,a7,a8,a9⟩⟩:Cy)):=by simp [i4,rws,CY]
theorem a8W (x:Cy):Cy.mk x.Circuit x.Publics x.Inputs x.Setting x.Source=x:=rfl
attribute [go_sem] a0m a1d a5a b0A a8W
def xk:En tf:=⟨3,fun x=>[sl eU8 x.code,I x.at_,I x.seed]⟩
def c6J (x:tf):Prop:=bdL (bdT (α:=UInt8)) x.code∧bdI x.at_∧bdI x.seed
theorem a0X:xk.esz=3:=by decide
theorem a0p (x:tf):xk.enc x=[sl eU8 x.code,I x.at_,I x.seed]:=rfl
theorem a40 (a0:(List UInt8)) (a1 a2:Int) (l:List tf):dj [sl eU8 a0,I a1,I a2] (rws xk l)=rws xk ((⟨a0,a1,a2⟩:tf)::l):=rfl
theorem a7S (a0:(List UInt8)) (a1 a2:Int) (l:List tf) (i:Nat):i4 (rws xk l) i [sl eU8 a0,I a1,I a2]=rws xk (l.set i (⟨a0,a1,a2⟩:tf)):=by simp [i4,rws,xk]
theorem a9B (x:tf):tf.mk x.code x.at_ x.seed=x:=rfl
attribute [go_sem] a0X a0p a40 a7S a9B
theorem YG (a1 a2:Int) (l:List tf):dj [.imm 1 [],I a1,I a2] (rws xk l)=rws xk ((⟨[],a1,a2⟩:tf)::l):=rfl
attribute [go_sem] YG
def eQuery:En Query:=⟨2,fun x=>[sl eExt x.Pairs,sl (eL eS) x.Paths]⟩
def bdQuery (x:Query):Prop:=bdL bdExt x.Pairs∧bdL (bdL bdS) x.Paths
theorem a4X:eQuery.esz=2:=by decide
theorem a5A (x:Query):eQuery.enc x=[sl eExt x.Pairs,sl (eL eS) x.Paths]:=rfl
theorem a9D (a0:(List Ext)) (a1:(List (List (List UInt8)))) (l:List Query):dj [sl eExt a0,sl (eL eS) a1] (rws eQuery l)=rws eQuery ((⟨a0,a1⟩:Query)::l):=rfl
theorem b1X (a0:(List Ext)) (a1:(List (List (List UInt8)))) (l:List Query) (i:Nat):i4 (rws eQuery l) i [sl eExt a0,sl (eL eS) a1]=rws eQuery (l.set i (⟨a0,a1⟩:Query)):=by simp [i4,rws,eQuery]
theorem b6L (x:Query):Query.mk x.Pairs x.Paths=x:=rfl
attribute [go_sem] a4X a5A a9D b1X b6L
theorem a3A (a1:(List (List (List UInt8)))) (l:List Query):dj [.imm 1 [],sl (eL eS) a1] (rws eQuery l)=rws eQuery ((⟨[],a1⟩:Query)::l):=rfl
attribute [go_sem] a3A
theorem a1q (a0:(List Ext)) (l:List Query):dj [sl eExt a0,.imm 1 []] (rws eQuery l)=rws eQuery ((⟨a0,[]⟩:Query)::l):=rfl
attribute [go_sem] a1q
theorem a2t (l:List Query):dj [.imm 1 [],.imm 1 []] (rws eQuery l)=rws eQuery ((⟨[],[]⟩:Query)::l):=rfl
attribute [go_sem] a2t
def eOpening:En Opening:=⟨6,fun x=>[sl (eL eExt) x.Rounds,sl eS x.Roots,I x.Last.A,I x.Last.B,I x.Nonce,sl eQuery x.Queries]⟩
def bdOpening (x:Opening):Prop:=bdL (bdL bdExt) x.Rounds∧bdL bdS x.Roots∧bdExt x.Last∧bdI x.Nonce∧bdL bdQuery x.Queries
theorem Xk:eOpening.esz=6:=by decide
theorem Z6 (x:Opening):eOpening.enc x=[sl (eL eExt) x.Rounds,sl eS x.Roots,I x.Last.A,I x.Last.B,I x.Nonce,sl eQuery x.Queries]:=rfl
theorem a1c (a0:(List (List Ext))) (a1:(List (List UInt8))) (a2 a3 a4:Int) (a5:(List Query)) (l:List Opening):dj [sl (eL eExt) a0,sl eS a1,I a2,I a3,I a4,sl eQuery a5] (rws eOpening l)=rws eOpening ((⟨a0,a1,⟨a2,a3⟩,a4,a5⟩:Opening)::l):=rfl
theorem a6n (a0:(List (List Ext))) (a1:(List (List UInt8))) (a2 a3 a4:Int) (a5:(List Query)) (l:List Opening) (i:Nat):i4 (rws eOpening l) i [sl (eL eExt) a0,sl eS a1,I a2,I a3,I a4,sl eQuery a5]=rws eOpening (l.set i (⟨a0,a1,⟨a2,a3⟩,a4,a5⟩:Opening)):=by simp [i4,rws,eOpening]
theorem a3O (x:Opening):Opening.mk x.Rounds x.Roots x.Last x.Nonce x.Queries=x:=rfl
attribute [go_sem] Xk Z6 a1c a6n a3O
theorem UD (a1:(List (List UInt8))) (a2 a3 a4:Int) (a5:(List Query)) (l:List Opening):dj [.imm 1 [],sl eS a1,I a2,I a3,I a4,sl eQuery a5] (rws eOpening l)=rws eOpening ((⟨[],a1,⟨a2,a3⟩,a4,a5⟩:Opening)::l):=rfl
attribute [go_sem] UD
theorem Tk (a0:(List (List Ext))) (a2 a3 a4:Int) (a5:(List Query)) (l:List Opening):dj [sl (eL eExt) a0,.imm 1 [],I a2,I a3,I a4,sl eQuery a5] (rws eOpening l)=rws eOpening ((⟨a0,[],⟨a2,a3⟩,a4,a5⟩:Opening)::l):=rfl
attribute [go_sem] Tk
theorem UJ (a2 a3 a4:Int) (a5:(List Query)) (l:List Opening):dj [.imm 1 [],.imm 1 [],I a2,I a3,I a4,sl eQuery a5] (rws eOpening l)=rws eOpening ((⟨[],[],⟨a2,a3⟩,a4,a5⟩:Opening)::l):=rfl
attribute [go_sem] UJ
theorem Uj (a0:(List (List Ext))) (a1:(List (List UInt8))) (a2 a3 a4:Int) (l:List Opening):dj [sl (eL eExt) a0,sl eS a1,I a2,I a3,I a4,.imm 1 []] (rws eOpening l)=rws eOpening ((⟨a0,a1,⟨a2,a3⟩,a4,[]⟩:Opening)::l):=rfl
attribute [go_sem] Uj
theorem TG (a1:(List (List UInt8))) (a2 a3 a4:Int) (l:List Opening):dj [.imm 1 [],sl eS a1,I a2,I a3,I a4,.imm 1 []] (rws eOpening l)=rws eOpening ((⟨[],a1,⟨a2,a3⟩,a4,[]⟩:Opening)::l):=rfl
attribute [go_sem] TG
theorem V2 (a0:(List (List Ext))) (a2 a3 a4:Int) (l:List Opening):dj [sl (eL eExt) a0,.imm 1 [],I a2,I a3,I a4,.imm 1 []] (rws eOpening l)=rws eOpening ((⟨a0,[],⟨a2,a3⟩,a4,[]⟩:Opening)::l):=rfl
attribute [go_sem] V2
theorem Ub (a2 a3 a4:Int) (l:List Opening):dj [.imm 1 [],.imm 1 [],I a2,I a3,I a4,.imm 1 []] (rws eOpening l)=rws eOpening ((⟨[],[],⟨a2,a3⟩,a4,[]⟩:Opening)::l):=rfl
attribute [go_sem] Ub
def eProof:En Proof:=⟨17,fun x=>[S x.Root,sl (eL eExt) x.Gates,I x.VA.A,I x.VA.B,I x.VB.A,I x.VB.B,I x.VC.A,I x.VC.B,sl (eL eExt) x.Wires,I x.VW.A,I x.VW.B,sl (eL eExt) x.Open.Rounds,sl eS x.Open.Roots,I x.Open.Last.A,I x.Open.Last.B,I x.Open.Nonce,sl eQuery x.Open.Queries]⟩
def bdProof (x:Proof):Prop:=bdS x.Root∧bdL (bdL bdExt) x.Gates∧bdExt x.VA∧bdExt x.VB∧bdExt x.VC∧bdL (bdL bdExt) x.Wires∧bdExt x.VW∧bdOpening x.Open
theorem a4C:eProof.esz=17:=by decide
theorem a58 (x:Proof):eProof.enc x=[S x.Root,sl (eL eExt) x.Gates,I x.VA.A,I x.VA.B,I x.VB.A,I x.VB.B,I x.VC.A,I x.VC.B,sl (eL eExt) x.Wires,I x.VW.A,I x.VW.B,sl (eL eExt) x.Open.Rounds,sl eS x.Open.Roots,I x.Open.Last.A,I x.Open.Last.B,I x.Open.Nonce,sl eQuery x.Open.Queries]:=rfl
theorem a8h (a0:(List UInt8)) (a1:(List (List Ext))) (a2 a3 a4 a5 a6 a7:Int) (a8:(List (List Ext))) (a9 a10:Int) (a11:(List (List Ext))) (a12:(List (List UInt8))) (a13 a14 a15:Int) (a16:(List Query)) (l:List Proof):dj [S a0,sl (eL eExt) a1,I a2,I a3,I a4,I a5,I a6,I a7,sl (eL eExt) a8,I a9,I a10,sl (eL eExt) a11,sl eS a12,I a13,I a14,I a15,sl eQuery a16] (rws eProof l)=rws eProof ((⟨a0,a1,⟨a2,a3⟩,⟨a4,a5⟩,⟨a6,a7⟩,a8,⟨a9,a10⟩,⟨a11,a12,⟨a13,a14⟩,a15,a16⟩⟩:Proof)::l):=rfl
theorem b6j (a0:(List UInt8)) (a1:(List (List Ext))) (a2 a3 a4 a5 a6 a7:Int) (a8:(List (List Ext))) (a9 a10:Int) (a11:(List (List Ext))) (a12:(List (List UInt8))) (a13 a14 a15:Int) (a16:(List Query)) (l:List Proof) (i:Nat):i4 (rws eProof l) i [S a0,sl (eL eExt) a1,I a2,I a3,I a4,I a5,I a6,I a7,sl (eL eExt) a8,I a9,I a10,sl (eL eExt) a11,sl eS a12,I a13,I a14,I a15,sl eQuery a16]=rws eProof (l.set i (⟨a0,a1,⟨a2,a3⟩,⟨a4,a5⟩,⟨a6,a7⟩,a8,⟨a9,a10⟩,⟨a11,a12,⟨a13,a14⟩,a15,a16⟩⟩:Proof)):=by simp [i4,rws,eProof]
theorem b5K (x:Proof):Proof.mk x.Root x.Gates x.VA x.VB x.VC x.Wires x.VW x.Open=x:=rfl
attribute [go_sem] a4C a58 a8h b6j b5K
def aA:En au:=⟨3,fun x=>[I x.Row,I x.Col,I x.Value]⟩
def Ps (x:au):Prop:=bdI x.Row∧bdI x.Col∧bdI x.Value
theorem Jz:aA.esz=3:=by decide
theorem Jc (x:au):aA.enc x=[I x.Row,I x.Col,I x.Value]:=rfl
theorem Mn (a0 a1 a2:Int) (l:List au):dj [I a0,I a1,I a2] (rws aA l)=rws aA ((⟨a0,a1,a2⟩:au)::l):=rfl
theorem SU (a0 a1 a2:Int) (l:List au) (i:Nat):i4 (rws aA l) i [I a0,I a1,I a2]=rws aA (l.set i (⟨a0,a1,a2⟩:au)):=by simp [i4,rws,aA]
theorem Sc (x:au):au.mk x.Row x.Col x.Value=x:=rfl
attribute [go_sem] Jz Jc Mn SU Sc
def io:En bi:=⟨6,fun x=>[I x.Rows,I x.Cols,I x.Publics,sl aA x.A,sl aA x.B,sl aA x.C]⟩
def c8g (x:bi):Prop:=bdI x.Rows∧bdI x.Cols∧bdI x.Publics∧bdL Ps x.A∧bdL Ps x.B∧bdL Ps x.C
theorem a1W:io.esz=6:=by decide
theorem a0b (x:bi):io.enc x=[I x.Rows,I x.Cols,I x.Publics,sl aA x.A,sl aA x.B,sl aA x.C]:=rfl
theorem a57 (a0 a1 a2:Int) (a3 a4 a5:(List au)) (l:List bi):dj [I a0,I a1,I a2,sl aA a3,sl aA a4,sl aA a5] (rws io l)=rws io ((⟨a0,a1,a2,a3,a4,a5⟩:bi)::l):=rfl
theorem a9h (a0 a1 a2:Int) (a3 a4 a5:(List au)) (l:List bi) (i:Nat):i4 (rws io l) i [I a0,I a1,I a2,sl aA a3,sl aA a4,sl aA a5]=rws io (l.set i (⟨a0,a1,a2,a3,a4,a5⟩:bi)):=by simp [i4,rws,io]
theorem a8a (x:bi):bi.mk x.Rows x.Cols x.Publics x.A x.B x.C=x:=rfl
attribute [go_sem] a1W a0b a57 a9h a8a
theorem Z7 (a0 a1 a2:Int) (a4 a5:(List au)) (l:List bi):dj [I a0,I a1,I a2,.imm 1 [],sl aA a4,sl aA a5] (rws io l)=rws io ((⟨a0,a1,a2,[],a4,a5⟩:bi)::l):=rfl
attribute [go_sem] Z7
theorem Yt (a0 a1 a2:Int) (a3 a5:(List au)) (l:List bi):dj [I a0,I a1,I a2,sl aA a3,.imm 1 [],sl aA a5] (rws io l)=rws io ((⟨a0,a1,a2,a3,[],a5⟩:bi)::l):=rfl
attribute [go_sem] Yt
theorem X4 (a0 a1 a2:Int) (a5:(List au)) (l:List bi):dj [I a0,I a1,I a2,.imm 1 [],.imm 1 [],sl aA a5] (rws io l)=rws io ((⟨a0,a1,a2,[],[],a5⟩:bi)::l):=rfl
attribute [go_sem] X4
theorem ZK (a0 a1 a2:Int) (a3 a4:(List au)) (l:List bi):dj [I a0,I a1,I a2,sl aA a3,sl aA a4,.imm 1 []] (rws io l)=rws io ((⟨a0,a1,a2,a3,a4,[]⟩:bi)::l):=rfl
attribute [go_sem] ZK
theorem XW (a0 a1 a2:Int) (a4:(List au)) (l:List bi):dj [I a0,I a1,I a2,.imm 1 [],sl aA a4,.imm 1 []] (rws io l)=rws io ((⟨a0,a1,a2,[],a4,[]⟩:bi)::l):=rfl
attribute [go_sem] XW
theorem XE (a0 a1 a2:Int) (a3:(List au)) (l:List bi):dj [I a0,I a1,I a2,sl aA a3,.imm 1 [],.imm 1 []] (rws io l)=rws io ((⟨a0,a1,a2,a3,[],[]⟩:bi)::l):=rfl
attribute [go_sem] XE
theorem Z1 (a0 a1 a2:Int) (l:List bi):dj [I a0,I a1,I a2,.imm 1 [],.imm 1 [],.imm 1 []] (rws io l)=rws io ((⟨a0,a1,a2,[],[],[]⟩:bi)::l):=rfl
attribute [go_sem] Z1
def ic:En ia:=⟨2,fun x=>[sl eExt x.word,sl (eL eS) x.rows]⟩
def c2i (x:ia):Prop:=bdL bdExt x.word∧bdL (bdL bdS) x.rows
theorem RA:ic.esz=2:=by decide
theorem Qi (x:ia):ic.enc x=[sl eExt x.word,sl (eL eS) x.rows]:=rfl
theorem UI (a0:(List Ext)) (a1:(List (List (List UInt8)))) (l:List ia):dj [sl eExt a0,sl (eL eS) a1] (rws ic l)=rws ic ((⟨a0,a1⟩:ia)::l):=rfl
theorem Y2 (a0:(List Ext)) (a1:(List (List (List UInt8)))) (l:List ia) (i:Nat):i4 (rws ic l) i [sl eExt a0,sl (eL eS) a1]=rws ic (l.set i (⟨a0,a1⟩:ia)):=by simp [i4,rws,ic]
theorem Ww (x:ia):ia.mk x.word x.rows=x:=rfl
attribute [go_sem] RA Qi UI Y2 Ww
theorem Ow (a1:(List (List (List UInt8)))) (l:List ia):dj [.imm 1 [],sl (eL eS) a1] (rws ic l)=rws ic ((⟨[],a1⟩:ia)::l):=rfl
attribute [go_sem] Ow
theorem P7 (a0:(List Ext)) (l:List ia):dj [sl eExt a0,.imm 1 []] (rws ic l)=rws ic ((⟨a0,[]⟩:ia)::l):=rfl
attribute [go_sem] P7
theorem P1 (l:List ia):dj [.imm 1 [],.imm 1 []] (rws ic l)=rws ic ((⟨[],[]⟩:ia)::l):=rfl
attribute [go_sem] P1
def kx:En jz:=⟨1,fun x=>[sl eU8 x.b]⟩
def b7V (x:jz):Prop:=bdL (bdT (α:=UInt8)) x.b
theorem OF:kx.esz=1:=by decide
theorem P4 (x:jz):kx.enc x=[sl eU8 x.b]:=rfl
theorem SM (a0:(List UInt8)) (l:List jz):dj [sl eU8 a0] (rws kx l)=rws kx ((⟨a0⟩:jz)::l):=rfl
theorem U5 (a0:(List UInt8)) (l:List jz) (i:Nat):i4 (rws kx l) i [sl eU8 a0]=rws kx (l.set i (⟨a0⟩:jz)):=by simp [i4,rws,kx]
theorem Vb (x:jz):jz.mk x.b=x:=rfl
attribute [go_sem] OF P4 SM U5 Vb
theorem MW (l:List jz):dj [.imm 1 []] (rws kx l)=rws kx ((⟨[]⟩:jz)::l):=rfl
attribute [go_sem] MW
def oD:En Handed:=⟨2,fun x=>[sl eI x.Publics,sl eI x.Inputs]⟩
def c6Q (x:Handed):Prop:=bdL bdI x.Publics∧bdL bdI x.Inputs
theorem a0O:oD.esz=2:=by decide
theorem a0Z (x:Handed):oD.enc x=[sl eI x.Publics,sl eI x.Inputs]:=rfl
theorem a5G (a0 a1:(List Int)) (l:List Handed):dj [sl eI a0,sl eI a1] (rws oD l)=rws oD ((⟨a0,a1⟩:Handed)::l):=rfl
theorem b0j (a0 a1:(List Int)) (l:List Handed) (i:Nat):i4 (rws oD l) i [sl eI a0,sl eI a1]=rws oD (l.set i (⟨a0,a1⟩:Handed)):=by simp [i4,rws,oD]
theorem b0a (x:Handed):Handed.mk x.Publics x.Inputs=x:=rfl
attribute [go_sem] a0O a0Z a5G b0j b0a
theorem Ye (a1:(List Int)) (l:List Handed):dj [.imm 1 [],sl eI a1] (rws oD l)=rws oD ((⟨[],a1⟩:Handed)::l):=rfl
attribute [go_sem] Ye
theorem Xu (a0:(List Int)) (l:List Handed):dj [sl eI a0,.imm 1 []] (rws oD l)=rws oD ((⟨a0,[]⟩:Handed)::l):=rfl
attribute [go_sem] Xu
theorem ZS (l:List Handed):dj [.imm 1 [],.imm 1 []] (rws oD l)=rws oD ((⟨[],[]⟩:Handed)::l):=rfl
attribute [go_sem] ZS
def D3:En Cz:=⟨2,fun x=>[S x.t,B x.ok]⟩
def c6K (x:Cz):Prop:=bdS x.t∧bdT (α:=Bool) x.ok
theorem a2c:D3.esz=2:=by decide
theorem a08 (x:Cz):D3.enc x=[S x.t,B x.ok]:=rfl
theorem a5j (a0:(List UInt8)) (a1:Bool) (l:List Cz):dj [S a0,B a1] (rws D3 l)=rws D3 ((⟨a0,a1⟩:Cz)::l):=rfl
theorem a86 (a0:(List UInt8)) (a1:Bool) (l:List Cz) (i:Nat):i4 (rws D3 l) i [S a0,B a1]=rws D3 (l.set i (⟨a0,a1⟩:Cz)):=by simp [i4,rws,D3]
theorem a9H (x:Cz):Cz.mk x.t x.ok=x:=rfl
attribute [go_sem] a2c a08 a5j a86 a9H
end Go.AI.Fn
