/- Part. -/
import Derived.Test.YtdnkignjanfikaaGreatTb1
import Derived.Test.YtdnkignjanfikaaGreatAiTop3
namespace Go.AI.Fn
structure Gate where
 Op:Int
 A:Int
 B:Int
 K:Int
structure Circuit where
 Gates:(List Gate)
structure Setting where
 Rate:Int
 Queries:Int
 Grind:Int
structure Ext where
 A:Int
 B:Int
structure Source where
 Script:(List Ext)
 At:Int
 State:(List UInt8)
 Count:Int
structure CA where
 Circuit:Circuit
 Publics:(List Int)
 Inputs:(List Int)
 Setting:Setting
 Source:Source
structure tk where
 code:(List UInt8)
 at_:Int
 seed:Int
structure Query where
 Pairs:(List Ext)
 Paths:(List (List (List UInt8)))
structure Opening where
 Rounds:(List (List Ext))
 Roots:(List (List UInt8))
 Last:Ext
 Nonce:Int
 Queries:(List Query)
structure Proof where
 Root:(List UInt8)
 Gates:(List (List Ext))
 VA:Ext
 VB:Ext
 VC:Ext
 Wires:(List (List Ext))
 VW:Ext
 Open:Opening
structure au where
 Row:Int
 Col:Int
 Value:Int
structure bj where
 Rows:Int
 Cols:Int
 Publics:Int
 A:(List au)
 B:(List au)
 C:(List au)
structure ib where
 word:(List Ext)
 rows:(List (List (List UInt8)))
structure jw where
 b:(List UInt8)
structure Handed where
 Publics:(List Int)
 Inputs:(List Int)
structure CY where
 t:(List UInt8)
 ok:Bool
def eGate:En Gate:=⟨4,fun x=>[I x.Op,I x.A,I x.B,I x.K]⟩
def bdGate (x:Gate):Prop:=bdI x.Op∧bdI x.A∧bdI x.B∧bdI x.K
theorem b0c:eGate.esz=4:=by decide
theorem b1e (x:Gate):eGate.enc x=[I x.Op,I x.A,I x.B,I x.K]:=rfl
theorem b1F (a0 a1 a2 a3:Int) (l:List Gate):dt [I a0,I a1,I a2,I a3] (rws eGate l)=rws eGate ((⟨a0,a1,a2,a3⟩:Gate)::l):=rfl
theorem c0E (a0 a1 a2 a3:Int) (l:List Gate) (i:Nat):hZ (rws eGate l) i [I a0,I a1,I a2,I a3]=rws eGate (l.set i (⟨a0,a1,a2,a3⟩:Gate)):=by simp [hZ,rws,eGate]
theorem b9L (x:Gate):Gate.mk x.Op x.A x.B x.K=x:=rfl
attribute [go_sem] b0c b1e b1F c0E b9L
def eCircuit:En Circuit:=⟨1,fun x=>[sl eGate x.Gates]⟩
def bdCircuit (x:Circuit):Prop:=bdL bdGate x.Gates
theorem WM:eCircuit.esz=1:=by decide
theorem ZK (x:Circuit):eCircuit.enc x=[sl eGate x.Gates]:=rfl
theorem a2M (a0:(List Gate)) (l:List Circuit):dt [sl eGate a0] (rws eCircuit l)=rws eCircuit ((⟨a0⟩:Circuit)::l):=rfl
theorem a4n (a0:(List Gate)) (l:List Circuit) (i:Nat):hZ (rws eCircuit l) i [sl eGate a0]=rws eCircuit (l.set i (⟨a0⟩:Circuit)):=by simp [hZ,rws,eCircuit]
theorem a5W (x:Circuit):Circuit.mk x.Gates=x:=rfl
attribute [go_sem] WM ZK a2M a4n a5W
theorem Vb (l:List Circuit):dt [.imm 1 []] (rws eCircuit l)=rws eCircuit ((⟨[]⟩:Circuit)::l):=rfl
attribute [go_sem] Vb
def eSetting:En Setting:=⟨3,fun x=>[I x.Rate,I x.Queries,I x.Grind]⟩
def bdSetting (x:Setting):Prop:=bdI x.Rate∧bdI x.Queries∧bdI x.Grind
theorem YT:eSetting.esz=3:=by decide
theorem ZN (x:Setting):eSetting.enc x=[I x.Rate,I x.Queries,I x.Grind]:=rfl
theorem a2S (a0 a1 a2:Int) (l:List Setting):dt [I a0,I a1,I a2] (rws eSetting l)=rws eSetting ((⟨a0,a1,a2⟩:Setting)::l):=rfl
theorem a6n (a0 a1 a2:Int) (l:List Setting) (i:Nat):hZ (rws eSetting l) i [I a0,I a1,I a2]=rws eSetting (l.set i (⟨a0,a1,a2⟩:Setting)):=by simp [hZ,rws,eSetting]
theorem a5h (x:Setting):Setting.mk x.Rate x.Queries x.Grind=x:=rfl
attribute [go_sem] YT ZN a2S a6n a5h
def eExt:En Ext:=⟨2,fun x=>[I x.A,I x.B]⟩
def bdExt (x:Ext):Prop:=bdI x.A∧bdI x.B
theorem b4D:eExt.esz=2:=by decide
theorem b6N (x:Ext):eExt.enc x=[I x.A,I x.B]:=rfl
theorem c1f (a0 a1:Int) (l:List Ext):dt [I a0,I a1] (rws eExt l)=rws eExt ((⟨a0,a1⟩:Ext)::l):=rfl
theorem c5X (a0 a1:Int) (l:List Ext) (i:Nat):hZ (rws eExt l) i [I a0,I a1]=rws eExt (l.set i (⟨a0,a1⟩:Ext)):=by simp [hZ,rws,eExt]
theorem c4v (x:Ext):Ext.mk x.A x.B=x:=rfl
attribute [go_sem] b4D b6N c1f c5X c4v
def eSource:En Source:=⟨4,fun x=>[sl eExt x.Script,I x.At,S x.State,I x.Count]⟩
def bdSource (x:Source):Prop:=bdL bdExt x.Script∧bdI x.At∧bdS x.State∧bdI x.Count
theorem a00:eSource.esz=4:=by decide
theorem a1o (x:Source):eSource.enc x=[sl eExt x.Script,I x.At,S x.State,I x.Count]:=rfl
theorem a5O (a0:(List Ext)) (a1:Int) (a2:(List UInt8)) (a3:Int) (l:List Source):dt [sl eExt a0,I a1,S a2,I a3] (rws eSource l)=rws eSource ((⟨a0,a1,a2,a3⟩:Source)::l):=rfl
theorem b0g (a0:(List Ext)) (a1:Int) (a2:(List UInt8)) (a3:Int) (l:List Source) (i:Nat):hZ (rws eSource l) i [sl eExt a0,I a1,S a2,I a3]=rws eSource (l.set i (⟨a0,a1,a2,a3⟩:Source)):=by simp [hZ,rws,eSource]
theorem a88 (x:Source):Source.mk x.Script x.At x.State x.Count=x:=rfl
attribute [go_sem] a00 a1o a5O b0g a88
theorem Xx (a1:Int) (a2:(List UInt8)) (a3:Int) (l:List Source):dt [.imm 1 [],I a1,S a2,I a3] (rws eSource l)=rws eSource ((⟨[],a1,a2,a3⟩:Source)::l):=rfl
attribute [go_sem] Xx
def Dj:En CA:=⟨10,fun x=>[sl eGate x.Circuit.Gates,sl eI x.Publics,sl eI x.Inputs,I x.Setting.Rate,I x.Setting.Queries,I x.Setting.Grind,sl eExt x.Source.Script,I x.Source.At,S x.Source.State,I x.Source.Count]⟩
def c7D (x:CA):Prop:=bdCircuit x.Circuit∧bdL bdI x.Publics∧bdL bdI x.Inputs∧bdSetting x.Setting∧bdSource x.Source
theorem a2a:Dj.esz=10:=by decide
theorem a1P (x:CA):Dj.enc x=[sl eGate x.Circuit.Gates,sl eI x.Publics,sl eI x.Inputs,I x.Setting.Rate,I x.Setting.Queries,I x.Setting.Grind,sl eExt x.Source.Script,I x.Source.At,S x.Source.State,I x.Source.Count]:=rfl
theorem a4r (a0:(List Gate)) (a1 a2:(List Int)) (a3 a4 a5:Int) (a6:(List Ext)) (a7:Int) (a8:(List UInt8)) (a9:Int) (l:List CA):dt [sl eGate a0,sl eI a1,sl eI a2,I a3,I a4,I a5,sl eExt a6,I a7,S a8,I a9] (rws Dj l)=rws Dj ((⟨⟨a0⟩,a1,a2,⟨a3,a4,a5⟩,⟨a6,a7,a8,a9⟩⟩:CA)::l):=rfl
theorem b0U (a0:(List Gate)) (a1 a2:(List Int)) (a3 a4 a5:Int) (a6:(List Ext)) (a7:Int) (a8:(List UInt8)) (a9:Int) (l:List CA) (i:Nat):hZ (rws Dj l) i [sl eGate a0,sl eI a1,sl eI a2,I a3,I a4,I a5,sl eExt a6,I a7,S a8,I a9]=rws Dj (l.set i (⟨⟨a0⟩,a1,a2,⟨a3,a4,a5⟩,⟨a6,a7,a8,a9⟩⟩:CA)):=by simp [hZ,rws,Dj]
theorem a8G (x:CA):CA.mk x.Circuit x.Publics x.Inputs x.Setting x.Source=x:=rfl
attribute [go_sem] a2a a1P a4r b0U a8G
def xA:En tk:=⟨3,fun x=>[sl eU8 x.code,I x.at_,I x.seed]⟩
def c6D (x:tk):Prop:=bdL (bdT (α:=UInt8)) x.code∧bdI x.at_∧bdI x.seed
theorem a2U:xA.esz=3:=by decide
theorem a0K (x:tk):xA.enc x=[sl eU8 x.code,I x.at_,I x.seed]:=rfl
theorem a4g (a0:(List UInt8)) (a1 a2:Int) (l:List tk):dt [sl eU8 a0,I a1,I a2] (rws xA l)=rws xA ((⟨a0,a1,a2⟩:tk)::l):=rfl
theorem a86 (a0:(List UInt8)) (a1 a2:Int) (l:List tk) (i:Nat):hZ (rws xA l) i [sl eU8 a0,I a1,I a2]=rws xA (l.set i (⟨a0,a1,a2⟩:tk)):=by simp [hZ,rws,xA]
theorem a9d (x:tk):tk.mk x.code x.at_ x.seed=x:=rfl
attribute [go_sem] a2U a0K a4g a86 a9d
theorem Yk (a1 a2:Int) (l:List tk):dt [.imm 1 [],I a1,I a2] (rws xA l)=rws xA ((⟨[],a1,a2⟩:tk)::l):=rfl
attribute [go_sem] Yk
def eQuery:En Query:=⟨2,fun x=>[sl eExt x.Pairs,sl (eL eS) x.Paths]⟩
def bdQuery (x:Query):Prop:=bdL bdExt x.Pairs∧bdL (bdL bdS) x.Paths
theorem a6s:eQuery.esz=2:=by decide
theorem a4F (x:Query):eQuery.enc x=[sl eExt x.Pairs,sl (eL eS) x.Paths]:=rfl
theorem a8V (a0:(List Ext)) (a1:(List (List (List UInt8)))) (l:List Query):dt [sl eExt a0,sl (eL eS) a1] (rws eQuery l)=rws eQuery ((⟨a0,a1⟩:Query)::l):=rfl
theorem b6O (a0:(List Ext)) (a1:(List (List (List UInt8)))) (l:List Query) (i:Nat):hZ (rws eQuery l) i [sl eExt a0,sl (eL eS) a1]=rws eQuery (l.set i (⟨a0,a1⟩:Query)):=by simp [hZ,rws,eQuery]
theorem b2V (x:Query):Query.mk x.Pairs x.Paths=x:=rfl
attribute [go_sem] a6s a4F a8V b6O b2V
theorem a3q (a1:(List (List (List UInt8)))) (l:List Query):dt [.imm 1 [],sl (eL eS) a1] (rws eQuery l)=rws eQuery ((⟨[],a1⟩:Query)::l):=rfl
attribute [go_sem] a3q
theorem a3k (a0:(List Ext)) (l:List Query):dt [sl eExt a0,.imm 1 []] (rws eQuery l)=rws eQuery ((⟨a0,[]⟩:Query)::l):=rfl
attribute [go_sem] a3k
theorem a0T (l:List Query):dt [.imm 1 [],.imm 1 []] (rws eQuery l)=rws eQuery ((⟨[],[]⟩:Query)::l):=rfl
attribute [go_sem] a0T
def eOpening:En Opening:=⟨6,fun x=>[sl (eL eExt) x.Rounds,sl eS x.Roots,I x.Last.A,I x.Last.B,I x.Nonce,sl eQuery x.Queries]⟩
def bdOpening (x:Opening):Prop:=bdL (bdL bdExt) x.Rounds∧bdL bdS x.Roots∧bdExt x.Last∧bdI x.Nonce∧bdL bdQuery x.Queries
theorem YU:eOpening.esz=6:=by decide
theorem ZA (x:Opening):eOpening.enc x=[sl (eL eExt) x.Rounds,sl eS x.Roots,I x.Last.A,I x.Last.B,I x.Nonce,sl eQuery x.Queries]:=rfl
theorem a0Y (a0:(List (List Ext))) (a1:(List (List UInt8))) (a2 a3 a4:Int) (a5:(List Query)) (l:List Opening):dt [sl (eL eExt) a0,sl eS a1,I a2,I a3,I a4,sl eQuery a5] (rws eOpening l)=rws eOpening ((⟨a0,a1,⟨a2,a3⟩,a4,a5⟩:Opening)::l):=rfl
theorem a5N (a0:(List (List Ext))) (a1:(List (List UInt8))) (a2 a3 a4:Int) (a5:(List Query)) (l:List Opening) (i:Nat):hZ (rws eOpening l) i [sl (eL eExt) a0,sl eS a1,I a2,I a3,I a4,sl eQuery a5]=rws eOpening (l.set i (⟨a0,a1,⟨a2,a3⟩,a4,a5⟩:Opening)):=by simp [hZ,rws,eOpening]
theorem a4A (x:Opening):Opening.mk x.Rounds x.Roots x.Last x.Nonce x.Queries=x:=rfl
attribute [go_sem] YU ZA a0Y a5N a4A
theorem TP (a1:(List (List UInt8))) (a2 a3 a4:Int) (a5:(List Query)) (l:List Opening):dt [.imm 1 [],sl eS a1,I a2,I a3,I a4,sl eQuery a5] (rws eOpening l)=rws eOpening ((⟨[],a1,⟨a2,a3⟩,a4,a5⟩:Opening)::l):=rfl
attribute [go_sem] TP
theorem Tw (a0:(List (List Ext))) (a2 a3 a4:Int) (a5:(List Query)) (l:List Opening):dt [sl (eL eExt) a0,.imm 1 [],I a2,I a3,I a4,sl eQuery a5] (rws eOpening l)=rws eOpening ((⟨a0,[],⟨a2,a3⟩,a4,a5⟩:Opening)::l):=rfl
attribute [go_sem] Tw
theorem TN (a2 a3 a4:Int) (a5:(List Query)) (l:List Opening):dt [.imm 1 [],.imm 1 [],I a2,I a3,I a4,sl eQuery a5] (rws eOpening l)=rws eOpening ((⟨[],[],⟨a2,a3⟩,a4,a5⟩:Opening)::l):=rfl
attribute [go_sem] TN
theorem Uz (a0:(List (List Ext))) (a1:(List (List UInt8))) (a2 a3 a4:Int) (l:List Opening):dt [sl (eL eExt) a0,sl eS a1,I a2,I a3,I a4,.imm 1 []] (rws eOpening l)=rws eOpening ((⟨a0,a1,⟨a2,a3⟩,a4,[]⟩:Opening)::l):=rfl
attribute [go_sem] Uz
theorem Ub (a1:(List (List UInt8))) (a2 a3 a4:Int) (l:List Opening):dt [.imm 1 [],sl eS a1,I a2,I a3,I a4,.imm 1 []] (rws eOpening l)=rws eOpening ((⟨[],a1,⟨a2,a3⟩,a4,[]⟩:Opening)::l):=rfl
attribute [go_sem] Ub
theorem V3 (a0:(List (List Ext))) (a2 a3 a4:Int) (l:List Opening):dt [sl (eL eExt) a0,.imm 1 [],I a2,I a3,I a4,.imm 1 []] (rws eOpening l)=rws eOpening ((⟨a0,[],⟨a2,a3⟩,a4,[]⟩:Opening)::l):=rfl
attribute [go_sem] V3
theorem Ur (a2 a3 a4:Int) (l:List Opening):dt [.imm 1 [],.imm 1 [],I a2,I a3,I a4,.imm 1 []] (rws eOpening l)=rws eOpening ((⟨[],[],⟨a2,a3⟩,a4,[]⟩:Opening)::l):=rfl
attribute [go_sem] Ur
def eProof:En Proof:=⟨17,fun x=>[S x.Root,sl (eL eExt) x.Gates,I x.VA.A,I x.VA.B,I x.VB.A,I x.VB.B,I x.VC.A,I x.VC.B,sl (eL eExt) x.Wires,I x.VW.A,I x.VW.B,sl (eL eExt) x.Open.Rounds,sl eS x.Open.Roots,I x.Open.Last.A,I x.Open.Last.B,I x.Open.Nonce,sl eQuery x.Open.Queries]⟩
def bdProof (x:Proof):Prop:=bdS x.Root∧bdL (bdL bdExt) x.Gates∧bdExt x.VA∧bdExt x.VB∧bdExt x.VC∧bdL (bdL bdExt) x.Wires∧bdExt x.VW∧bdOpening x.Open
theorem a3Q:eProof.esz=17:=by decide
theorem a5U (x:Proof):eProof.enc x=[S x.Root,sl (eL eExt) x.Gates,I x.VA.A,I x.VA.B,I x.VB.A,I x.VB.B,I x.VC.A,I x.VC.B,sl (eL eExt) x.Wires,I x.VW.A,I x.VW.B,sl (eL eExt) x.Open.Rounds,sl eS x.Open.Roots,I x.Open.Last.A,I x.Open.Last.B,I x.Open.Nonce,sl eQuery x.Open.Queries]:=rfl
theorem a9C (a0:(List UInt8)) (a1:(List (List Ext))) (a2 a3 a4 a5 a6 a7:Int) (a8:(List (List Ext))) (a9 a10:Int) (a11:(List (List Ext))) (a12:(List (List UInt8))) (a13 a14 a15:Int) (a16:(List Query)) (l:List Proof):dt [S a0,sl (eL eExt) a1,I a2,I a3,I a4,I a5,I a6,I a7,sl (eL eExt) a8,I a9,I a10,sl (eL eExt) a11,sl eS a12,I a13,I a14,I a15,sl eQuery a16] (rws eProof l)=rws eProof ((⟨a0,a1,⟨a2,a3⟩,⟨a4,a5⟩,⟨a6,a7⟩,a8,⟨a9,a10⟩,⟨a11,a12,⟨a13,a14⟩,a15,a16⟩⟩:Proof)::l):=rfl
theorem b4j (a0:(List UInt8)) (a1:(List (List Ext))) (a2 a3 a4 a5 a6 a7:Int) (a8:(List (List Ext))) (a9 a10:Int) (a11:(List (List Ext))) (a12:(List (List UInt8))) (a13 a14 a15:Int) (a16:(List Query)) (l:List Proof) (i:Nat):hZ (rws eProof l) i [S a0,sl (eL eExt) a1,I a2,I a3,I a4,I a5,I a6,I a7,sl (eL eExt) a8,I a9,I a10,sl (eL eExt) a11,sl eS a12,I a13,I a14,I a15,sl eQuery a16]=rws eProof (l.set i (⟨a0,a1,⟨a2,a3⟩,⟨a4,a5⟩,⟨a6,a7⟩,a8,⟨a9,a10⟩,⟨a11,a12,⟨a13,a14⟩,a15,a16⟩⟩:Proof)):=by simp [hZ,rws,eProof]
theorem b3U (x:Proof):Proof.mk x.Root x.Gates x.VA x.VB x.VC x.Wires x.VW x.Open=x:=rfl
attribute [go_sem] a3Q a5U a9C b4j b3U
def aA:En au:=⟨3,fun x=>[I x.Row,I x.Col,I x.Value]⟩
def Pd (x:au):Prop:=bdI x.Row∧bdI x.Col∧bdI x.Value
theorem JN:aA.esz=3:=by decide
theorem Jw (x:au):aA.enc x=[I x.Row,I x.Col,I x.Value]:=rfl
theorem Me (a0 a1 a2:Int) (l:List au):dt [I a0,I a1,I a2] (rws aA l)=rws aA ((⟨a0,a1,a2⟩:au)::l):=rfl
theorem Sk (a0 a1 a2:Int) (l:List au) (i:Nat):hZ (rws aA l) i [I a0,I a1,I a2]=rws aA (l.set i (⟨a0,a1,a2⟩:au)):=by simp [hZ,rws,aA]
theorem RZ (x:au):au.mk x.Row x.Col x.Value=x:=rfl
attribute [go_sem] JN Jw Me Sk RZ
def ig:En bj:=⟨6,fun x=>[I x.Rows,I x.Cols,I x.Publics,sl aA x.A,sl aA x.B,sl aA x.C]⟩
def c7f (x:bj):Prop:=bdI x.Rows∧bdI x.Cols∧bdI x.Publics∧bdL Pd x.A∧bdL Pd x.B∧bdL Pd x.C
theorem a3y:ig.esz=6:=by decide
theorem a2V (x:bj):ig.enc x=[I x.Rows,I x.Cols,I x.Publics,sl aA x.A,sl aA x.B,sl aA x.C]:=rfl
theorem a5G (a0 a1 a2:Int) (a3 a4 a5:(List au)) (l:List bj):dt [I a0,I a1,I a2,sl aA a3,sl aA a4,sl aA a5] (rws ig l)=rws ig ((⟨a0,a1,a2,a3,a4,a5⟩:bj)::l):=rfl
theorem a9v (a0 a1 a2:Int) (a3 a4 a5:(List au)) (l:List bj) (i:Nat):hZ (rws ig l) i [I a0,I a1,I a2,sl aA a3,sl aA a4,sl aA a5]=rws ig (l.set i (⟨a0,a1,a2,a3,a4,a5⟩:bj)):=by simp [hZ,rws,ig]
theorem a9G (x:bj):bj.mk x.Rows x.Cols x.Publics x.A x.B x.C=x:=rfl
attribute [go_sem] a3y a2V a5G a9v a9G
theorem Ye (a0 a1 a2:Int) (a4 a5:(List au)) (l:List bj):dt [I a0,I a1,I a2,.imm 1 [],sl aA a4,sl aA a5] (rws ig l)=rws ig ((⟨a0,a1,a2,[],a4,a5⟩:bj)::l):=rfl
attribute [go_sem] Ye
theorem Yl (a0 a1 a2:Int) (a3 a5:(List au)) (l:List bj):dt [I a0,I a1,I a2,sl aA a3,.imm 1 [],sl aA a5] (rws ig l)=rws ig ((⟨a0,a1,a2,a3,[],a5⟩:bj)::l):=rfl
attribute [go_sem] Yl
theorem YX (a0 a1 a2:Int) (a5:(List au)) (l:List bj):dt [I a0,I a1,I a2,.imm 1 [],.imm 1 [],sl aA a5] (rws ig l)=rws ig ((⟨a0,a1,a2,[],[],a5⟩:bj)::l):=rfl
attribute [go_sem] YX
theorem XH (a0 a1 a2:Int) (a3 a4:(List au)) (l:List bj):dt [I a0,I a1,I a2,sl aA a3,sl aA a4,.imm 1 []] (rws ig l)=rws ig ((⟨a0,a1,a2,a3,a4,[]⟩:bj)::l):=rfl
attribute [go_sem] XH
theorem XK (a0 a1 a2:Int) (a4:(List au)) (l:List bj):dt [I a0,I a1,I a2,.imm 1 [],sl aA a4,.imm 1 []] (rws ig l)=rws ig ((⟨a0,a1,a2,[],a4,[]⟩:bj)::l):=rfl
attribute [go_sem] XK
theorem Zc (a0 a1 a2:Int) (a3:(List au)) (l:List bj):dt [I a0,I a1,I a2,sl aA a3,.imm 1 [],.imm 1 []] (rws ig l)=rws ig ((⟨a0,a1,a2,a3,[],[]⟩:bj)::l):=rfl
attribute [go_sem] Zc
theorem XE (a0 a1 a2:Int) (l:List bj):dt [I a0,I a1,I a2,.imm 1 [],.imm 1 [],.imm 1 []] (rws ig l)=rws ig ((⟨a0,a1,a2,[],[],[]⟩:bj)::l):=rfl
attribute [go_sem] XE
def i8:En ib:=⟨2,fun x=>[sl eExt x.word,sl (eL eS) x.rows]⟩
def c2b (x:ib):Prop:=bdL bdExt x.word∧bdL (bdL bdS) x.rows
theorem SG:i8.esz=2:=by decide
theorem Sx (x:ib):i8.enc x=[sl eExt x.word,sl (eL eS) x.rows]:=rfl
theorem Tt (a0:(List Ext)) (a1:(List (List (List UInt8)))) (l:List ib):dt [sl eExt a0,sl (eL eS) a1] (rws i8 l)=rws i8 ((⟨a0,a1⟩:ib)::l):=rfl
theorem Xv (a0:(List Ext)) (a1:(List (List (List UInt8)))) (l:List ib) (i:Nat):hZ (rws i8 l) i [sl eExt a0,sl (eL eS) a1]=rws i8 (l.set i (⟨a0,a1⟩:ib)):=by simp [hZ,rws,i8]
theorem Zn (x:ib):ib.mk x.word x.rows=x:=rfl
attribute [go_sem] SG Sx Tt Xv Zn
theorem OH (a1:(List (List (List UInt8)))) (l:List ib):dt [.imm 1 [],sl (eL eS) a1] (rws i8 l)=rws i8 ((⟨[],a1⟩:ib)::l):=rfl
attribute [go_sem] OH
theorem Ow (a0:(List Ext)) (l:List ib):dt [sl eExt a0,.imm 1 []] (rws i8 l)=rws i8 ((⟨a0,[]⟩:ib)::l):=rfl
attribute [go_sem] Ow
theorem OU (l:List ib):dt [.imm 1 [],.imm 1 []] (rws i8 l)=rws i8 ((⟨[],[]⟩:ib)::l):=rfl
attribute [go_sem] OU
def ka:En jw:=⟨1,fun x=>[sl eU8 x.b]⟩
def b7p (x:jw):Prop:=bdL (bdT (α:=UInt8)) x.b
theorem Og:ka.esz=1:=by decide
theorem OZ (x:jw):ka.enc x=[sl eU8 x.b]:=rfl
theorem QG (a0:(List UInt8)) (l:List jw):dt [sl eU8 a0] (rws ka l)=rws ka ((⟨a0⟩:jw)::l):=rfl
theorem Uf (a0:(List UInt8)) (l:List jw) (i:Nat):hZ (rws ka l) i [sl eU8 a0]=rws ka (l.set i (⟨a0⟩:jw)):=by simp [hZ,rws,ka]
theorem Vc (x:jw):jw.mk x.b=x:=rfl
attribute [go_sem] Og OZ QG Uf Vc
theorem Mf (l:List jw):dt [.imm 1 []] (rws ka l)=rws ka ((⟨[]⟩:jw)::l):=rfl
attribute [go_sem] Mf
def oy:En Handed:=⟨2,fun x=>[sl eI x.Publics,sl eI x.Inputs]⟩
def c7t (x:Handed):Prop:=bdL bdI x.Publics∧bdL bdI x.Inputs
theorem a1W:oy.esz=2:=by decide
theorem a0c (x:Handed):oy.enc x=[sl eI x.Publics,sl eI x.Inputs]:=rfl
theorem a57 (a0 a1:(List Int)) (l:List Handed):dt [sl eI a0,sl eI a1] (rws oy l)=rws oy ((⟨a0,a1⟩:Handed)::l):=rfl
theorem a82 (a0 a1:(List Int)) (l:List Handed) (i:Nat):hZ (rws oy l) i [sl eI a0,sl eI a1]=rws oy (l.set i (⟨a0,a1⟩:Handed)):=by simp [hZ,rws,oy]
theorem b0O (x:Handed):Handed.mk x.Publics x.Inputs=x:=rfl
attribute [go_sem] a1W a0c a57 a82 b0O
theorem Ws (a1:(List Int)) (l:List Handed):dt [.imm 1 [],sl eI a1] (rws oy l)=rws oy ((⟨[],a1⟩:Handed)::l):=rfl
attribute [go_sem] Ws
theorem WZ (a0:(List Int)) (l:List Handed):dt [sl eI a0,.imm 1 []] (rws oy l)=rws oy ((⟨a0,[]⟩:Handed)::l):=rfl
attribute [go_sem] WZ
theorem Wu (l:List Handed):dt [.imm 1 [],.imm 1 []] (rws oy l)=rws oy ((⟨[],[]⟩:Handed)::l):=rfl
attribute [go_sem] Wu
def Cs:En CY:=⟨2,fun x=>[S x.t,B x.ok]⟩
def c7F (x:CY):Prop:=bdS x.t∧bdT (α:=Bool) x.ok
theorem a0m:Cs.esz=2:=by decide
theorem a2L (x:CY):Cs.enc x=[S x.t,B x.ok]:=rfl
theorem a4M (a0:(List UInt8)) (a1:Bool) (l:List CY):dt [S a0,B a1] (rws Cs l)=rws Cs ((⟨a0,a1⟩:CY)::l):=rfl
theorem a8O (a0:(List UInt8)) (a1:Bool) (l:List CY) (i:Nat):hZ (rws Cs l) i [S a0,B a1]=rws Cs (l.set i (⟨a0,a1⟩:CY)):=by simp [hZ,rws,Cs]
theorem a94 (x:CY):CY.mk x.t x.ok=x:=rfl
attribute [go_sem] a0m a2L a4M a8O a94
end Go.AI.Fn
