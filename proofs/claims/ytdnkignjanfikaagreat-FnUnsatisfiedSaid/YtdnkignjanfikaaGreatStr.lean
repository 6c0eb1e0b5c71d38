/- Structs. -/
import Derived.Test.YtdnkignjanfikaaGreatTb1
import Derived.Test.YtdnkignjanfikaaGreatAiTop3
import Derived.Test.YtdnkignjanfikaaGreatAiAdd
import Derived.Test.YtdnkignjanfikaaGreatAiEntX
namespace Go.AI.Fn
structure ah where
 Op:Int
 A:Int
 B:Int
 K:Int
structure Circuit where
 Gates:(List ah)
structure Setting where
 Rate:Int
 Queries:Int
 Grind:Int
structure Ext where
 A:Int
 B:Int
structure Source where
 Script:(List Ext)
 At:Int
 State:(List UInt8)
 Count:Int
structure Ac where
 Circuit:Circuit
 Publics:(List Int)
 Inputs:(List Int)
 Setting:Setting
 Source:Source
structure aD where
 code:(List UInt8)
 at_:Int
 seed:Int
structure cc where
 Pairs:(List Ext)
 Paths:(List (List (List UInt8)))
structure aV where
 Rounds:(List (List Ext))
 Roots:(List (List UInt8))
 Last:Ext
 Nonce:Int
 Queries:(List cc)
structure il where
 Root:(List UInt8)
 Gates:(List (List Ext))
 VA:Ext
 VB:Ext
 VC:Ext
 Wires:(List (List Ext))
 VW:Ext
 Open:aV
structure ae where
 Row:Int
 Col:Int
 Value:Int
structure aL where
 Rows:Int
 Cols:Int
 Publics:Int
 A:(List ae)
 B:(List ae)
 C:(List ae)
structure aG where
 word:(List Ext)
 rows:(List (List (List UInt8)))
structure gq where
 b:(List UInt8)
structure Handed where
 Publics:(List Int)
 Inputs:(List Int)
structure Ai where
 t:(List UInt8)
 ok:Bool
def bp:En ah:=⟨4,fun x=>[I x.Op,I x.A,I x.B,I x.K]⟩
def b7X (x:ah):Prop:=bdI x.Op∧bdI x.A∧bdI x.B∧bdI x.K
theorem a3n:bp.esz=4:=by decide
theorem a4z (x:ah):bp.enc x=[I x.Op,I x.A,I x.B,I x.K]:=rfl
theorem b01 (a0 a1 a2 a3:Int) (l:List ah):bK [I a0,I a1,I a2,I a3] (rws bp l)=rws bp ((⟨a0,a1,a2,a3⟩:ah)::l):=rfl
theorem b2v (a0 a1 a2 a3:Int) (l:List ah) (i:Nat):dZ (rws bp l) i [I a0,I a1,I a2,I a3]=rws bp (l.set i (⟨a0,a1,a2,a3⟩:ah)):=by simp [dZ,rws,bp]
theorem b4v (x:ah):ah.mk x.Op x.A x.B x.K=x:=rfl
attribute [go_sem] a3n a4z b01 b2v b4v
def pq:En Circuit:=⟨1,fun x=>[sl bp x.Gates]⟩
def a63 (x:Circuit):Prop:=bdL b7X x.Gates
theorem SE:pq.esz=1:=by decide
theorem Tb (x:Circuit):pq.enc x=[sl bp x.Gates]:=rfl
theorem WI (a0:(List ah)) (l:List Circuit):bK [sl bp a0] (rws pq l)=rws pq ((⟨a0⟩:Circuit)::l):=rfl
theorem YI (a0:(List ah)) (l:List Circuit) (i:Nat):dZ (rws pq l) i [sl bp a0]=rws pq (l.set i (⟨a0⟩:Circuit)):=by simp [dZ,rws,pq]
theorem a0g (x:Circuit):Circuit.mk x.Gates=x:=rfl
attribute [go_sem] SE Tb WI YI a0g
theorem PX (l:List Circuit):bK [.imm 1 []] (rws pq l)=rws pq ((⟨[]⟩:Circuit)::l):=rfl
attribute [go_sem] PX
def vJ:En Setting:=⟨3,fun x=>[I x.Rate,I x.Queries,I x.Grind]⟩
def a5K (x:Setting):Prop:=bdI x.Rate∧bdI x.Queries∧bdI x.Grind
theorem Sz:vJ.esz=3:=by decide
theorem SG (x:Setting):vJ.enc x=[I x.Rate,I x.Queries,I x.Grind]:=rfl
theorem Xx (a0 a1 a2:Int) (l:List Setting):bK [I a0,I a1,I a2] (rws vJ l)=rws vJ ((⟨a0,a1,a2⟩:Setting)::l):=rfl
theorem a0K (a0 a1 a2:Int) (l:List Setting) (i:Nat):dZ (rws vJ l) i [I a0,I a1,I a2]=rws vJ (l.set i (⟨a0,a1,a2⟩:Setting)):=by simp [dZ,rws,vJ]
theorem Z3 (x:Setting):Setting.mk x.Rate x.Queries x.Grind=x:=rfl
attribute [go_sem] Sz SG Xx a0K Z3
def ak:En Ext:=⟨2,fun x=>[I x.A,I x.B]⟩
def CR (x:Ext):Prop:=bdI x.A∧bdI x.B
theorem b0i:ak.esz=2:=by decide
theorem a7j (x:Ext):ak.enc x=[I x.A,I x.B]:=rfl
theorem b40 (a0 a1:Int) (l:List Ext):bK [I a0,I a1] (rws ak l)=rws ak ((⟨a0,a1⟩:Ext)::l):=rfl
theorem b8c (a0 a1:Int) (l:List Ext) (i:Nat):dZ (rws ak l) i [I a0,I a1]=rws ak (l.set i (⟨a0,a1⟩:Ext)):=by simp [dZ,rws,ak]
theorem c0b (x:Ext):Ext.mk x.A x.B=x:=rfl
attribute [go_sem] b0i a7j b40 b8c c0b
def ub:En Source:=⟨4,fun x=>[sl ak x.Script,I x.At,S x.State,I x.Count]⟩
def a9f (x:Source):Prop:=bdL CR x.Script∧bdI x.At∧bdS x.State∧bdI x.Count
theorem XV:ub.esz=4:=by decide
theorem VI (x:Source):ub.enc x=[sl ak x.Script,I x.At,S x.State,I x.Count]:=rfl
theorem Zm (a0:(List Ext)) (a1:Int) (a2:(List UInt8)) (a3:Int) (l:List Source):bK [sl ak a0,I a1,S a2,I a3] (rws ub l)=rws ub ((⟨a0,a1,a2,a3⟩:Source)::l):=rfl
theorem a4G (a0:(List Ext)) (a1:Int) (a2:(List UInt8)) (a3:Int) (l:List Source) (i:Nat):dZ (rws ub l) i [sl ak a0,I a1,S a2,I a3]=rws ub (l.set i (⟨a0,a1,a2,a3⟩:Source)):=by simp [dZ,rws,ub]
theorem a3Q (x:Source):Source.mk x.Script x.At x.State x.Count=x:=rfl
attribute [go_sem] XV VI Zm a4G a3Q
theorem UE (a1:Int) (a2:(List UInt8)) (a3:Int) (l:List Source):bK [.imm 1 [],I a1,S a2,I a3] (rws ub l)=rws ub ((⟨[],a1,a2,a3⟩:Source)::l):=rfl
attribute [go_sem] UE
def Au:En Ac:=⟨10,fun x=>[sl bp x.Circuit.Gates,sl eI x.Publics,sl eI x.Inputs,I x.Setting.Rate,I x.Setting.Queries,I x.Setting.Grind,sl ak x.Source.Script,I x.Source.At,S x.Source.State,I x.Source.Count]⟩
def c2K (x:Ac):Prop:=a63 x.Circuit∧bdL bdI x.Publics∧bdL bdI x.Inputs∧a5K x.Setting∧a9f x.Source
theorem V4:Au.esz=10:=by decide
theorem Wt (x:Ac):Au.enc x=[sl bp x.Circuit.Gates,sl eI x.Publics,sl eI x.Inputs,I x.Setting.Rate,I x.Setting.Queries,I x.Setting.Grind,sl ak x.Source.Script,I x.Source.At,S x.Source.State,I x.Source.Count]:=rfl
theorem Zr (a0:(List ah)) (a1 a2:(List Int)) (a3 a4 a5:Int) (a6:(List Ext)) (a7:Int) (a8:(List UInt8)) (a9:Int) (l:List Ac):bK [sl bp a0,sl eI a1,sl eI a2,I a3,I a4,I a5,sl ak a6,I a7,S a8,I a9] (rws Au l)=rws Au ((⟨⟨a0⟩,a1,a2,⟨a3,a4,a5⟩,⟨a6,a7,a8,a9⟩⟩:Ac)::l):=rfl
theorem a4B (a0:(List ah)) (a1 a2:(List Int)) (a3 a4 a5:Int) (a6:(List Ext)) (a7:Int) (a8:(List UInt8)) (a9:Int) (l:List Ac) (i:Nat):dZ (rws Au l) i [sl bp a0,sl eI a1,sl eI a2,I a3,I a4,I a5,sl ak a6,I a7,S a8,I a9]=rws Au (l.set i (⟨⟨a0⟩,a1,a2,⟨a3,a4,a5⟩,⟨a6,a7,a8,a9⟩⟩:Ac)):=by simp [dZ,rws,Au]
theorem a5B (x:Ac):Ac.mk x.Circuit x.Publics x.Inputs x.Setting x.Source=x:=rfl
attribute [go_sem] V4 Wt Zr a4B a5B
def um:En aD:=⟨3,fun x=>[sl eU8 x.code,I x.at_,I x.seed]⟩
def c1v (x:aD):Prop:=bdL (bdT (α:=UInt8)) x.code∧bdI x.at_∧bdI x.seed
theorem Vw:um.esz=3:=by decide
theorem Xh (x:aD):um.enc x=[sl eU8 x.code,I x.at_,I x.seed]:=rfl
theorem a0M (a0:(List UInt8)) (a1 a2:Int) (l:List aD):bK [sl eU8 a0,I a1,I a2] (rws um l)=rws um ((⟨a0,a1,a2⟩:aD)::l):=rfl
theorem a4E (a0:(List UInt8)) (a1 a2:Int) (l:List aD) (i:Nat):dZ (rws um l) i [sl eU8 a0,I a1,I a2]=rws um (l.set i (⟨a0,a1,a2⟩:aD)):=by simp [dZ,rws,um]
theorem a4W (x:aD):aD.mk x.code x.at_ x.seed=x:=rfl
attribute [go_sem] Vw Xh a0M a4E a4W
theorem RM (a1 a2:Int) (l:List aD):bK [.imm 1 [],I a1,I a2] (rws um l)=rws um ((⟨[],a1,a2⟩:aD)::l):=rfl
attribute [go_sem] RM
def di:En cc:=⟨2,fun x=>[sl ak x.Pairs,sl (eL eS) x.Paths]⟩
def b3O (x:cc):Prop:=bdL CR x.Pairs∧bdL (bdL bdS) x.Paths
theorem a0Z:di.esz=2:=by decide
theorem a0f (x:cc):di.enc x=[sl ak x.Pairs,sl (eL eS) x.Paths]:=rfl
theorem a3D (a0:(List Ext)) (a1:(List (List (List UInt8)))) (l:List cc):bK [sl ak a0,sl (eL eS) a1] (rws di l)=rws di ((⟨a0,a1⟩:cc)::l):=rfl
theorem b0y (a0:(List Ext)) (a1:(List (List (List UInt8)))) (l:List cc) (i:Nat):dZ (rws di l) i [sl ak a0,sl (eL eS) a1]=rws di (l.set i (⟨a0,a1⟩:cc)):=by simp [dZ,rws,di]
theorem a6t (x:cc):cc.mk x.Pairs x.Paths=x:=rfl
attribute [go_sem] a0Z a0f a3D b0y a6t
theorem VR (a1:(List (List (List UInt8)))) (l:List cc):bK [.imm 1 [],sl (eL eS) a1] (rws di l)=rws di ((⟨[],a1⟩:cc)::l):=rfl
attribute [go_sem] VR
theorem XU (a0:(List Ext)) (l:List cc):bK [sl ak a0,.imm 1 []] (rws di l)=rws di ((⟨a0,[]⟩:cc)::l):=rfl
attribute [go_sem] XU
theorem UW (l:List cc):bK [.imm 1 [],.imm 1 []] (rws di l)=rws di ((⟨[],[]⟩:cc)::l):=rfl
attribute [go_sem] UW
def dh:En aV:=⟨6,fun x=>[sl (eL ak) x.Rounds,sl eS x.Roots,I x.Last.A,I x.Last.B,I x.Nonce,sl di x.Queries]⟩
def a5j (x:aV):Prop:=bdL (bdL CR) x.Rounds∧bdL bdS x.Roots∧CR x.Last∧bdI x.Nonce∧bdL b3O x.Queries
theorem TR:dh.esz=6:=by decide
theorem Tz (x:aV):dh.enc x=[sl (eL ak) x.Rounds,sl eS x.Roots,I x.Last.A,I x.Last.B,I x.Nonce,sl di x.Queries]:=rfl
theorem WR (a0:(List (List Ext))) (a1:(List (List UInt8))) (a2 a3 a4:Int) (a5:(List cc)) (l:List aV):bK [sl (eL ak) a0,sl eS a1,I a2,I a3,I a4,sl di a5] (rws dh l)=rws dh ((⟨a0,a1,⟨a2,a3⟩,a4,a5⟩:aV)::l):=rfl
theorem ZE (a0:(List (List Ext))) (a1:(List (List UInt8))) (a2 a3 a4:Int) (a5:(List cc)) (l:List aV) (i:Nat):dZ (rws dh l) i [sl (eL ak) a0,sl eS a1,I a2,I a3,I a4,sl di a5]=rws dh (l.set i (⟨a0,a1,⟨a2,a3⟩,a4,a5⟩:aV)):=by simp [dZ,rws,dh]
theorem ZK (x:aV):aV.mk x.Rounds x.Roots x.Last x.Nonce x.Queries=x:=rfl
attribute [go_sem] TR Tz WR ZE ZK
theorem Pk (a1:(List (List UInt8))) (a2 a3 a4:Int) (a5:(List cc)) (l:List aV):bK [.imm 1 [],sl eS a1,I a2,I a3,I a4,sl di a5] (rws dh l)=rws dh ((⟨[],a1,⟨a2,a3⟩,a4,a5⟩:aV)::l):=rfl
attribute [go_sem] Pk
theorem Ql (a0:(List (List Ext))) (a2 a3 a4:Int) (a5:(List cc)) (l:List aV):bK [sl (eL ak) a0,.imm 1 [],I a2,I a3,I a4,sl di a5] (rws dh l)=rws dh ((⟨a0,[],⟨a2,a3⟩,a4,a5⟩:aV)::l):=rfl
attribute [go_sem] Ql
theorem Qd (a2 a3 a4:Int) (a5:(List cc)) (l:List aV):bK [.imm 1 [],.imm 1 [],I a2,I a3,I a4,sl di a5] (rws dh l)=rws dh ((⟨[],[],⟨a2,a3⟩,a4,a5⟩:aV)::l):=rfl
attribute [go_sem] Qd
theorem Pl (a0:(List (List Ext))) (a1:(List (List UInt8))) (a2 a3 a4:Int) (l:List aV):bK [sl (eL ak) a0,sl eS a1,I a2,I a3,I a4,.imm 1 []] (rws dh l)=rws dh ((⟨a0,a1,⟨a2,a3⟩,a4,[]⟩:aV)::l):=rfl
attribute [go_sem] Pl
theorem PN (a1:(List (List UInt8))) (a2 a3 a4:Int) (l:List aV):bK [.imm 1 [],sl eS a1,I a2,I a3,I a4,.imm 1 []] (rws dh l)=rws dh ((⟨[],a1,⟨a2,a3⟩,a4,[]⟩:aV)::l):=rfl
attribute [go_sem] PN
theorem Po (a0:(List (List Ext))) (a2 a3 a4:Int) (l:List aV):bK [sl (eL ak) a0,.imm 1 [],I a2,I a3,I a4,.imm 1 []] (rws dh l)=rws dh ((⟨a0,[],⟨a2,a3⟩,a4,[]⟩:aV)::l):=rfl
attribute [go_sem] Po
theorem Q0 (a2 a3 a4:Int) (l:List aV):bK [.imm 1 [],.imm 1 [],I a2,I a3,I a4,.imm 1 []] (rws dh l)=rws dh ((⟨[],[],⟨a2,a3⟩,a4,[]⟩:aV)::l):=rfl
attribute [go_sem] Q0
def G4:En il:=⟨17,fun x=>[S x.Root,sl (eL ak) x.Gates,I x.VA.A,I x.VA.B,I x.VB.A,I x.VB.B,I x.VC.A,I x.VC.B,sl (eL ak) x.Wires,I x.VW.A,I x.VW.B,sl (eL ak) x.Open.Rounds,sl eS x.Open.Roots,I x.Open.Last.A,I x.Open.Last.B,I x.Open.Nonce,sl di x.Open.Queries]⟩
def c3w (x:il):Prop:=bdS x.Root∧bdL (bdL CR) x.Gates∧CR x.VA∧CR x.VB∧CR x.VC∧bdL (bdL CR) x.Wires∧CR x.VW∧a5j x.Open
theorem a0W:G4.esz=17:=by decide
theorem a0G (x:il):G4.enc x=[S x.Root,sl (eL ak) x.Gates,I x.VA.A,I x.VA.B,I x.VB.A,I x.VB.B,I x.VC.A,I x.VC.B,sl (eL ak) x.Wires,I x.VW.A,I x.VW.B,sl (eL ak) x.Open.Rounds,sl eS x.Open.Roots,I x.Open.Last.A,I x.Open.Last.B,I x.Open.Nonce,sl di x.Open.Queries]:=rfl
theorem a54 (a0:(List UInt8)) (a1:(List (List Ext))) (a2 a3 a4 a5 a6 a7:Int) (a8:(List (List Ext))) (a9 a10:Int) (a11:(List (List Ext))) (a12:(List (List UInt8))) (a13 a14 a15:Int) (a16:(List cc)) (l:List il):bK [S a0,sl (eL ak) a1,I a2,I a3,I a4,I a5,I a6,I a7,sl (eL ak) a8,I a9,I a10,sl (eL ak) a11,sl eS a12,I a13,I a14,I a15,sl di a16] (rws G4 l)=rws G4 ((⟨a0,a1,⟨a2,a3⟩,⟨a4,a5⟩,⟨a6,a7⟩,a8,⟨a9,a10⟩,⟨a11,a12,⟨a13,a14⟩,a15,a16⟩⟩:il)::l):=rfl
theorem a7W (a0:(List UInt8)) (a1:(List (List Ext))) (a2 a3 a4 a5 a6 a7:Int) (a8:(List (List Ext))) (a9 a10:Int) (a11:(List (List Ext))) (a12:(List (List UInt8))) (a13 a14 a15:Int) (a16:(List cc)) (l:List il) (i:Nat):dZ (rws G4 l) i [S a0,sl (eL ak) a1,I a2,I a3,I a4,I a5,I a6,I a7,sl (eL ak) a8,I a9,I a10,sl (eL ak) a11,sl eS a12,I a13,I a14,I a15,sl di a16]=rws G4 (l.set i (⟨a0,a1,⟨a2,a3⟩,⟨a4,a5⟩,⟨a6,a7⟩,a8,⟨a9,a10⟩,⟨a11,a12,⟨a13,a14⟩,a15,a16⟩⟩:il)):=by simp [dZ,rws,G4]
theorem a9U (x:il):il.mk x.Root x.Gates x.VA x.VB x.VC x.Wires x.VW x.Open=x:=rfl
attribute [go_sem] a0W a0G a54 a7W a9U
def ai:En ae:=⟨3,fun x=>[I x.Row,I x.Col,I x.Value]⟩
def Mg (x:ae):Prop:=bdI x.Row∧bdI x.Col∧bdI x.Value
theorem G1:ai.esz=3:=by decide
theorem Fu (x:ae):ai.enc x=[I x.Row,I x.Col,I x.Value]:=rfl
theorem Jy (a0 a1 a2:Int) (l:List ae):bK [I a0,I a1,I a2] (rws ai l)=rws ai ((⟨a0,a1,a2⟩:ae)::l):=rfl
theorem NN (a0 a1 a2:Int) (l:List ae) (i:Nat):dZ (rws ai l) i [I a0,I a1,I a2]=rws ai (l.set i (⟨a0,a1,a2⟩:ae)):=by simp [dZ,rws,ai]
theorem OB (x:ae):ae.mk x.Row x.Col x.Value=x:=rfl
attribute [go_sem] G1 Fu Jy NN OB
def eG:En aL:=⟨6,fun x=>[I x.Rows,I x.Cols,I x.Publics,sl ai x.A,sl ai x.B,sl ai x.C]⟩
def c2A (x:aL):Prop:=bdI x.Rows∧bdI x.Cols∧bdI x.Publics∧bdL Mg x.A∧bdL Mg x.B∧bdL Mg x.C
theorem Wu:eG.esz=6:=by decide
theorem Yl (x:aL):eG.enc x=[I x.Rows,I x.Cols,I x.Publics,sl ai x.A,sl ai x.B,sl ai x.C]:=rfl
theorem a0a (a0 a1 a2:Int) (a3 a4 a5:(List ae)) (l:List aL):bK [I a0,I a1,I a2,sl ai a3,sl ai a4,sl ai a5] (rws eG l)=rws eG ((⟨a0,a1,a2,a3,a4,a5⟩:aL)::l):=rfl
theorem a6c (a0 a1 a2:Int) (a3 a4 a5:(List ae)) (l:List aL) (i:Nat):dZ (rws eG l) i [I a0,I a1,I a2,sl ai a3,sl ai a4,sl ai a5]=rws eG (l.set i (⟨a0,a1,a2,a3,a4,a5⟩:aL)):=by simp [dZ,rws,eG]
theorem a2O (x:aL):aL.mk x.Rows x.Cols x.Publics x.A x.B x.C=x:=rfl
attribute [go_sem] Wu Yl a0a a6c a2O
theorem T3 (a0 a1 a2:Int) (a4 a5:(List ae)) (l:List aL):bK [I a0,I a1,I a2,.imm 1 [],sl ai a4,sl ai a5] (rws eG l)=rws eG ((⟨a0,a1,a2,[],a4,a5⟩:aL)::l):=rfl
attribute [go_sem] T3
theorem SF (a0 a1 a2:Int) (a3 a5:(List ae)) (l:List aL):bK [I a0,I a1,I a2,sl ai a3,.imm 1 [],sl ai a5] (rws eG l)=rws eG ((⟨a0,a1,a2,a3,[],a5⟩:aL)::l):=rfl
attribute [go_sem] SF
theorem TA (a0 a1 a2:Int) (a5:(List ae)) (l:List aL):bK [I a0,I a1,I a2,.imm 1 [],.imm 1 [],sl ai a5] (rws eG l)=rws eG ((⟨a0,a1,a2,[],[],a5⟩:aL)::l):=rfl
attribute [go_sem] TA
theorem Sw (a0 a1 a2:Int) (a3 a4:(List ae)) (l:List aL):bK [I a0,I a1,I a2,sl ai a3,sl ai a4,.imm 1 []] (rws eG l)=rws eG ((⟨a0,a1,a2,a3,a4,[]⟩:aL)::l):=rfl
attribute [go_sem] Sw
theorem SJ (a0 a1 a2:Int) (a4:(List ae)) (l:List aL):bK [I a0,I a1,I a2,.imm 1 [],sl ai a4,.imm 1 []] (rws eG l)=rws eG ((⟨a0,a1,a2,[],a4,[]⟩:aL)::l):=rfl
attribute [go_sem] SJ
theorem TU (a0 a1 a2:Int) (a3:(List ae)) (l:List aL):bK [I a0,I a1,I a2,sl ai a3,.imm 1 [],.imm 1 []] (rws eG l)=rws eG ((⟨a0,a1,a2,a3,[],[]⟩:aL)::l):=rfl
attribute [go_sem] TU
theorem Sm (a0 a1 a2:Int) (l:List aL):bK [I a0,I a1,I a2,.imm 1 [],.imm 1 [],.imm 1 []] (rws eG l)=rws eG ((⟨a0,a1,a2,[],[],[]⟩:aL)::l):=rfl
attribute [go_sem] Sm
def bI:En aG:=⟨2,fun x=>[sl ak x.word,sl (eL eS) x.rows]⟩
def b7a (x:aG):Prop:=bdL CR x.word∧bdL (bdL bdS) x.rows
theorem N8:bI.esz=2:=by decide
theorem MA (x:aG):bI.enc x=[sl ak x.word,sl (eL eS) x.rows]:=rfl
theorem Q3 (a0:(List Ext)) (a1:(List (List (List UInt8)))) (l:List aG):bK [sl ak a0,sl (eL eS) a1] (rws bI l)=rws bI ((⟨a0,a1⟩:aG)::l):=rfl
theorem U6 (a0:(List Ext)) (a1:(List (List (List UInt8)))) (l:List aG) (i:Nat):dZ (rws bI l) i [sl ak a0,sl (eL eS) a1]=rws bI (l.set i (⟨a0,a1⟩:aG)):=by simp [dZ,rws,bI]
theorem Sk (x:aG):aG.mk x.word x.rows=x:=rfl
attribute [go_sem] N8 MA Q3 U6 Sk
theorem Lk (a1:(List (List (List UInt8)))) (l:List aG):bK [.imm 1 [],sl (eL eS) a1] (rws bI l)=rws bI ((⟨[],a1⟩:aG)::l):=rfl
attribute [go_sem] Lk
theorem LG (a0:(List Ext)) (l:List aG):bK [sl ak a0,.imm 1 []] (rws bI l)=rws bI ((⟨a0,[]⟩:aG)::l):=rfl
attribute [go_sem] LG
theorem Lr (l:List aG):bK [.imm 1 [],.imm 1 []] (rws bI l)=rws bI ((⟨[],[]⟩:aG)::l):=rfl
attribute [go_sem] Lr
def gZ:En gq:=⟨1,fun x=>[sl eU8 x.b]⟩
def b3Q (x:gq):Prop:=bdL (bdT (α:=UInt8)) x.b
theorem Li:gZ.esz=1:=by decide
theorem Ls (x:gq):gZ.enc x=[sl eU8 x.b]:=rfl
theorem Nj (a0:(List UInt8)) (l:List gq):bK [sl eU8 a0] (rws gZ l)=rws gZ ((⟨a0⟩:gq)::l):=rfl
theorem Q6 (a0:(List UInt8)) (l:List gq) (i:Nat):dZ (rws gZ l) i [sl eU8 a0]=rws gZ (l.set i (⟨a0⟩:gq)):=by simp [dZ,rws,gZ]
theorem PS (x:gq):gq.mk x.b=x:=rfl
attribute [go_sem] Li Ls Nj Q6 PS
theorem Kd (l:List gq):bK [.imm 1 []] (rws gZ l)=rws gZ ((⟨[]⟩:gq)::l):=rfl
attribute [go_sem] Kd
def lv:En Handed:=⟨2,fun x=>[sl eI x.Publics,sl eI x.Inputs]⟩
def c3k (x:Handed):Prop:=bdL bdI x.Publics∧bdL bdI x.Inputs
theorem UZ:lv.esz=2:=by decide
theorem Vz (x:Handed):lv.enc x=[sl eI x.Publics,sl eI x.Inputs]:=rfl
theorem Zo (a0 a1:(List Int)) (l:List Handed):bK [sl eI a0,sl eI a1] (rws lv l)=rws lv ((⟨a0,a1⟩:Handed)::l):=rfl
theorem a5v (a0 a1:(List Int)) (l:List Handed) (i:Nat):dZ (rws lv l) i [sl eI a0,sl eI a1]=rws lv (l.set i (⟨a0,a1⟩:Handed)):=by simp [dZ,rws,lv]
theorem a4p (x:Handed):Handed.mk x.Publics x.Inputs=x:=rfl
attribute [go_sem] UZ Vz Zo a5v a4p
theorem Sp (a1:(List Int)) (l:List Handed):bK [.imm 1 [],sl eI a1] (rws lv l)=rws lv ((⟨[],a1⟩:Handed)::l):=rfl
attribute [go_sem] Sp
theorem Tw (a0:(List Int)) (l:List Handed):bK [sl eI a0,.imm 1 []] (rws lv l)=rws lv ((⟨a0,[]⟩:Handed)::l):=rfl
attribute [go_sem] Tw
theorem Tu (l:List Handed):bK [.imm 1 [],.imm 1 []] (rws lv l)=rws lv ((⟨[],[]⟩:Handed)::l):=rfl
attribute [go_sem] Tu
def zp:En Ai:=⟨2,fun x=>[S x.t,B x.ok]⟩
def c2v (x:Ai):Prop:=bdS x.t∧bdT (α:=Bool) x.ok
theorem Xf:zp.esz=2:=by decide
theorem Wz (x:Ai):zp.enc x=[S x.t,B x.ok]:=rfl
theorem a0u (a0:(List UInt8)) (a1:Bool) (l:List Ai):bK [S a0,B a1] (rws zp l)=rws zp ((⟨a0,a1⟩:Ai)::l):=rfl
theorem a4U (a0:(List UInt8)) (a1:Bool) (l:List Ai) (i:Nat):dZ (rws zp l) i [S a0,B a1]=rws zp (l.set i (⟨a0,a1⟩:Ai)):=by simp [dZ,rws,zp]
theorem a62 (x:Ai):Ai.mk x.t x.ok=x:=rfl
attribute [go_sem] Xf Wz a0u a4U a62
end Go.AI.Fn
