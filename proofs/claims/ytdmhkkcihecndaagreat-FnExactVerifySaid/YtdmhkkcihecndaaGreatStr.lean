/- Structs. -/
import Derived.Test.YtdmhkkcihecndaaGreatTb1
import Derived.Test.YtdmhkkcihecndaaGreatAiArg
import Derived.Test.YtdmhkkcihecndaaGreatAiAdd
namespace Go.AI.Fn
structure Ext where
 A:Int
 B:Int
structure sB where
 code:(List UInt8)
 at_:Int
 seed:Int
structure Setting where
 Rate:Int
 Queries:Int
 Grind:Int
structure Source where
 Script:(List Ext)
 At:Int
 State:(List UInt8)
 Count:Int
structure ff where
 word:(List Ext)
 rows:(List (List (List UInt8)))
structure Query where
 Pairs:(List Ext)
 Paths:(List (List (List UInt8)))
structure Opening where
 Rounds:(List (List Ext))
 Roots:(List (List UInt8))
 Last:Ext
 Nonce:Int
 Queries:(List Query)
structure Entry where
 Row:Int
 Col:Int
 Value:Int
structure System where
 Rows:Int
 Cols:Int
 Publics:Int
 A:(List Entry)
 B:(List Entry)
 C:(List Entry)
structure Proof where
 Root:(List UInt8)
 Gates:(List (List Ext))
 VA:Ext
 VB:Ext
 VC:Ext
 Wires:(List (List Ext))
 VW:Ext
 Open:Opening
structure DD where
 t:(List UInt8)
 ok:Bool
structure hZ where
 b:(List UInt8)
structure OT where
 Op:Int
 A:Int
 B:Int
 K:Int
structure Circuit where
 Gates:(List OT)
structure E9 where
 Circuit:Circuit
 Publics:(List Int)
 Inputs:(List Int)
 Setting:Setting
 Source:Source
def eExt:En Ext:=⟨2,fun x=>[I x.A,I x.B]⟩
def bdExt (x:Ext):Prop:=bdI x.A∧bdI x.B
theorem a7H:eExt.esz=2:=by decide
theorem a54 (x:Ext):eExt.enc x=[I x.A,I x.B]:=rfl
theorem a8y (a0 a1:Int) (l:List Ext):co [I a0,I a1] (rws eExt l)=rws eExt ((⟨a0,a1⟩:Ext)::l):=rfl
theorem b3n (a0 a1:Int) (l:List Ext) (i:Nat):vk (rws eExt l) i [I a0,I a1]=rws eExt (l.set i (⟨a0,a1⟩:Ext)):=by simp [vk,rws,eExt]
theorem b2B (x:Ext):Ext.mk x.A x.B=x:=rfl
attribute [go_sem] a7H a54 a8y b3n b2B
def FK:En sB:=⟨3,fun x=>[sl eU8 x.code,I x.at_,I x.seed]⟩
def b67 (x:sB):Prop:=bdL (bdT (α:=UInt8)) x.code∧bdI x.at_∧bdI x.seed
theorem WM (x:sB):FK.enc x=[sl eU8 x.code,I x.at_,I x.seed]:=rfl
theorem Zc (a0:(List UInt8)) (a1 a2:Int) (l:List sB):co [sl eU8 a0,I a1,I a2] (rws FK l)=rws FK ((⟨a0,a1,a2⟩:sB)::l):=rfl
theorem a2r (x:sB):sB.mk x.code x.at_ x.seed=x:=rfl
attribute [go_sem] WM Zc a2r
theorem TL (a1 a2:Int) (l:List sB):co [.imm 1 [],I a1,I a2] (rws FK l)=rws FK ((⟨[],a1,a2⟩:sB)::l):=rfl
attribute [go_sem] TL
def eSetting:En Setting:=⟨3,fun x=>[I x.Rate,I x.Queries,I x.Grind]⟩
def bdSetting (x:Setting):Prop:=bdI x.Rate∧bdI x.Queries∧bdI x.Grind
theorem Tq (x:Setting):eSetting.enc x=[I x.Rate,I x.Queries,I x.Grind]:=rfl
theorem WF (a0 a1 a2:Int) (l:List Setting):co [I a0,I a1,I a2] (rws eSetting l)=rws eSetting ((⟨a0,a1,a2⟩:Setting)::l):=rfl
theorem Xz (x:Setting):Setting.mk x.Rate x.Queries x.Grind=x:=rfl
attribute [go_sem] Tq WF Xz
def eSource:En Source:=⟨4,fun x=>[sl eExt x.Script,I x.At,S x.State,I x.Count]⟩
def bdSource (x:Source):Prop:=bdL bdExt x.Script∧bdI x.At∧bdS x.State∧bdI x.Count
theorem X2 (x:Source):eSource.enc x=[sl eExt x.Script,I x.At,S x.State,I x.Count]:=rfl
theorem YF (a0:(List Ext)) (a1:Int) (a2:(List UInt8)) (a3:Int) (l:List Source):co [sl eExt a0,I a1,S a2,I a3] (rws eSource l)=rws eSource ((⟨a0,a1,a2,a3⟩:Source)::l):=rfl
theorem a3o (x:Source):Source.mk x.Script x.At x.State x.Count=x:=rfl
attribute [go_sem] X2 YF a3o
theorem Sg (a1:Int) (a2:(List UInt8)) (a3:Int) (l:List Source):co [.imm 1 [],I a1,S a2,I a3] (rws eSource l)=rws eSource ((⟨[],a1,a2,a3⟩:Source)::l):=rfl
attribute [go_sem] Sg
def fZ:En ff:=⟨2,fun x=>[sl eExt x.word,sl (eL eS) x.rows]⟩
def b1I (x:ff):Prop:=bdL bdExt x.word∧bdL (bdL bdS) x.rows
theorem Kj:fZ.esz=2:=by decide
theorem M0 (x:ff):fZ.enc x=[sl eExt x.word,sl (eL eS) x.rows]:=rfl
theorem Oo (a0:(List Ext)) (a1:(List (List (List UInt8)))) (l:List ff):co [sl eExt a0,sl (eL eS) a1] (rws fZ l)=rws fZ ((⟨a0,a1⟩:ff)::l):=rfl
theorem S4 (x:ff):ff.mk x.word x.rows=x:=rfl
attribute [go_sem] Kj M0 Oo S4
theorem Jy (a1:(List (List (List UInt8)))) (l:List ff):co [.imm 1 [],sl (eL eS) a1] (rws fZ l)=rws fZ ((⟨[],a1⟩:ff)::l):=rfl
attribute [go_sem] Jy
theorem IR (a0:(List Ext)) (l:List ff):co [sl eExt a0,.imm 1 []] (rws fZ l)=rws fZ ((⟨a0,[]⟩:ff)::l):=rfl
attribute [go_sem] IR
theorem Jg (l:List ff):co [.imm 1 [],.imm 1 []] (rws fZ l)=rws fZ ((⟨[],[]⟩:ff)::l):=rfl
attribute [go_sem] Jg
def eQuery:En Query:=⟨2,fun x=>[sl eExt x.Pairs,sl (eL eS) x.Paths]⟩
def bdQuery (x:Query):Prop:=bdL bdExt x.Pairs∧bdL (bdL bdS) x.Paths
theorem XS:eQuery.esz=2:=by decide
theorem Xv (x:Query):eQuery.enc x=[sl eExt x.Pairs,sl (eL eS) x.Paths]:=rfl
theorem a0G (a0:(List Ext)) (a1:(List (List (List UInt8)))) (l:List Query):co [sl eExt a0,sl (eL eS) a1] (rws eQuery l)=rws eQuery ((⟨a0,a1⟩:Query)::l):=rfl
theorem a5o (a0:(List Ext)) (a1:(List (List (List UInt8)))) (l:List Query) (i:Nat):vk (rws eQuery l) i [sl eExt a0,sl (eL eS) a1]=rws eQuery (l.set i (⟨a0,a1⟩:Query)):=by simp [vk,rws,eQuery]
theorem a62 (x:Query):Query.mk x.Pairs x.Paths=x:=rfl
attribute [go_sem] XS Xv a0G a5o a62
theorem V4 (a1:(List (List (List UInt8)))) (l:List Query):co [.imm 1 [],sl (eL eS) a1] (rws eQuery l)=rws eQuery ((⟨[],a1⟩:Query)::l):=rfl
attribute [go_sem] V4
theorem Ua (a0:(List Ext)) (l:List Query):co [sl eExt a0,.imm 1 []] (rws eQuery l)=rws eQuery ((⟨a0,[]⟩:Query)::l):=rfl
attribute [go_sem] Ua
theorem UB (l:List Query):co [.imm 1 [],.imm 1 []] (rws eQuery l)=rws eQuery ((⟨[],[]⟩:Query)::l):=rfl
attribute [go_sem] UB
def eOpening:En Opening:=⟨6,fun x=>[sl (eL eExt) x.Rounds,sl eS x.Roots,I x.Last.A,I x.Last.B,I x.Nonce,sl eQuery x.Queries]⟩
def bdOpening (x:Opening):Prop:=bdL (bdL bdExt) x.Rounds∧bdL bdS x.Roots∧bdExt x.Last∧bdI x.Nonce∧bdL bdQuery x.Queries
theorem Rz (x:Opening):eOpening.enc x=[sl (eL eExt) x.Rounds,sl eS x.Roots,I x.Last.A,I x.Last.B,I x.Nonce,sl eQuery x.Queries]:=rfl
theorem UM (a0:(List (List Ext))) (a1:(List (List UInt8))) (a2 a3 a4:Int) (a5:(List Query)) (l:List Opening):co [sl (eL eExt) a0,sl eS a1,I a2,I a3,I a4,sl eQuery a5] (rws eOpening l)=rws eOpening ((⟨a0,a1,⟨a2,a3⟩,a4,a5⟩:Opening)::l):=rfl
theorem Za (x:Opening):Opening.mk x.Rounds x.Roots x.Last x.Nonce x.Queries=x:=rfl
attribute [go_sem] Rz UM Za
theorem NZ (a1:(List (List UInt8))) (a2 a3 a4:Int) (a5:(List Query)) (l:List Opening):co [.imm 1 [],sl eS a1,I a2,I a3,I a4,sl eQuery a5] (rws eOpening l)=rws eOpening ((⟨[],a1,⟨a2,a3⟩,a4,a5⟩:Opening)::l):=rfl
attribute [go_sem] NZ
theorem Pl (a0:(List (List Ext))) (a2 a3 a4:Int) (a5:(List Query)) (l:List Opening):co [sl (eL eExt) a0,.imm 1 [],I a2,I a3,I a4,sl eQuery a5] (rws eOpening l)=rws eOpening ((⟨a0,[],⟨a2,a3⟩,a4,a5⟩:Opening)::l):=rfl
attribute [go_sem] Pl
theorem Pt (a2 a3 a4:Int) (a5:(List Query)) (l:List Opening):co [.imm 1 [],.imm 1 [],I a2,I a3,I a4,sl eQuery a5] (rws eOpening l)=rws eOpening ((⟨[],[],⟨a2,a3⟩,a4,a5⟩:Opening)::l):=rfl
attribute [go_sem] Pt
theorem Pw (a0:(List (List Ext))) (a1:(List (List UInt8))) (a2 a3 a4:Int) (l:List Opening):co [sl (eL eExt) a0,sl eS a1,I a2,I a3,I a4,.imm 1 []] (rws eOpening l)=rws eOpening ((⟨a0,a1,⟨a2,a3⟩,a4,[]⟩:Opening)::l):=rfl
attribute [go_sem] Pw
theorem OW (a1:(List (List UInt8))) (a2 a3 a4:Int) (l:List Opening):co [.imm 1 [],sl eS a1,I a2,I a3,I a4,.imm 1 []] (rws eOpening l)=rws eOpening ((⟨[],a1,⟨a2,a3⟩,a4,[]⟩:Opening)::l):=rfl
attribute [go_sem] OW
theorem Po (a0:(List (List Ext))) (a2 a3 a4:Int) (l:List Opening):co [sl (eL eExt) a0,.imm 1 [],I a2,I a3,I a4,.imm 1 []] (rws eOpening l)=rws eOpening ((⟨a0,[],⟨a2,a3⟩,a4,[]⟩:Opening)::l):=rfl
attribute [go_sem] Po
theorem O7 (a2 a3 a4:Int) (l:List Opening):co [.imm 1 [],.imm 1 [],I a2,I a3,I a4,.imm 1 []] (rws eOpening l)=rws eOpening ((⟨[],[],⟨a2,a3⟩,a4,[]⟩:Opening)::l):=rfl
attribute [go_sem] O7
def eEntry:En Entry:=⟨3,fun x=>[I x.Row,I x.Col,I x.Value]⟩
def bdEntry (x:Entry):Prop:=bdI x.Row∧bdI x.Col∧bdI x.Value
theorem Xu:eEntry.esz=3:=by decide
theorem YN (x:Entry):eEntry.enc x=[I x.Row,I x.Col,I x.Value]:=rfl
theorem a2l (a0 a1 a2:Int) (l:List Entry):co [I a0,I a1,I a2] (rws eEntry l)=rws eEntry ((⟨a0,a1,a2⟩:Entry)::l):=rfl
theorem a3X (a0 a1 a2:Int) (l:List Entry) (i:Nat):vk (rws eEntry l) i [I a0,I a1,I a2]=rws eEntry (l.set i (⟨a0,a1,a2⟩:Entry)):=by simp [vk,rws,eEntry]
theorem a5J (x:Entry):Entry.mk x.Row x.Col x.Value=x:=rfl
attribute [go_sem] Xu YN a2l a3X a5J
def eSystem:En System:=⟨6,fun x=>[I x.Rows,I x.Cols,I x.Publics,sl eEntry x.A,sl eEntry x.B,sl eEntry x.C]⟩
def bdSystem (x:System):Prop:=bdI x.Rows∧bdI x.Cols∧bdI x.Publics∧bdL bdEntry x.A∧bdL bdEntry x.B∧bdL bdEntry x.C
theorem VV (x:System):eSystem.enc x=[I x.Rows,I x.Cols,I x.Publics,sl eEntry x.A,sl eEntry x.B,sl eEntry x.C]:=rfl
theorem Xt (a0 a1 a2:Int) (a3 a4 a5:(List Entry)) (l:List System):co [I a0,I a1,I a2,sl eEntry a3,sl eEntry a4,sl eEntry a5] (rws eSystem l)=rws eSystem ((⟨a0,a1,a2,a3,a4,a5⟩:System)::l):=rfl
theorem a2X (x:System):System.mk x.Rows x.Cols x.Publics x.A x.B x.C=x:=rfl
attribute [go_sem] VV Xt a2X
theorem Sr (a0 a1 a2:Int) (a4 a5:(List Entry)) (l:List System):co [I a0,I a1,I a2,.imm 1 [],sl eEntry a4,sl eEntry a5] (rws eSystem l)=rws eSystem ((⟨a0,a1,a2,[],a4,a5⟩:System)::l):=rfl
attribute [go_sem] Sr
theorem Sm (a0 a1 a2:Int) (a3 a5:(List Entry)) (l:List System):co [I a0,I a1,I a2,sl eEntry a3,.imm 1 [],sl eEntry a5] (rws eSystem l)=rws eSystem ((⟨a0,a1,a2,a3,[],a5⟩:System)::l):=rfl
attribute [go_sem] Sm
theorem U1 (a0 a1 a2:Int) (a5:(List Entry)) (l:List System):co [I a0,I a1,I a2,.imm 1 [],.imm 1 [],sl eEntry a5] (rws eSystem l)=rws eSystem ((⟨a0,a1,a2,[],[],a5⟩:System)::l):=rfl
attribute [go_sem] U1
theorem TW (a0 a1 a2:Int) (a3 a4:(List Entry)) (l:List System):co [I a0,I a1,I a2,sl eEntry a3,sl eEntry a4,.imm 1 []] (rws eSystem l)=rws eSystem ((⟨a0,a1,a2,a3,a4,[]⟩:System)::l):=rfl
attribute [go_sem] TW
theorem Rd (a0 a1 a2:Int) (a4:(List Entry)) (l:List System):co [I a0,I a1,I a2,.imm 1 [],sl eEntry a4,.imm 1 []] (rws eSystem l)=rws eSystem ((⟨a0,a1,a2,[],a4,[]⟩:System)::l):=rfl
attribute [go_sem] Rd
theorem U5 (a0 a1 a2:Int) (a3:(List Entry)) (l:List System):co [I a0,I a1,I a2,sl eEntry a3,.imm 1 [],.imm 1 []] (rws eSystem l)=rws eSystem ((⟨a0,a1,a2,a3,[],[]⟩:System)::l):=rfl
attribute [go_sem] U5
theorem SF (a0 a1 a2:Int) (l:List System):co [I a0,I a1,I a2,.imm 1 [],.imm 1 [],.imm 1 []] (rws eSystem l)=rws eSystem ((⟨a0,a1,a2,[],[],[]⟩:System)::l):=rfl
attribute [go_sem] SF
def eProof:En Proof:=⟨17,fun x=>[S x.Root,sl (eL eExt) x.Gates,I x.VA.A,I x.VA.B,I x.VB.A,I x.VB.B,I x.VC.A,I x.VC.B,sl (eL eExt) x.Wires,I x.VW.A,I x.VW.B,sl (eL eExt) x.Open.Rounds,sl eS x.Open.Roots,I x.Open.Last.A,I x.Open.Last.B,I x.Open.Nonce,sl eQuery x.Open.Queries]⟩
def bdProof (x:Proof):Prop:=bdS x.Root∧bdL (bdL bdExt) x.Gates∧bdExt x.VA∧bdExt x.VB∧bdExt x.VC∧bdL (bdL bdExt) x.Wires∧bdExt x.VW∧bdOpening x.Open
theorem XA (x:Proof):eProof.enc x=[S x.Root,sl (eL eExt) x.Gates,I x.VA.A,I x.VA.B,I x.VB.A,I x.VB.B,I x.VC.A,I x.VC.B,sl (eL eExt) x.Wires,I x.VW.A,I x.VW.B,sl (eL eExt) x.Open.Rounds,sl eS x.Open.Roots,I x.Open.Last.A,I x.Open.Last.B,I x.Open.Nonce,sl eQuery x.Open.Queries]:=rfl
theorem a1Q (a0:(List UInt8)) (a1:(List (List Ext))) (a2 a3 a4 a5 a6 a7:Int) (a8:(List (List Ext))) (a9 a10:Int) (a11:(List (List Ext))) (a12:(List (List UInt8))) (a13 a14 a15:Int) (a16:(List Query)) (l:List Proof):co [S a0,sl (eL eExt) a1,I a2,I a3,I a4,I a5,I a6,I a7,sl (eL eExt) a8,I a9,I a10,sl (eL eExt) a11,sl eS a12,I a13,I a14,I a15,sl eQuery a16] (rws eProof l)=rws eProof ((⟨a0,a1,⟨a2,a3⟩,⟨a4,a5⟩,⟨a6,a7⟩,a8,⟨a9,a10⟩,⟨a11,a12,⟨a13,a14⟩,a15,a16⟩⟩:Proof)::l):=rfl
theorem a5F (x:Proof):Proof.mk x.Root x.Gates x.VA x.VB x.VC x.Wires x.VW x.Open=x:=rfl
attribute [go_sem] XA a1Q a5F
def TD:En DD:=⟨2,fun x=>[S x.t,B x.ok]⟩
def b5p (x:DD):Prop:=bdS x.t∧bdT (α:=Bool) x.ok
theorem Vb (x:DD):TD.enc x=[S x.t,B x.ok]:=rfl
theorem Z5 (a0:(List UInt8)) (a1:Bool) (l:List DD):co [S a0,B a1] (rws TD l)=rws TD ((⟨a0,a1⟩:DD)::l):=rfl
theorem a26 (x:DD):DD.mk x.t x.ok=x:=rfl
attribute [go_sem] Vb Z5 a26
def pd:En hZ:=⟨1,fun x=>[sl eU8 x.b]⟩
def a87 (x:hZ):Prop:=bdL (bdT (α:=UInt8)) x.b
theorem IW (x:hZ):pd.enc x=[sl eU8 x.b]:=rfl
theorem Ng (a0:(List UInt8)) (l:List hZ):co [sl eU8 a0] (rws pd l)=rws pd ((⟨a0⟩:hZ)::l):=rfl
theorem OH (x:hZ):hZ.mk x.b=x:=rfl
attribute [go_sem] IW Ng OH
theorem GR (l:List hZ):co [.imm 1 []] (rws pd l)=rws pd ((⟨[]⟩:hZ)::l):=rfl
attribute [go_sem] GR
def EF:En OT:=⟨4,fun x=>[I x.Op,I x.A,I x.B,I x.K]⟩
def b3A (x:OT):Prop:=bdI x.Op∧bdI x.A∧bdI x.B∧bdI x.K
theorem a0R (x:OT):EF.enc x=[I x.Op,I x.A,I x.B,I x.K]:=rfl
theorem a6o (a0 a1 a2 a3:Int) (l:List OT):co [I a0,I a1,I a2,I a3] (rws EF l)=rws EF ((⟨a0,a1,a2,a3⟩:OT)::l):=rfl
theorem a9z (x:OT):OT.mk x.Op x.A x.B x.K=x:=rfl
attribute [go_sem] a0R a6o a9z
def zJ:En Circuit:=⟨1,fun x=>[sl EF x.Gates]⟩
def a2b (x:Circuit):Prop:=bdL b3A x.Gates
theorem RE (x:Circuit):zJ.enc x=[sl EF x.Gates]:=rfl
theorem UY (a0:(List OT)) (l:List Circuit):co [sl EF a0] (rws zJ l)=rws zJ ((⟨a0⟩:Circuit)::l):=rfl
theorem Zm (x:Circuit):Circuit.mk x.Gates=x:=rfl
attribute [go_sem] RE UY Zm
theorem P5 (l:List Circuit):co [.imm 1 []] (rws zJ l)=rws zJ ((⟨[]⟩:Circuit)::l):=rfl
attribute [go_sem] P5
def RB:En E9:=⟨10,fun x=>[sl EF x.Circuit.Gates,sl eI x.Publics,sl eI x.Inputs,I x.Setting.Rate,I x.Setting.Queries,I x.Setting.Grind,sl eExt x.Source.Script,I x.Source.At,S x.Source.State,I x.Source.Count]⟩
def b5K (x:E9):Prop:=a2b x.Circuit∧bdL bdI x.Publics∧bdL bdI x.Inputs∧bdSetting x.Setting∧bdSource x.Source
theorem Wv (x:E9):RB.enc x=[sl EF x.Circuit.Gates,sl eI x.Publics,sl eI x.Inputs,I x.Setting.Rate,I x.Setting.Queries,I x.Setting.Grind,sl eExt x.Source.Script,I x.Source.At,S x.Source.State,I x.Source.Count]:=rfl
theorem Y2 (a0:(List OT)) (a1 a2:(List Int)) (a3 a4 a5:Int) (a6:(List Ext)) (a7:Int) (a8:(List UInt8)) (a9:Int) (l:List E9):co [sl EF a0,sl eI a1,sl eI a2,I a3,I a4,I a5,sl eExt a6,I a7,S a8,I a9] (rws RB l)=rws RB ((⟨⟨a0⟩,a1,a2,⟨a3,a4,a5⟩,⟨a6,a7,a8,a9⟩⟩:E9)::l):=rfl
theorem a1w (x:E9):E9.mk x.Circuit x.Publics x.Inputs x.Setting x.Source=x:=rfl
attribute [go_sem] Wv Y2 a1w
end Go.AI.Fn
