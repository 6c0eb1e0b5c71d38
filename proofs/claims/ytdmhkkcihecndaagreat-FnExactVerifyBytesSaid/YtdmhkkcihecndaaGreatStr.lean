/- Structs. -/
import Derived.Test.YtdmhkkcihecndaaGreatTb1
import Derived.Test.YtdmhkkcihecndaaGreatAiTop3
import Derived.Test.YtdmhkkcihecndaaGreatAiAdd
namespace Go.AI.Fn
structure Ext where
 A:Int
 B:Int
structure u6 where
 code:(List UInt8)
 at_:Int
 seed:Int
structure Setting where
 Rate:Int
 Queries:Int
 Grind:Int
structure Source where
 Script:(List Ext)
 At:Int
 State:(List UInt8)
 Count:Int
structure gg where
 word:(List Ext)
 rows:(List (List (List UInt8)))
structure aj where
 Pairs:(List Ext)
 Paths:(List (List (List UInt8)))
structure au where
 Rounds:(List (List Ext))
 Roots:(List (List UInt8))
 Last:Ext
 Nonce:Int
 Queries:(List aj)
structure Entry where
 Row:Int
 Col:Int
 Value:Int
structure System where
 Rows:Int
 Cols:Int
 Publics:Int
 A:(List Entry)
 B:(List Entry)
 C:(List Entry)
structure gn where
 Root:(List UInt8)
 Gates:(List (List Ext))
 VA:Ext
 VB:Ext
 VC:Ext
 Wires:(List (List Ext))
 VW:Ext
 Open:au
structure dd where
 t:(List UInt8)
 ok:Bool
structure aR where
 b:(List UInt8)
structure QI where
 Op:Int
 A:Int
 B:Int
 K:Int
structure Circuit where
 Gates:(List QI)
structure GQ where
 Circuit:Circuit
 Publics:(List Int)
 Inputs:(List Int)
 Setting:Setting
 Source:Source
def eExt:En Ext:=⟨2,fun x=>[I x.A,I x.B]⟩
def bdExt (x:Ext):Prop:=bdI x.A∧bdI x.B
theorem a9F:eExt.esz=2:=by decide
theorem a8Q (x:Ext):eExt.enc x=[I x.A,I x.B]:=rfl
theorem b4w (a0 a1:Int) (l:List Ext):cD [I a0,I a1] (rws eExt l)=rws eExt ((⟨a0,a1⟩:Ext)::l):=rfl
theorem b79 (a0 a1:Int) (l:List Ext) (i:Nat):wS (rws eExt l) i [I a0,I a1]=rws eExt (l.set i (⟨a0,a1⟩:Ext)):=by simp [wS,rws,eExt]
theorem b8t (x:Ext):Ext.mk x.A x.B=x:=rfl
attribute [go_sem] a9F a8Q b4w b79 b8t
def HB:En u6:=⟨3,fun x=>[sl eU8 x.code,I x.at_,I x.seed]⟩
def b9c (x:u6):Prop:=bdL (bdT (α:=UInt8)) x.code∧bdI x.at_∧bdI x.seed
theorem Zi (x:u6):HB.enc x=[sl eU8 x.code,I x.at_,I x.seed]:=rfl
theorem a1z (a0:(List UInt8)) (a1 a2:Int) (l:List u6):cD [sl eU8 a0,I a1,I a2] (rws HB l)=rws HB ((⟨a0,a1,a2⟩:u6)::l):=rfl
theorem a4c (x:u6):u6.mk x.code x.at_ x.seed=x:=rfl
attribute [go_sem] Zi a1z a4c
theorem VQ (a1 a2:Int) (l:List u6):cD [.imm 1 [],I a1,I a2] (rws HB l)=rws HB ((⟨[],a1,a2⟩:u6)::l):=rfl
attribute [go_sem] VQ
def eSetting:En Setting:=⟨3,fun x=>[I x.Rate,I x.Queries,I x.Grind]⟩
def bdSetting (x:Setting):Prop:=bdI x.Rate∧bdI x.Queries∧bdI x.Grind
theorem Vc (x:Setting):eSetting.enc x=[I x.Rate,I x.Queries,I x.Grind]:=rfl
theorem YN (a0 a1 a2:Int) (l:List Setting):cD [I a0,I a1,I a2] (rws eSetting l)=rws eSetting ((⟨a0,a1,a2⟩:Setting)::l):=rfl
theorem a0K (x:Setting):Setting.mk x.Rate x.Queries x.Grind=x:=rfl
attribute [go_sem] Vc YN a0K
def eSource:En Source:=⟨4,fun x=>[sl eExt x.Script,I x.At,S x.State,I x.Count]⟩
def bdSource (x:Source):Prop:=bdL bdExt x.Script∧bdI x.At∧bdS x.State∧bdI x.Count
theorem XB (x:Source):eSource.enc x=[sl eExt x.Script,I x.At,S x.State,I x.Count]:=rfl
theorem a2b (a0:(List Ext)) (a1:Int) (a2:(List UInt8)) (a3:Int) (l:List Source):cD [sl eExt a0,I a1,S a2,I a3] (rws eSource l)=rws eSource ((⟨a0,a1,a2,a3⟩:Source)::l):=rfl
theorem a6P (x:Source):Source.mk x.Script x.At x.State x.Count=x:=rfl
attribute [go_sem] XB a2b a6P
theorem Vu (a1:Int) (a2:(List UInt8)) (a3:Int) (l:List Source):cD [.imm 1 [],I a1,S a2,I a3] (rws eSource l)=rws eSource ((⟨[],a1,a2,a3⟩:Source)::l):=rfl
attribute [go_sem] Vu
def ig:En gg:=⟨2,fun x=>[sl eExt x.word,sl (eL eS) x.rows]⟩
def b5v (x:gg):Prop:=bdL bdExt x.word∧bdL (bdL bdS) x.rows
theorem OT:ig.esz=2:=by decide
theorem Px (x:gg):ig.enc x=[sl eExt x.word,sl (eL eS) x.rows]:=rfl
theorem Sh (a0:(List Ext)) (a1:(List (List (List UInt8)))) (l:List gg):cD [sl eExt a0,sl (eL eS) a1] (rws ig l)=rws ig ((⟨a0,a1⟩:gg)::l):=rfl
theorem Vd (x:gg):gg.mk x.word x.rows=x:=rfl
attribute [go_sem] OT Px Sh Vd
theorem M1 (a1:(List (List (List UInt8)))) (l:List gg):cD [.imm 1 [],sl (eL eS) a1] (rws ig l)=rws ig ((⟨[],a1⟩:gg)::l):=rfl
attribute [go_sem] M1
theorem MC (a0:(List Ext)) (l:List gg):cD [sl eExt a0,.imm 1 []] (rws ig l)=rws ig ((⟨a0,[]⟩:gg)::l):=rfl
attribute [go_sem] MC
theorem M3 (l:List gg):cD [.imm 1 [],.imm 1 []] (rws ig l)=rws ig ((⟨[],[]⟩:gg)::l):=rfl
attribute [go_sem] M3
def aE:En aj:=⟨2,fun x=>[sl eExt x.Pairs,sl (eL eS) x.Paths]⟩
def b4x (x:aj):Prop:=bdL bdExt x.Pairs∧bdL (bdL bdS) x.Paths
theorem a1L:aE.esz=2:=by decide
theorem a0s (x:aj):aE.enc x=[sl eExt x.Pairs,sl (eL eS) x.Paths]:=rfl
theorem a5G (a0:(List Ext)) (a1:(List (List (List UInt8)))) (l:List aj):cD [sl eExt a0,sl (eL eS) a1] (rws aE l)=rws aE ((⟨a0,a1⟩:aj)::l):=rfl
theorem a8S (a0:(List Ext)) (a1:(List (List (List UInt8)))) (l:List aj) (i:Nat):wS (rws aE l) i [sl eExt a0,sl (eL eS) a1]=rws aE (l.set i (⟨a0,a1⟩:aj)):=by simp [wS,rws,aE]
theorem a7Y (x:aj):aj.mk x.Pairs x.Paths=x:=rfl
attribute [go_sem] a1L a0s a5G a8S a7Y
theorem Yu (a1:(List (List (List UInt8)))) (l:List aj):cD [.imm 1 [],sl (eL eS) a1] (rws aE l)=rws aE ((⟨[],a1⟩:aj)::l):=rfl
attribute [go_sem] Yu
theorem a01 (a0:(List Ext)) (l:List aj):cD [sl eExt a0,.imm 1 []] (rws aE l)=rws aE ((⟨a0,[]⟩:aj)::l):=rfl
attribute [go_sem] a01
theorem Xu (l:List aj):cD [.imm 1 [],.imm 1 []] (rws aE l)=rws aE ((⟨[],[]⟩:aj)::l):=rfl
attribute [go_sem] Xu
def eV:En au:=⟨6,fun x=>[sl (eL eExt) x.Rounds,sl eS x.Roots,I x.Last.A,I x.Last.B,I x.Nonce,sl aE x.Queries]⟩
def a4w (x:au):Prop:=bdL (bdL bdExt) x.Rounds∧bdL bdS x.Roots∧bdExt x.Last∧bdI x.Nonce∧bdL b4x x.Queries
theorem Ug (x:au):eV.enc x=[sl (eL eExt) x.Rounds,sl eS x.Roots,I x.Last.A,I x.Last.B,I x.Nonce,sl aE x.Queries]:=rfl
theorem a0m (a0:(List (List Ext))) (a1:(List (List UInt8))) (a2 a3 a4:Int) (a5:(List aj)) (l:List au):cD [sl (eL eExt) a0,sl eS a1,I a2,I a3,I a4,sl aE a5] (rws eV l)=rws eV ((⟨a0,a1,⟨a2,a3⟩,a4,a5⟩:au)::l):=rfl
theorem a1F (x:au):au.mk x.Rounds x.Roots x.Last x.Nonce x.Queries=x:=rfl
attribute [go_sem] Ug a0m a1F
theorem Rx (a1:(List (List UInt8))) (a2 a3 a4:Int) (a5:(List aj)) (l:List au):cD [.imm 1 [],sl eS a1,I a2,I a3,I a4,sl aE a5] (rws eV l)=rws eV ((⟨[],a1,⟨a2,a3⟩,a4,a5⟩:au)::l):=rfl
attribute [go_sem] Rx
theorem S5 (a0:(List (List Ext))) (a2 a3 a4:Int) (a5:(List aj)) (l:List au):cD [sl (eL eExt) a0,.imm 1 [],I a2,I a3,I a4,sl aE a5] (rws eV l)=rws eV ((⟨a0,[],⟨a2,a3⟩,a4,a5⟩:au)::l):=rfl
attribute [go_sem] S5
theorem Ro (a2 a3 a4:Int) (a5:(List aj)) (l:List au):cD [.imm 1 [],.imm 1 [],I a2,I a3,I a4,sl aE a5] (rws eV l)=rws eV ((⟨[],[],⟨a2,a3⟩,a4,a5⟩:au)::l):=rfl
attribute [go_sem] Ro
theorem RM (a0:(List (List Ext))) (a1:(List (List UInt8))) (a2 a3 a4:Int) (l:List au):cD [sl (eL eExt) a0,sl eS a1,I a2,I a3,I a4,.imm 1 []] (rws eV l)=rws eV ((⟨a0,a1,⟨a2,a3⟩,a4,[]⟩:au)::l):=rfl
attribute [go_sem] RM
theorem RF (a1:(List (List UInt8))) (a2 a3 a4:Int) (l:List au):cD [.imm 1 [],sl eS a1,I a2,I a3,I a4,.imm 1 []] (rws eV l)=rws eV ((⟨[],a1,⟨a2,a3⟩,a4,[]⟩:au)::l):=rfl
attribute [go_sem] RF
theorem Rg (a0:(List (List Ext))) (a2 a3 a4:Int) (l:List au):cD [sl (eL eExt) a0,.imm 1 [],I a2,I a3,I a4,.imm 1 []] (rws eV l)=rws eV ((⟨a0,[],⟨a2,a3⟩,a4,[]⟩:au)::l):=rfl
attribute [go_sem] Rg
theorem RW (a2 a3 a4:Int) (l:List au):cD [.imm 1 [],.imm 1 [],I a2,I a3,I a4,.imm 1 []] (rws eV l)=rws eV ((⟨[],[],⟨a2,a3⟩,a4,[]⟩:au)::l):=rfl
attribute [go_sem] RW
def eEntry:En Entry:=⟨3,fun x=>[I x.Row,I x.Col,I x.Value]⟩
def bdEntry (x:Entry):Prop:=bdI x.Row∧bdI x.Col∧bdI x.Value
theorem a1B:eEntry.esz=3:=by decide
theorem a2q (x:Entry):eEntry.enc x=[I x.Row,I x.Col,I x.Value]:=rfl
theorem a53 (a0 a1 a2:Int) (l:List Entry):cD [I a0,I a1,I a2] (rws eEntry l)=rws eEntry ((⟨a0,a1,a2⟩:Entry)::l):=rfl
theorem a8J (a0 a1 a2:Int) (l:List Entry) (i:Nat):wS (rws eEntry l) i [I a0,I a1,I a2]=rws eEntry (l.set i (⟨a0,a1,a2⟩:Entry)):=by simp [wS,rws,eEntry]
theorem b0x (x:Entry):Entry.mk x.Row x.Col x.Value=x:=rfl
attribute [go_sem] a1B a2q a53 a8J b0x
def eSystem:En System:=⟨6,fun x=>[I x.Rows,I x.Cols,I x.Publics,sl eEntry x.A,sl eEntry x.B,sl eEntry x.C]⟩
def bdSystem (x:System):Prop:=bdI x.Rows∧bdI x.Cols∧bdI x.Publics∧bdL bdEntry x.A∧bdL bdEntry x.B∧bdL bdEntry x.C
theorem a04 (x:System):eSystem.enc x=[I x.Rows,I x.Cols,I x.Publics,sl eEntry x.A,sl eEntry x.B,sl eEntry x.C]:=rfl
theorem a1a (a0 a1 a2:Int) (a3 a4 a5:(List Entry)) (l:List System):cD [I a0,I a1,I a2,sl eEntry a3,sl eEntry a4,sl eEntry a5] (rws eSystem l)=rws eSystem ((⟨a0,a1,a2,a3,a4,a5⟩:System)::l):=rfl
theorem a4d (x:System):System.mk x.Rows x.Cols x.Publics x.A x.B x.C=x:=rfl
attribute [go_sem] a04 a1a a4d
theorem Xo (a0 a1 a2:Int) (a4 a5:(List Entry)) (l:List System):cD [I a0,I a1,I a2,.imm 1 [],sl eEntry a4,sl eEntry a5] (rws eSystem l)=rws eSystem ((⟨a0,a1,a2,[],a4,a5⟩:System)::l):=rfl
attribute [go_sem] Xo
theorem Vn (a0 a1 a2:Int) (a3 a5:(List Entry)) (l:List System):cD [I a0,I a1,I a2,sl eEntry a3,.imm 1 [],sl eEntry a5] (rws eSystem l)=rws eSystem ((⟨a0,a1,a2,a3,[],a5⟩:System)::l):=rfl
attribute [go_sem] Vn
theorem Xq (a0 a1 a2:Int) (a5:(List Entry)) (l:List System):cD [I a0,I a1,I a2,.imm 1 [],.imm 1 [],sl eEntry a5] (rws eSystem l)=rws eSystem ((⟨a0,a1,a2,[],[],a5⟩:System)::l):=rfl
attribute [go_sem] Xq
theorem WF (a0 a1 a2:Int) (a3 a4:(List Entry)) (l:List System):cD [I a0,I a1,I a2,sl eEntry a3,sl eEntry a4,.imm 1 []] (rws eSystem l)=rws eSystem ((⟨a0,a1,a2,a3,a4,[]⟩:System)::l):=rfl
attribute [go_sem] WF
theorem WP (a0 a1 a2:Int) (a4:(List Entry)) (l:List System):cD [I a0,I a1,I a2,.imm 1 [],sl eEntry a4,.imm 1 []] (rws eSystem l)=rws eSystem ((⟨a0,a1,a2,[],a4,[]⟩:System)::l):=rfl
attribute [go_sem] WP
theorem W1 (a0 a1 a2:Int) (a3:(List Entry)) (l:List System):cD [I a0,I a1,I a2,sl eEntry a3,.imm 1 [],.imm 1 []] (rws eSystem l)=rws eSystem ((⟨a0,a1,a2,a3,[],[]⟩:System)::l):=rfl
attribute [go_sem] W1
theorem W7 (a0 a1 a2:Int) (l:List System):cD [I a0,I a1,I a2,.imm 1 [],.imm 1 [],.imm 1 []] (rws eSystem l)=rws eSystem ((⟨a0,a1,a2,[],[],[]⟩:System)::l):=rfl
attribute [go_sem] W7
def a1q:En gn:=⟨17,fun x=>[S x.Root,sl (eL eExt) x.Gates,I x.VA.A,I x.VA.B,I x.VB.A,I x.VB.B,I x.VC.A,I x.VC.B,sl (eL eExt) x.Wires,I x.VW.A,I x.VW.B,sl (eL eExt) x.Open.Rounds,sl eS x.Open.Roots,I x.Open.Last.A,I x.Open.Last.B,I x.Open.Nonce,sl aE x.Open.Queries]⟩
def c0u (x:gn):Prop:=bdS x.Root∧bdL (bdL bdExt) x.Gates∧bdExt x.VA∧bdExt x.VB∧bdExt x.VC∧bdL (bdL bdExt) x.Wires∧bdExt x.VW∧a4w x.Open
theorem a2I (x:gn):a1q.enc x=[S x.Root,sl (eL eExt) x.Gates,I x.VA.A,I x.VA.B,I x.VB.A,I x.VB.B,I x.VC.A,I x.VC.B,sl (eL eExt) x.Wires,I x.VW.A,I x.VW.B,sl (eL eExt) x.Open.Rounds,sl eS x.Open.Roots,I x.Open.Last.A,I x.Open.Last.B,I x.Open.Nonce,sl aE x.Open.Queries]:=rfl
theorem a4Z (a0:(List UInt8)) (a1:(List (List Ext))) (a2 a3 a4 a5 a6 a7:Int) (a8:(List (List Ext))) (a9 a10:Int) (a11:(List (List Ext))) (a12:(List (List UInt8))) (a13 a14 a15:Int) (a16:(List aj)) (l:List gn):cD [S a0,sl (eL eExt) a1,I a2,I a3,I a4,I a5,I a6,I a7,sl (eL eExt) a8,I a9,I a10,sl (eL eExt) a11,sl eS a12,I a13,I a14,I a15,sl aE a16] (rws a1q l)=rws a1q ((⟨a0,a1,⟨a2,a3⟩,⟨a4,a5⟩,⟨a6,a7⟩,a8,⟨a9,a10⟩,⟨a11,a12,⟨a13,a14⟩,a15,a16⟩⟩:gn)::l):=rfl
theorem a8X (x:gn):gn.mk x.Root x.Gates x.VA x.VB x.VC x.Wires x.VW x.Open=x:=rfl
attribute [go_sem] a2I a4Z a8X
def WT:En dd:=⟨2,fun x=>[S x.t,B x.ok]⟩
def b9g (x:dd):Prop:=bdS x.t∧bdT (α:=Bool) x.ok
theorem XX (x:dd):WT.enc x=[S x.t,B x.ok]:=rfl
theorem a1t (a0:(List UInt8)) (a1:Bool) (l:List dd):cD [S a0,B a1] (rws WT l)=rws WT ((⟨a0,a1⟩:dd)::l):=rfl
theorem a5R (x:dd):dd.mk x.t x.ok=x:=rfl
attribute [go_sem] XX a1t a5R
def rA:En aR:=⟨1,fun x=>[sl eU8 x.b]⟩
def b39 (x:aR):Prop:=bdL (bdT (α:=UInt8)) x.b
theorem ME (x:aR):rA.enc x=[sl eU8 x.b]:=rfl
theorem Nh (a0:(List UInt8)) (l:List aR):cD [sl eU8 a0] (rws rA l)=rws rA ((⟨a0⟩:aR)::l):=rfl
theorem Rt (x:aR):aR.mk x.b=x:=rfl
attribute [go_sem] ME Nh Rt
theorem Kp (l:List aR):cD [.imm 1 []] (rws rA l)=rws rA ((⟨[]⟩:aR)::l):=rfl
attribute [go_sem] Kp
def HF:En QI:=⟨4,fun x=>[I x.Op,I x.A,I x.B,I x.K]⟩
def b7Z (x:QI):Prop:=bdI x.Op∧bdI x.A∧bdI x.B∧bdI x.K
theorem a5j (x:QI):HF.enc x=[I x.Op,I x.A,I x.B,I x.K]:=rfl
theorem a8a (a0 a1 a2 a3:Int) (l:List QI):cD [I a0,I a1,I a2,I a3] (rws HF l)=rws HF ((⟨a0,a1,a2,a3⟩:QI)::l):=rfl
theorem b32 (x:QI):QI.mk x.Op x.A x.B x.K=x:=rfl
attribute [go_sem] a5j a8a b32
def Cf:En Circuit:=⟨1,fun x=>[sl HF x.Gates]⟩
def a4h (x:Circuit):Prop:=bdL b7Z x.Gates
theorem VF (x:Circuit):Cf.enc x=[sl HF x.Gates]:=rfl
theorem Z0 (a0:(List QI)) (l:List Circuit):cD [sl HF a0] (rws Cf l)=rws Cf ((⟨a0⟩:Circuit)::l):=rfl
theorem a1r (x:Circuit):Circuit.mk x.Gates=x:=rfl
attribute [go_sem] VF Z0 a1r
theorem QW (l:List Circuit):cD [.imm 1 []] (rws Cf l)=rws Cf ((⟨[]⟩:Circuit)::l):=rfl
attribute [go_sem] QW
def Vw:En GQ:=⟨10,fun x=>[sl HF x.Circuit.Gates,sl eI x.Publics,sl eI x.Inputs,I x.Setting.Rate,I x.Setting.Queries,I x.Setting.Grind,sl eExt x.Source.Script,I x.Source.At,S x.Source.State,I x.Source.Count]⟩
def b9N (x:GQ):Prop:=a4h x.Circuit∧bdL bdI x.Publics∧bdL bdI x.Inputs∧bdSetting x.Setting∧bdSource x.Source
theorem XF (x:GQ):Vw.enc x=[sl HF x.Circuit.Gates,sl eI x.Publics,sl eI x.Inputs,I x.Setting.Rate,I x.Setting.Queries,I x.Setting.Grind,sl eExt x.Source.Script,I x.Source.At,S x.Source.State,I x.Source.Count]:=rfl
theorem a1f (a0:(List QI)) (a1 a2:(List Int)) (a3 a4 a5:Int) (a6:(List Ext)) (a7:Int) (a8:(List UInt8)) (a9:Int) (l:List GQ):cD [sl HF a0,sl eI a1,sl eI a2,I a3,I a4,I a5,sl eExt a6,I a7,S a8,I a9] (rws Vw l)=rws Vw ((⟨⟨a0⟩,a1,a2,⟨a3,a4,a5⟩,⟨a6,a7,a8,a9⟩⟩:GQ)::l):=rfl
theorem a5r (x:GQ):GQ.mk x.Circuit x.Publics x.Inputs x.Setting x.Source=x:=rfl
attribute [go_sem] XF a1f a5r
end Go.AI.Fn
