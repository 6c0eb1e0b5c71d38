/- Structs. -/
import Derived.Test.YtdmhkkcihecndaaTb1
import Derived.Test.YtdmhkkcihecndaaAiTop3
import Derived.Test.YtdmhkkcihecndaaAiAdd
namespace Go.AI.Fn
structure Ext where
 A:Int
 B:Int
structure jp where
 code:(List UInt8)
 at_:Int
 seed:Int
structure Setting where
 Rate:Int
 Queries:Int
 Grind:Int
structure eG where
 Pairs:(List Ext)
 Paths:(List (List (List UInt8)))
structure aV where
 Rounds:(List (List Ext))
 Roots:(List (List UInt8))
 Last:Ext
 Nonce:Int
 Queries:(List eG)
structure lP where
 t:(List UInt8)
 ok:Bool
structure cV where
 b:(List UInt8)
structure Entry where
 Row:Int
 Col:Int
 Value:Int
structure System where
 Rows:Int
 Cols:Int
 Publics:Int
 A:(List Entry)
 B:(List Entry)
 C:(List Entry)
structure Source where
 Script:(List Ext)
 At:Int
 State:(List UInt8)
 Count:Int
def eExt:En Ext:=⟨2,fun x=>[I x.A,I x.B]⟩
def bdExt (x:Ext):Prop:=bdI x.A∧bdI x.B
theorem LP:eExt.esz=2:=by decide
theorem KP (x:Ext):eExt.enc x=[I x.A,I x.B]:=rfl
theorem O2 (a0 a1:Int) (l:List Ext):bA [I a0,I a1] (rws eExt l)=rws eExt ((⟨a0,a1⟩:Ext)::l):=rfl
theorem SD (a0 a1:Int) (l:List Ext) (i:Nat):dS (rws eExt l) i [I a0,I a1]=rws eExt (l.set i (⟨a0,a1⟩:Ext)):=by simp [dS,rws,eExt]
theorem RS (x:Ext):Ext.mk x.A x.B=x:=rfl
attribute [go_sem] LP KP O2 SD RS
theorem O6 (m:Nat) (l:List Ext):eK true ⟨m,false,rws eExt l⟩=true:=sA (fun _=>rfl) m l
attribute [go_sem] O6
def jY:En jp:=⟨3,fun x=>[sl eU8 x.code,I x.at_,I x.seed]⟩
def UB (x:jp):Prop:=bdL (bdT (α:=UInt8)) x.code∧bdI x.at_∧bdI x.seed
theorem Di:jY.esz=3:=by decide
theorem CF (x:jp):jY.enc x=[sl eU8 x.code,I x.at_,I x.seed]:=rfl
theorem Ft (a0:(List UInt8)) (a1 a2:Int) (l:List jp):bA [sl eU8 a0,I a1,I a2] (rws jY l)=rws jY ((⟨a0,a1,a2⟩:jp)::l):=rfl
theorem HQ (a0:(List UInt8)) (a1 a2:Int) (l:List jp) (i:Nat):dS (rws jY l) i [sl eU8 a0,I a1,I a2]=rws jY (l.set i (⟨a0,a1,a2⟩:jp)):=by simp [dS,rws,jY]
theorem Ht (x:jp):jp.mk x.code x.at_ x.seed=x:=rfl
attribute [go_sem] Di CF Ft HQ Ht
theorem Av (a1 a2:Int) (l:List jp):bA [.imm 1 [],I a1,I a2] (rws jY l)=rws jY ((⟨[],a1,a2⟩:jp)::l):=rfl
attribute [go_sem] Av
def eSetting:En Setting:=⟨3,fun x=>[I x.Rate,I x.Queries,I x.Grind]⟩
def bdSetting (x:Setting):Prop:=bdI x.Rate∧bdI x.Queries∧bdI x.Grind
theorem Ap:eSetting.esz=3:=by decide
theorem Aa (x:Setting):eSetting.enc x=[I x.Rate,I x.Queries,I x.Grind]:=rfl
theorem BL (a0 a1 a2:Int) (l:List Setting):bA [I a0,I a1,I a2] (rws eSetting l)=rws eSetting ((⟨a0,a1,a2⟩:Setting)::l):=rfl
theorem DY (a0 a1 a2:Int) (l:List Setting) (i:Nat):dS (rws eSetting l) i [I a0,I a1,I a2]=rws eSetting (l.set i (⟨a0,a1,a2⟩:Setting)):=by simp [dS,rws,eSetting]
theorem E5 (x:Setting):Setting.mk x.Rate x.Queries x.Grind=x:=rfl
attribute [go_sem] Ap Aa BL DY E5
theorem DD (m:Nat) (l:List Setting):eK true ⟨m,false,rws eSetting l⟩=true:=sA (fun _=>rfl) m l
attribute [go_sem] DD
def dN:En eG:=⟨2,fun x=>[sl eExt x.Pairs,sl (eL eS) x.Paths]⟩
def OO (x:eG):Prop:=bdL bdExt x.Pairs∧bdL (bdL bdS) x.Paths
theorem Fl:dN.esz=2:=by decide
theorem Fk (x:eG):dN.enc x=[sl eExt x.Pairs,sl (eL eS) x.Paths]:=rfl
theorem Hi (a0:(List Ext)) (a1:(List (List (List UInt8)))) (l:List eG):bA [sl eExt a0,sl (eL eS) a1] (rws dN l)=rws dN ((⟨a0,a1⟩:eG)::l):=rfl
theorem MR (a0:(List Ext)) (a1:(List (List (List UInt8)))) (l:List eG) (i:Nat):dS (rws dN l) i [sl eExt a0,sl (eL eS) a1]=rws dN (l.set i (⟨a0,a1⟩:eG)):=by simp [dS,rws,dN]
theorem KQ (x:eG):eG.mk x.Pairs x.Paths=x:=rfl
attribute [go_sem] Fl Fk Hi MR KQ
theorem CB (a1:(List (List (List UInt8)))) (l:List eG):bA [.imm 1 [],sl (eL eS) a1] (rws dN l)=rws dN ((⟨[],a1⟩:eG)::l):=rfl
attribute [go_sem] CB
theorem DL (a0:(List Ext)) (l:List eG):bA [sl eExt a0,.imm 1 []] (rws dN l)=rws dN ((⟨a0,[]⟩:eG)::l):=rfl
attribute [go_sem] DL
theorem Ds (l:List eG):bA [.imm 1 [],.imm 1 []] (rws dN l)=rws dN ((⟨[],[]⟩:eG)::l):=rfl
attribute [go_sem] Ds
def bJ:En aV:=⟨6,fun x=>[sl (eL eExt) x.Rounds,sl eS x.Roots,I x.Last.A,I x.Last.B,I x.Nonce,sl dN x.Queries]⟩
def Uk (x:aV):Prop:=bdL (bdL bdExt) x.Rounds∧bdL bdS x.Roots∧bdExt x.Last∧bdI x.Nonce∧bdL OO x.Queries
theorem AE:bJ.esz=6:=by decide
theorem Ae (x:aV):bJ.enc x=[sl (eL eExt) x.Rounds,sl eS x.Roots,I x.Last.A,I x.Last.B,I x.Nonce,sl dN x.Queries]:=rfl
theorem DA (a0:(List (List Ext))) (a1:(List (List UInt8))) (a2 a3 a4:Int) (a5:(List eG)) (l:List aV):bA [sl (eL eExt) a0,sl eS a1,I a2,I a3,I a4,sl dN a5] (rws bJ l)=rws bJ ((⟨a0,a1,⟨a2,a3⟩,a4,a5⟩:aV)::l):=rfl
theorem E7 (a0:(List (List Ext))) (a1:(List (List UInt8))) (a2 a3 a4:Int) (a5:(List eG)) (l:List aV) (i:Nat):dS (rws bJ l) i [sl (eL eExt) a0,sl eS a1,I a2,I a3,I a4,sl dN a5]=rws bJ (l.set i (⟨a0,a1,⟨a2,a3⟩,a4,a5⟩:aV)):=by simp [dS,rws,bJ]
theorem FG (x:aV):aV.mk x.Rounds x.Roots x.Last x.Nonce x.Queries=x:=rfl
attribute [go_sem] AE Ae DA E7 FG
theorem xY (a1:(List (List UInt8))) (a2 a3 a4:Int) (a5:(List eG)) (l:List aV):bA [.imm 1 [],sl eS a1,I a2,I a3,I a4,sl dN a5] (rws bJ l)=rws bJ ((⟨[],a1,⟨a2,a3⟩,a4,a5⟩:aV)::l):=rfl
attribute [go_sem] xY
theorem yj (a0:(List (List Ext))) (a2 a3 a4:Int) (a5:(List eG)) (l:List aV):bA [sl (eL eExt) a0,.imm 1 [],I a2,I a3,I a4,sl dN a5] (rws bJ l)=rws bJ ((⟨a0,[],⟨a2,a3⟩,a4,a5⟩:aV)::l):=rfl
attribute [go_sem] yj
theorem xZ (a2 a3 a4:Int) (a5:(List eG)) (l:List aV):bA [.imm 1 [],.imm 1 [],I a2,I a3,I a4,sl dN a5] (rws bJ l)=rws bJ ((⟨[],[],⟨a2,a3⟩,a4,a5⟩:aV)::l):=rfl
attribute [go_sem] xZ
theorem yT (a0:(List (List Ext))) (a1:(List (List UInt8))) (a2 a3 a4:Int) (l:List aV):bA [sl (eL eExt) a0,sl eS a1,I a2,I a3,I a4,.imm 1 []] (rws bJ l)=rws bJ ((⟨a0,a1,⟨a2,a3⟩,a4,[]⟩:aV)::l):=rfl
attribute [go_sem] yT
theorem yZ (a1:(List (List UInt8))) (a2 a3 a4:Int) (l:List aV):bA [.imm 1 [],sl eS a1,I a2,I a3,I a4,.imm 1 []] (rws bJ l)=rws bJ ((⟨[],a1,⟨a2,a3⟩,a4,[]⟩:aV)::l):=rfl
attribute [go_sem] yZ
theorem z7 (a0:(List (List Ext))) (a2 a3 a4:Int) (l:List aV):bA [sl (eL eExt) a0,.imm 1 [],I a2,I a3,I a4,.imm 1 []] (rws bJ l)=rws bJ ((⟨a0,[],⟨a2,a3⟩,a4,[]⟩:aV)::l):=rfl
attribute [go_sem] z7
theorem yh (a2 a3 a4:Int) (l:List aV):bA [.imm 1 [],.imm 1 [],I a2,I a3,I a4,.imm 1 []] (rws bJ l)=rws bJ ((⟨[],[],⟨a2,a3⟩,a4,[]⟩:aV)::l):=rfl
attribute [go_sem] yh
def ll:En lP:=⟨2,fun x=>[S x.t,B x.ok]⟩
def Um (x:lP):Prop:=bdS x.t∧bdT (α:=Bool) x.ok
theorem Co:ll.esz=2:=by decide
theorem BM (x:lP):ll.enc x=[S x.t,B x.ok]:=rfl
theorem Ei (a0:(List UInt8)) (a1:Bool) (l:List lP):bA [S a0,B a1] (rws ll l)=rws ll ((⟨a0,a1⟩:lP)::l):=rfl
theorem Iz (a0:(List UInt8)) (a1:Bool) (l:List lP) (i:Nat):dS (rws ll l) i [S a0,B a1]=rws ll (l.set i (⟨a0,a1⟩:lP)):=by simp [dS,rws,ll]
theorem H7 (x:lP):lP.mk x.t x.ok=x:=rfl
attribute [go_sem] Co BM Ei Iz H7
theorem Ee (m:Nat) (l:List lP):eK true ⟨m,false,rws ll l⟩=true:=sA (fun _=>rfl) m l
attribute [go_sem] Ee
def dw:En cV:=⟨1,fun x=>[sl eU8 x.b]⟩
def Qy (x:cV):Prop:=bdL (bdT (α:=UInt8)) x.b
theorem vd:dw.esz=1:=by decide
theorem vm (x:cV):dw.enc x=[sl eU8 x.b]:=rfl
theorem xt (a0:(List UInt8)) (l:List cV):bA [sl eU8 a0] (rws dw l)=rws dw ((⟨a0⟩:cV)::l):=rfl
theorem yg (a0:(List UInt8)) (l:List cV) (i:Nat):dS (rws dw l) i [sl eU8 a0]=rws dw (l.set i (⟨a0⟩:cV)):=by simp [dS,rws,dw]
theorem ym (x:cV):cV.mk x.b=x:=rfl
attribute [go_sem] vd vm xt yg ym
theorem tZ (l:List cV):bA [.imm 1 []] (rws dw l)=rws dw ((⟨[]⟩:cV)::l):=rfl
attribute [go_sem] tZ
def eEntry:En Entry:=⟨3,fun x=>[I x.Row,I x.Col,I x.Value]⟩
def bdEntry (x:Entry):Prop:=bdI x.Row∧bdI x.Col∧bdI x.Value
theorem DX:eEntry.esz=3:=by decide
theorem Fb (x:Entry):eEntry.enc x=[I x.Row,I x.Col,I x.Value]:=rfl
theorem Hf (a0 a1 a2:Int) (l:List Entry):bA [I a0,I a1,I a2] (rws eEntry l)=rws eEntry ((⟨a0,a1,a2⟩:Entry)::l):=rfl
theorem M9 (a0 a1 a2:Int) (l:List Entry) (i:Nat):dS (rws eEntry l) i [I a0,I a1,I a2]=rws eEntry (l.set i (⟨a0,a1,a2⟩:Entry)):=by simp [dS,rws,eEntry]
theorem Nb (x:Entry):Entry.mk x.Row x.Col x.Value=x:=rfl
attribute [go_sem] DX Fb Hf M9 Nb
theorem HO (m:Nat) (l:List Entry):eK true ⟨m,false,rws eEntry l⟩=true:=sA (fun _=>rfl) m l
attribute [go_sem] HO
def eSystem:En System:=⟨6,fun x=>[I x.Rows,I x.Cols,I x.Publics,sl eEntry x.A,sl eEntry x.B,sl eEntry x.C]⟩
def bdSystem (x:System):Prop:=bdI x.Rows∧bdI x.Cols∧bdI x.Publics∧bdL bdEntry x.A∧bdL bdEntry x.B∧bdL bdEntry x.C
theorem Dp:eSystem.esz=6:=by decide
theorem Dh (x:System):eSystem.enc x=[I x.Rows,I x.Cols,I x.Publics,sl eEntry x.A,sl eEntry x.B,sl eEntry x.C]:=rfl
theorem Eg (a0 a1 a2:Int) (a3 a4 a5:(List Entry)) (l:List System):bA [I a0,I a1,I a2,sl eEntry a3,sl eEntry a4,sl eEntry a5] (rws eSystem l)=rws eSystem ((⟨a0,a1,a2,a3,a4,a5⟩:System)::l):=rfl
theorem J7 (a0 a1 a2:Int) (a3 a4 a5:(List Entry)) (l:List System) (i:Nat):dS (rws eSystem l) i [I a0,I a1,I a2,sl eEntry a3,sl eEntry a4,sl eEntry a5]=rws eSystem (l.set i (⟨a0,a1,a2,a3,a4,a5⟩:System)):=by simp [dS,rws,eSystem]
theorem Hd (x:System):System.mk x.Rows x.Cols x.Publics x.A x.B x.C=x:=rfl
attribute [go_sem] Dp Dh Eg J7 Hd
theorem By (a0 a1 a2:Int) (a4 a5:(List Entry)) (l:List System):bA [I a0,I a1,I a2,.imm 1 [],sl eEntry a4,sl eEntry a5] (rws eSystem l)=rws eSystem ((⟨a0,a1,a2,[],a4,a5⟩:System)::l):=rfl
attribute [go_sem] By
theorem Bj (a0 a1 a2:Int) (a3 a5:(List Entry)) (l:List System):bA [I a0,I a1,I a2,sl eEntry a3,.imm 1 [],sl eEntry a5] (rws eSystem l)=rws eSystem ((⟨a0,a1,a2,a3,[],a5⟩:System)::l):=rfl
attribute [go_sem] Bj
theorem AP (a0 a1 a2:Int) (a5:(List Entry)) (l:List System):bA [I a0,I a1,I a2,.imm 1 [],.imm 1 [],sl eEntry a5] (rws eSystem l)=rws eSystem ((⟨a0,a1,a2,[],[],a5⟩:System)::l):=rfl
attribute [go_sem] AP
theorem Bn (a0 a1 a2:Int) (a3 a4:(List Entry)) (l:List System):bA [I a0,I a1,I a2,sl eEntry a3,sl eEntry a4,.imm 1 []] (rws eSystem l)=rws eSystem ((⟨a0,a1,a2,a3,a4,[]⟩:System)::l):=rfl
attribute [go_sem] Bn
theorem BA (a0 a1 a2:Int) (a4:(List Entry)) (l:List System):bA [I a0,I a1,I a2,.imm 1 [],sl eEntry a4,.imm 1 []] (rws eSystem l)=rws eSystem ((⟨a0,a1,a2,[],a4,[]⟩:System)::l):=rfl
attribute [go_sem] BA
theorem zM (a0 a1 a2:Int) (a3:(List Entry)) (l:List System):bA [I a0,I a1,I a2,sl eEntry a3,.imm 1 [],.imm 1 []] (rws eSystem l)=rws eSystem ((⟨a0,a1,a2,a3,[],[]⟩:System)::l):=rfl
attribute [go_sem] zM
theorem Bl (a0 a1 a2:Int) (l:List System):bA [I a0,I a1,I a2,.imm 1 [],.imm 1 [],.imm 1 []] (rws eSystem l)=rws eSystem ((⟨a0,a1,a2,[],[],[]⟩:System)::l):=rfl
attribute [go_sem] Bl
def eSource:En Source:=⟨4,fun x=>[sl eExt x.Script,I x.At,S x.State,I x.Count]⟩
def bdSource (x:Source):Prop:=bdL bdExt x.Script∧bdI x.At∧bdS x.State∧bdI x.Count
theorem BI:eSource.esz=4:=by decide
theorem Cl (x:Source):eSource.enc x=[sl eExt x.Script,I x.At,S x.State,I x.Count]:=rfl
theorem DZ (a0:(List Ext)) (a1:Int) (a2:(List UInt8)) (a3:Int) (l:List Source):bA [sl eExt a0,I a1,S a2,I a3] (rws eSource l)=rws eSource ((⟨a0,a1,a2,a3⟩:Source)::l):=rfl
theorem HC (a0:(List Ext)) (a1:Int) (a2:(List UInt8)) (a3:Int) (l:List Source) (i:Nat):dS (rws eSource l) i [sl eExt a0,I a1,S a2,I a3]=rws eSource (l.set i (⟨a0,a1,a2,a3⟩:Source)):=by simp [dS,rws,eSource]
theorem Hv (x:Source):Source.mk x.Script x.At x.State x.Count=x:=rfl
attribute [go_sem] BI Cl DZ HC Hv
theorem AW (a1:Int) (a2:(List UInt8)) (a3:Int) (l:List Source):bA [.imm 1 [],I a1,S a2,I a3] (rws eSource l)=rws eSource ((⟨[],a1,a2,a3⟩:Source)::l):=rfl
attribute [go_sem] AW
end Go.AI.Fn
