/- Structs. -/
import Derived.Test.YtgjlndaebhaciaaTb1
import Derived.Test.YtgjlndaebhaciaaAiTop3
import Derived.Test.YtgjlndaebhaciaaAiAdd
import Derived.Test.YtgjlndaebhaciaaAiEntX
namespace Go.AI.Fn
structure aa where
 Op:Int
 A:Int
 B:Int
 K:Int
structure Circuit where
 Gates:(List aa)
structure ag where
 Row:Int
 Col:Int
 Value:Int
structure aS where
 Rows:Int
 Cols:Int
 Publics:Int
 A:(List ag)
 B:(List ag)
 C:(List ag)
structure aV where
 code:(List UInt8)
 at_:Int
 seed:Int
structure Handed where
 Publics:(List Int)
 Inputs:(List Int)
structure Setting where
 Rate:Int
 Queries:Int
 Grind:Int
structure Ext where
 A:Int
 B:Int
structure Source where
 Script:(List Ext)
 At:Int
 State:(List UInt8)
 Count:Int
structure oJ where
 Circuit:Circuit
 Publics:(List Int)
 Inputs:(List Int)
 Setting:Setting
 Source:Source
def aO:En aa:=⟨4,fun x=>[I x.Op,I x.A,I x.B,I x.K]⟩
def TG (x:aa):Prop:=bdI x.Op∧bdI x.A∧bdI x.B∧bdI x.K
theorem IU:aO.esz=4:=by decide
theorem JT (x:aa):aO.enc x=[I x.Op,I x.A,I x.B,I x.K]:=rfl
theorem Ny (a0 a1 a2 a3:Int) (l:List aa):co [I a0,I a1,I a2,I a3] (rws aO l)=rws aO ((⟨a0,a1,a2,a3⟩:aa)::l):=rfl
theorem Rc (a0 a1 a2 a3:Int) (l:List aa) (i:Nat):dS (rws aO l) i [I a0,I a1,I a2,I a3]=rws aO (l.set i (⟨a0,a1,a2,a3⟩:aa)):=by simp [dS,rws,aO]
theorem PB (x:aa):aa.mk x.Op x.A x.B x.K=x:=rfl
attribute [go_sem] IU JT Ny Rc PB
def iW:En Circuit:=⟨1,fun x=>[sl aO x.Gates]⟩
def ID (x:Circuit):Prop:=bdL TG x.Gates
theorem Bu:iW.esz=1:=by decide
theorem B8 (x:Circuit):iW.enc x=[sl aO x.Gates]:=rfl
theorem El (a0:(List aa)) (l:List Circuit):co [sl aO a0] (rws iW l)=rws iW ((⟨a0⟩:Circuit)::l):=rfl
theorem FK (a0:(List aa)) (l:List Circuit) (i:Nat):dS (rws iW l) i [sl aO a0]=rws iW (l.set i (⟨a0⟩:Circuit)):=by simp [dS,rws,iW]
theorem FS (x:Circuit):Circuit.mk x.Gates=x:=rfl
attribute [go_sem] Bu B8 El FK FS
theorem zd (l:List Circuit):co [.imm 1 []] (rws iW l)=rws iW ((⟨[]⟩:Circuit)::l):=rfl
attribute [go_sem] zd
def an:En ag:=⟨3,fun x=>[I x.Row,I x.Col,I x.Value]⟩
def ws (x:ag):Prop:=bdI x.Row∧bdI x.Col∧bdI x.Value
theorem sA:an.esz=3:=by decide
theorem tc (x:ag):an.enc x=[I x.Row,I x.Col,I x.Value]:=rfl
theorem uP (a0 a1 a2:Int) (l:List ag):co [I a0,I a1,I a2] (rws an l)=rws an ((⟨a0,a1,a2⟩:ag)::l):=rfl
theorem xC (a0 a1 a2:Int) (l:List ag) (i:Nat):dS (rws an l) i [I a0,I a1,I a2]=rws an (l.set i (⟨a0,a1,a2⟩:ag)):=by simp [dS,rws,an]
theorem yw (x:ag):ag.mk x.Row x.Col x.Value=x:=rfl
attribute [go_sem] sA tc uP xC yw
def cS:En aS:=⟨6,fun x=>[I x.Rows,I x.Cols,I x.Publics,sl an x.A,sl an x.B,sl an x.C]⟩
def Y8 (x:aS):Prop:=bdI x.Rows∧bdI x.Cols∧bdI x.Publics∧bdL ws x.A∧bdL ws x.B∧bdL ws x.C
theorem DS:cS.esz=6:=by decide
theorem Ei (x:aS):cS.enc x=[I x.Rows,I x.Cols,I x.Publics,sl an x.A,sl an x.B,sl an x.C]:=rfl
theorem G3 (a0 a1 a2:Int) (a3 a4 a5:(List ag)) (l:List aS):co [I a0,I a1,I a2,sl an a3,sl an a4,sl an a5] (rws cS l)=rws cS ((⟨a0,a1,a2,a3,a4,a5⟩:aS)::l):=rfl
theorem JE (a0 a1 a2:Int) (a3 a4 a5:(List ag)) (l:List aS) (i:Nat):dS (rws cS l) i [I a0,I a1,I a2,sl an a3,sl an a4,sl an a5]=rws cS (l.set i (⟨a0,a1,a2,a3,a4,a5⟩:aS)):=by simp [dS,rws,cS]
theorem I5 (x:aS):aS.mk x.Rows x.Cols x.Publics x.A x.B x.C=x:=rfl
attribute [go_sem] DS Ei G3 JE I5
theorem Ax (a0 a1 a2:Int) (a4 a5:(List ag)) (l:List aS):co [I a0,I a1,I a2,.imm 1 [],sl an a4,sl an a5] (rws cS l)=rws cS ((⟨a0,a1,a2,[],a4,a5⟩:aS)::l):=rfl
attribute [go_sem] Ax
theorem BV (a0 a1 a2:Int) (a3 a5:(List ag)) (l:List aS):co [I a0,I a1,I a2,sl an a3,.imm 1 [],sl an a5] (rws cS l)=rws cS ((⟨a0,a1,a2,a3,[],a5⟩:aS)::l):=rfl
attribute [go_sem] BV
theorem Bj (a0 a1 a2:Int) (a5:(List ag)) (l:List aS):co [I a0,I a1,I a2,.imm 1 [],.imm 1 [],sl an a5] (rws cS l)=rws cS ((⟨a0,a1,a2,[],[],a5⟩:aS)::l):=rfl
attribute [go_sem] Bj
theorem AT (a0 a1 a2:Int) (a3 a4:(List ag)) (l:List aS):co [I a0,I a1,I a2,sl an a3,sl an a4,.imm 1 []] (rws cS l)=rws cS ((⟨a0,a1,a2,a3,a4,[]⟩:aS)::l):=rfl
attribute [go_sem] AT
theorem Aj (a0 a1 a2:Int) (a4:(List ag)) (l:List aS):co [I a0,I a1,I a2,.imm 1 [],sl an a4,.imm 1 []] (rws cS l)=rws cS ((⟨a0,a1,a2,[],a4,[]⟩:aS)::l):=rfl
attribute [go_sem] Aj
theorem Bs (a0 a1 a2:Int) (a3:(List ag)) (l:List aS):co [I a0,I a1,I a2,sl an a3,.imm 1 [],.imm 1 []] (rws cS l)=rws cS ((⟨a0,a1,a2,a3,[],[]⟩:aS)::l):=rfl
attribute [go_sem] Bs
theorem C4 (a0 a1 a2:Int) (l:List aS):co [I a0,I a1,I a2,.imm 1 [],.imm 1 [],.imm 1 []] (rws cS l)=rws cS ((⟨a0,a1,a2,[],[],[]⟩:aS)::l):=rfl
attribute [go_sem] C4
def lx:En aV:=⟨3,fun x=>[sl eU8 x.code,I x.at_,I x.seed]⟩
def Y5 (x:aV):Prop:=bdL (bdT (α:=UInt8)) x.code∧bdI x.at_∧bdI x.seed
theorem Ca:lx.esz=3:=by decide
theorem E8 (x:aV):lx.enc x=[sl eU8 x.code,I x.at_,I x.seed]:=rfl
theorem Gu (a0:(List UInt8)) (a1 a2:Int) (l:List aV):co [sl eU8 a0,I a1,I a2] (rws lx l)=rws lx ((⟨a0,a1,a2⟩:aV)::l):=rfl
theorem HN (a0:(List UInt8)) (a1 a2:Int) (l:List aV) (i:Nat):dS (rws lx l) i [sl eU8 a0,I a1,I a2]=rws lx (l.set i (⟨a0,a1,a2⟩:aV)):=by simp [dS,rws,lx]
theorem Jf (x:aV):aV.mk x.code x.at_ x.seed=x:=rfl
attribute [go_sem] Ca E8 Gu HN Jf
theorem C7 (a1 a2:Int) (l:List aV):co [.imm 1 [],I a1,I a2] (rws lx l)=rws lx ((⟨[],a1,a2⟩:aV)::l):=rfl
attribute [go_sem] C7
def gr:En Handed:=⟨2,fun x=>[sl eI x.Publics,sl eI x.Inputs]⟩
def Yn (x:Handed):Prop:=bdL bdI x.Publics∧bdL bdI x.Inputs
theorem D9:gr.esz=2:=by decide
theorem DA (x:Handed):gr.enc x=[sl eI x.Publics,sl eI x.Inputs]:=rfl
theorem Gw (a0 a1:(List Int)) (l:List Handed):co [sl eI a0,sl eI a1] (rws gr l)=rws gr ((⟨a0,a1⟩:Handed)::l):=rfl
theorem JL (a0 a1:(List Int)) (l:List Handed) (i:Nat):dS (rws gr l) i [sl eI a0,sl eI a1]=rws gr (l.set i (⟨a0,a1⟩:Handed)):=by simp [dS,rws,gr]
theorem JH (x:Handed):Handed.mk x.Publics x.Inputs=x:=rfl
attribute [go_sem] D9 DA Gw JL JH
theorem B4 (a1:(List Int)) (l:List Handed):co [.imm 1 [],sl eI a1] (rws gr l)=rws gr ((⟨[],a1⟩:Handed)::l):=rfl
attribute [go_sem] B4
theorem Aq (a0:(List Int)) (l:List Handed):co [sl eI a0,.imm 1 []] (rws gr l)=rws gr ((⟨a0,[]⟩:Handed)::l):=rfl
attribute [go_sem] Aq
theorem B0 (l:List Handed):co [.imm 1 [],.imm 1 []] (rws gr l)=rws gr ((⟨[],[]⟩:Handed)::l):=rfl
attribute [go_sem] B0
def ma:En Setting:=⟨3,fun x=>[I x.Rate,I x.Queries,I x.Grind]⟩
def Jg (x:Setting):Prop:=bdI x.Rate∧bdI x.Queries∧bdI x.Grind
theorem AE:ma.esz=3:=by decide
theorem Bg (x:Setting):ma.enc x=[I x.Rate,I x.Queries,I x.Grind]:=rfl
theorem D4 (a0 a1 a2:Int) (l:List Setting):co [I a0,I a1,I a2] (rws ma l)=rws ma ((⟨a0,a1,a2⟩:Setting)::l):=rfl
theorem Gy (a0 a1 a2:Int) (l:List Setting) (i:Nat):dS (rws ma l) i [I a0,I a1,I a2]=rws ma (l.set i (⟨a0,a1,a2⟩:Setting)):=by simp [dS,rws,ma]
theorem EV (x:Setting):Setting.mk x.Rate x.Queries x.Grind=x:=rfl
attribute [go_sem] AE Bg D4 Gy EV
def sG:En Ext:=⟨2,fun x=>[I x.A,I x.B]⟩
def X4 (x:Ext):Prop:=bdI x.A∧bdI x.B
theorem KZ:sG.esz=2:=by decide
theorem OX (x:Ext):sG.enc x=[I x.A,I x.B]:=rfl
theorem QZ (a0 a1:Int) (l:List Ext):co [I a0,I a1] (rws sG l)=rws sG ((⟨a0,a1⟩:Ext)::l):=rfl
theorem Vi (a0 a1:Int) (l:List Ext) (i:Nat):dS (rws sG l) i [I a0,I a1]=rws sG (l.set i (⟨a0,a1⟩:Ext)):=by simp [dS,rws,sG]
theorem Tw (x:Ext):Ext.mk x.A x.B=x:=rfl
attribute [go_sem] KZ OX QZ Vi Tw
def l0:En Source:=⟨4,fun x=>[sl sG x.Script,I x.At,S x.State,I x.Count]⟩
def KR (x:Source):Prop:=bdL X4 x.Script∧bdI x.At∧bdS x.State∧bdI x.Count
theorem Ce:l0.esz=4:=by decide
theorem Cq (x:Source):l0.enc x=[sl sG x.Script,I x.At,S x.State,I x.Count]:=rfl
theorem FO (a0:(List Ext)) (a1:Int) (a2:(List UInt8)) (a3:Int) (l:List Source):co [sl sG a0,I a1,S a2,I a3] (rws l0 l)=rws l0 ((⟨a0,a1,a2,a3⟩:Source)::l):=rfl
theorem Ie (a0:(List Ext)) (a1:Int) (a2:(List UInt8)) (a3:Int) (l:List Source) (i:Nat):dS (rws l0 l) i [sl sG a0,I a1,S a2,I a3]=rws l0 (l.set i (⟨a0,a1,a2,a3⟩:Source)):=by simp [dS,rws,l0]
theorem JZ (x:Source):Source.mk x.Script x.At x.State x.Count=x:=rfl
attribute [go_sem] Ce Cq FO Ie JZ
theorem BI (a1:Int) (a2:(List UInt8)) (a3:Int) (l:List Source):co [.imm 1 [],I a1,S a2,I a3] (rws l0 l)=rws l0 ((⟨[],a1,a2,a3⟩:Source)::l):=rfl
attribute [go_sem] BI
def oB:En oJ:=⟨10,fun x=>[sl aO x.Circuit.Gates,sl eI x.Publics,sl eI x.Inputs,I x.Setting.Rate,I x.Setting.Queries,I x.Setting.Grind,sl sG x.Source.Script,I x.Source.At,S x.Source.State,I x.Source.Count]⟩
def Xw (x:oJ):Prop:=ID x.Circuit∧bdL bdI x.Publics∧bdL bdI x.Inputs∧Jg x.Setting∧KR x.Source
theorem Dv:oB.esz=10:=by decide
theorem Dj (x:oJ):oB.enc x=[sl aO x.Circuit.Gates,sl eI x.Publics,sl eI x.Inputs,I x.Setting.Rate,I x.Setting.Queries,I x.Setting.Grind,sl sG x.Source.Script,I x.Source.At,S x.Source.State,I x.Source.Count]:=rfl
theorem Gr (a0:(List aa)) (a1 a2:(List Int)) (a3 a4 a5:Int) (a6:(List Ext)) (a7:Int) (a8:(List UInt8)) (a9:Int) (l:List oJ):co [sl aO a0,sl eI a1,sl eI a2,I a3,I a4,I a5,sl sG a6,I a7,S a8,I a9] (rws oB l)=rws oB ((⟨⟨a0⟩,a1,a2,⟨a3,a4,a5⟩,⟨a6,a7,a8,a9⟩⟩:oJ)::l):=rfl
theorem IL (a0:(List aa)) (a1 a2:(List Int)) (a3 a4 a5:Int) (a6:(List Ext)) (a7:Int) (a8:(List UInt8)) (a9:Int) (l:List oJ) (i:Nat):dS (rws oB l) i [sl aO a0,sl eI a1,sl eI a2,I a3,I a4,I a5,sl sG a6,I a7,S a8,I a9]=rws oB (l.set i (⟨⟨a0⟩,a1,a2,⟨a3,a4,a5⟩,⟨a6,a7,a8,a9⟩⟩:oJ)):=by simp [dS,rws,oB]
theorem Ji (x:oJ):oJ.mk x.Circuit x.Publics x.Inputs x.Setting x.Source=x:=rfl
attribute [go_sem] Dv Dj Gr IL Ji
end Go.AI.Fn
