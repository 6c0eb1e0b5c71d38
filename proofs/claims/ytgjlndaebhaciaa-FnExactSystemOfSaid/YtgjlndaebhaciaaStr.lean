/- Structs. -/
import Derived.Test.YtgjlndaebhaciaaTb1
import Derived.Test.YtgjlndaebhaciaaAiTop3
import Derived.Test.YtgjlndaebhaciaaAiAdd
import Derived.Test.YtgjlndaebhaciaaAiEntX
namespace Go.AI.Fn
structure Gate where
 Op:Int
 A:Int
 B:Int
 K:Int
structure Circuit where
 Gates:(List Gate)
structure ab where
 Row:Int
 Col:Int
 Value:Int
structure aQ where
 Rows:Int
 Cols:Int
 Publics:Int
 A:(List ab)
 B:(List ab)
 C:(List ab)
structure ib where
 code:(List UInt8)
 at_:Int
 seed:Int
structure Handed where
 Publics:(List Int)
 Inputs:(List Int)
structure Setting where
 Rate:Int
 Queries:Int
 Grind:Int
structure Ext where
 A:Int
 B:Int
structure Source where
 Script:(List Ext)
 At:Int
 State:(List UInt8)
 Count:Int
structure kL where
 Circuit:Circuit
 Publics:(List Int)
 Inputs:(List Int)
 Setting:Setting
 Source:Source
def eGate:En Gate:=⟨4,fun x=>[I x.Op,I x.A,I x.B,I x.K]⟩
def bdGate (x:Gate):Prop:=bdI x.Op∧bdI x.A∧bdI x.B∧bdI x.K
theorem CT:eGate.esz=4:=by decide
theorem D4 (x:Gate):eGate.enc x=[I x.Op,I x.A,I x.B,I x.K]:=rfl
theorem Fi (a0 a1 a2 a3:Int) (l:List Gate):bD [I a0,I a1,I a2,I a3] (rws eGate l)=rws eGate ((⟨a0,a1,a2,a3⟩:Gate)::l):=rfl
theorem Jg (a0 a1 a2 a3:Int) (l:List Gate) (i:Nat):cG (rws eGate l) i [I a0,I a1,I a2,I a3]=rws eGate (l.set i (⟨a0,a1,a2,a3⟩:Gate)):=by simp [cG,rws,eGate]
theorem Lr (x:Gate):Gate.mk x.Op x.A x.B x.K=x:=rfl
attribute [go_sem] CT D4 Fi Jg Lr
theorem Hu (m:Nat) (l:List Gate):dH true ⟨m,false,rws eGate l⟩=true:=ot (fun _=>rfl) m l
attribute [go_sem] Hu
def eCircuit:En Circuit:=⟨1,fun x=>[sl eGate x.Gates]⟩
def bdCircuit (x:Circuit):Prop:=bdL bdGate x.Gates
theorem wz:eCircuit.esz=1:=by decide
theorem vk (x:Circuit):eCircuit.enc x=[sl eGate x.Gates]:=rfl
theorem yt (a0:(List Gate)) (l:List Circuit):bD [sl eGate a0] (rws eCircuit l)=rws eCircuit ((⟨a0⟩:Circuit)::l):=rfl
theorem Ae (a0:(List Gate)) (l:List Circuit) (i:Nat):cG (rws eCircuit l) i [sl eGate a0]=rws eCircuit (l.set i (⟨a0⟩:Circuit)):=by simp [cG,rws,eCircuit]
theorem zs (x:Circuit):Circuit.mk x.Gates=x:=rfl
attribute [go_sem] wz vk yt Ae zs
theorem tV (l:List Circuit):bD [.imm 1 []] (rws eCircuit l)=rws eCircuit ((⟨[]⟩:Circuit)::l):=rfl
attribute [go_sem] tV
def ai:En ab:=⟨3,fun x=>[I x.Row,I x.Col,I x.Value]⟩
def rb (x:ab):Prop:=bdI x.Row∧bdI x.Col∧bdI x.Value
theorem o5:ai.esz=3:=by decide
theorem o7 (x:ab):ai.enc x=[I x.Row,I x.Col,I x.Value]:=rfl
theorem pi (a0 a1 a2:Int) (l:List ab):bD [I a0,I a1,I a2] (rws ai l)=rws ai ((⟨a0,a1,a2⟩:ab)::l):=rfl
theorem tn (a0 a1 a2:Int) (l:List ab) (i:Nat):cG (rws ai l) i [I a0,I a1,I a2]=rws ai (l.set i (⟨a0,a1,a2⟩:ab)):=by simp [cG,rws,ai]
theorem tg (x:ab):ab.mk x.Row x.Col x.Value=x:=rfl
attribute [go_sem] o5 o7 pi tn tg
theorem BV (m:Nat) (l:List ab):dH true ⟨m,false,rws ai l⟩=true:=ot (fun _=>rfl) m l
attribute [go_sem] BV
def bW:En aQ:=⟨6,fun x=>[I x.Rows,I x.Cols,I x.Publics,sl ai x.A,sl ai x.B,sl ai x.C]⟩
def Rw (x:aQ):Prop:=bdI x.Rows∧bdI x.Cols∧bdI x.Publics∧bdL rb x.A∧bdL rb x.B∧bdL rb x.C
theorem yg:bW.esz=6:=by decide
theorem wG (x:aQ):bW.enc x=[I x.Rows,I x.Cols,I x.Publics,sl ai x.A,sl ai x.B,sl ai x.C]:=rfl
theorem AZ (a0 a1 a2:Int) (a3 a4 a5:(List ab)) (l:List aQ):bD [I a0,I a1,I a2,sl ai a3,sl ai a4,sl ai a5] (rws bW l)=rws bW ((⟨a0,a1,a2,a3,a4,a5⟩:aQ)::l):=rfl
theorem BP (a0 a1 a2:Int) (a3 a4 a5:(List ab)) (l:List aQ) (i:Nat):cG (rws bW l) i [I a0,I a1,I a2,sl ai a3,sl ai a4,sl ai a5]=rws bW (l.set i (⟨a0,a1,a2,a3,a4,a5⟩:aQ)):=by simp [cG,rws,bW]
theorem Cz (x:aQ):aQ.mk x.Rows x.Cols x.Publics x.A x.B x.C=x:=rfl
attribute [go_sem] yg wG AZ BP Cz
theorem uP (a0 a1 a2:Int) (a4 a5:(List ab)) (l:List aQ):bD [I a0,I a1,I a2,.imm 1 [],sl ai a4,sl ai a5] (rws bW l)=rws bW ((⟨a0,a1,a2,[],a4,a5⟩:aQ)::l):=rfl
attribute [go_sem] uP
theorem uY (a0 a1 a2:Int) (a3 a5:(List ab)) (l:List aQ):bD [I a0,I a1,I a2,sl ai a3,.imm 1 [],sl ai a5] (rws bW l)=rws bW ((⟨a0,a1,a2,a3,[],a5⟩:aQ)::l):=rfl
attribute [go_sem] uY
theorem vU (a0 a1 a2:Int) (a5:(List ab)) (l:List aQ):bD [I a0,I a1,I a2,.imm 1 [],.imm 1 [],sl ai a5] (rws bW l)=rws bW ((⟨a0,a1,a2,[],[],a5⟩:aQ)::l):=rfl
attribute [go_sem] vU
theorem uZ (a0 a1 a2:Int) (a3 a4:(List ab)) (l:List aQ):bD [I a0,I a1,I a2,sl ai a3,sl ai a4,.imm 1 []] (rws bW l)=rws bW ((⟨a0,a1,a2,a3,a4,[]⟩:aQ)::l):=rfl
attribute [go_sem] uZ
theorem vi (a0 a1 a2:Int) (a4:(List ab)) (l:List aQ):bD [I a0,I a1,I a2,.imm 1 [],sl ai a4,.imm 1 []] (rws bW l)=rws bW ((⟨a0,a1,a2,[],a4,[]⟩:aQ)::l):=rfl
attribute [go_sem] vi
theorem wa (a0 a1 a2:Int) (a3:(List ab)) (l:List aQ):bD [I a0,I a1,I a2,sl ai a3,.imm 1 [],.imm 1 []] (rws bW l)=rws bW ((⟨a0,a1,a2,a3,[],[]⟩:aQ)::l):=rfl
attribute [go_sem] wa
theorem uN (a0 a1 a2:Int) (l:List aQ):bD [I a0,I a1,I a2,.imm 1 [],.imm 1 [],.imm 1 []] (rws bW l)=rws bW ((⟨a0,a1,a2,[],[],[]⟩:aQ)::l):=rfl
attribute [go_sem] uN
def iC:En ib:=⟨3,fun x=>[sl eU8 x.code,I x.at_,I x.seed]⟩
def QM (x:ib):Prop:=bdL (bdT (α:=UInt8)) x.code∧bdI x.at_∧bdI x.seed
theorem xT:iC.esz=3:=by decide
theorem wC (x:ib):iC.enc x=[sl eU8 x.code,I x.at_,I x.seed]:=rfl
theorem AS (a0:(List UInt8)) (a1 a2:Int) (l:List ib):bD [sl eU8 a0,I a1,I a2] (rws iC l)=rws iC ((⟨a0,a1,a2⟩:ib)::l):=rfl
theorem DH (a0:(List UInt8)) (a1 a2:Int) (l:List ib) (i:Nat):cG (rws iC l) i [sl eU8 a0,I a1,I a2]=rws iC (l.set i (⟨a0,a1,a2⟩:ib)):=by simp [cG,rws,iC]
theorem DV (x:ib):ib.mk x.code x.at_ x.seed=x:=rfl
attribute [go_sem] xT wC AS DH DV
theorem wi (a1 a2:Int) (l:List ib):bD [.imm 1 [],I a1,I a2] (rws iC l)=rws iC ((⟨[],a1,a2⟩:ib)::l):=rfl
attribute [go_sem] wi
def dU:En Handed:=⟨2,fun x=>[sl eI x.Publics,sl eI x.Inputs]⟩
def S7 (x:Handed):Prop:=bdL bdI x.Publics∧bdL bdI x.Inputs
theorem xL:dU.esz=2:=by decide
theorem ya (x:Handed):dU.enc x=[sl eI x.Publics,sl eI x.Inputs]:=rfl
theorem z2 (a0 a1:(List Int)) (l:List Handed):bD [sl eI a0,sl eI a1] (rws dU l)=rws dU ((⟨a0,a1⟩:Handed)::l):=rfl
theorem Cn (a0 a1:(List Int)) (l:List Handed) (i:Nat):cG (rws dU l) i [sl eI a0,sl eI a1]=rws dU (l.set i (⟨a0,a1⟩:Handed)):=by simp [cG,rws,dU]
theorem CE (x:Handed):Handed.mk x.Publics x.Inputs=x:=rfl
attribute [go_sem] xL ya z2 Cn CE
theorem uE (a1:(List Int)) (l:List Handed):bD [.imm 1 [],sl eI a1] (rws dU l)=rws dU ((⟨[],a1⟩:Handed)::l):=rfl
attribute [go_sem] uE
theorem vg (a0:(List Int)) (l:List Handed):bD [sl eI a0,.imm 1 []] (rws dU l)=rws dU ((⟨a0,[]⟩:Handed)::l):=rfl
attribute [go_sem] vg
theorem w8 (l:List Handed):bD [.imm 1 [],.imm 1 []] (rws dU l)=rws dU ((⟨[],[]⟩:Handed)::l):=rfl
attribute [go_sem] w8
def hO:En Setting:=⟨3,fun x=>[I x.Rate,I x.Queries,I x.Grind]⟩
def Dk (x:Setting):Prop:=bdI x.Rate∧bdI x.Queries∧bdI x.Grind
theorem uS:hO.esz=3:=by decide
theorem vF (x:Setting):hO.enc x=[I x.Rate,I x.Queries,I x.Grind]:=rfl
theorem yH (a0 a1 a2:Int) (l:List Setting):bD [I a0,I a1,I a2] (rws hO l)=rws hO ((⟨a0,a1,a2⟩:Setting)::l):=rfl
theorem Ac (a0 a1 a2:Int) (l:List Setting) (i:Nat):cG (rws hO l) i [I a0,I a1,I a2]=rws hO (l.set i (⟨a0,a1,a2⟩:Setting)):=by simp [cG,rws,hO]
theorem Au (x:Setting):Setting.mk x.Rate x.Queries x.Grind=x:=rfl
attribute [go_sem] uS vF yH Ac Au
theorem xa (m:Nat) (l:List Setting):dH true ⟨m,false,rws hO l⟩=true:=ot (fun _=>rfl) m l
attribute [go_sem] xa
def nm:En Ext:=⟨2,fun x=>[I x.A,I x.B]⟩
def QA (x:Ext):Prop:=bdI x.A∧bdI x.B
theorem G3:nm.esz=2:=by decide
theorem GH (x:Ext):nm.enc x=[I x.A,I x.B]:=rfl
theorem M8 (a0 a1:Int) (l:List Ext):bD [I a0,I a1] (rws nm l)=rws nm ((⟨a0,a1⟩:Ext)::l):=rfl
theorem Q0 (a0 a1:Int) (l:List Ext) (i:Nat):cG (rws nm l) i [I a0,I a1]=rws nm (l.set i (⟨a0,a1⟩:Ext)):=by simp [cG,rws,nm]
theorem Pv (x:Ext):Ext.mk x.A x.B=x:=rfl
attribute [go_sem] G3 GH M8 Q0 Pv
theorem KO (m:Nat) (l:List Ext):dH true ⟨m,false,rws nm l⟩=true:=ot (fun _=>rfl) m l
attribute [go_sem] KO
def iw:En Source:=⟨4,fun x=>[sl nm x.Script,I x.At,S x.State,I x.Count]⟩
def HY (x:Source):Prop:=bdL QA x.Script∧bdI x.At∧bdS x.State∧bdI x.Count
theorem ye:iw.esz=4:=by decide
theorem yv (x:Source):iw.enc x=[sl nm x.Script,I x.At,S x.State,I x.Count]:=rfl
theorem zz (a0:(List Ext)) (a1:Int) (a2:(List UInt8)) (a3:Int) (l:List Source):bD [sl nm a0,I a1,S a2,I a3] (rws iw l)=rws iw ((⟨a0,a1,a2,a3⟩:Source)::l):=rfl
theorem C0 (a0:(List Ext)) (a1:Int) (a2:(List UInt8)) (a3:Int) (l:List Source) (i:Nat):cG (rws iw l) i [sl nm a0,I a1,S a2,I a3]=rws iw (l.set i (⟨a0,a1,a2,a3⟩:Source)):=by simp [cG,rws,iw]
theorem Ej (x:Source):Source.mk x.Script x.At x.State x.Count=x:=rfl
attribute [go_sem] ye yv zz C0 Ej
theorem ws (a1:Int) (a2:(List UInt8)) (a3:Int) (l:List Source):bD [.imm 1 [],I a1,S a2,I a3] (rws iw l)=rws iw ((⟨[],a1,a2,a3⟩:Source)::l):=rfl
attribute [go_sem] ws
def kw:En kL:=⟨10,fun x=>[sl eGate x.Circuit.Gates,sl eI x.Publics,sl eI x.Inputs,I x.Setting.Rate,I x.Setting.Queries,I x.Setting.Grind,sl nm x.Source.Script,I x.Source.At,S x.Source.State,I x.Source.Count]⟩
def QD (x:kL):Prop:=bdCircuit x.Circuit∧bdL bdI x.Publics∧bdL bdI x.Inputs∧Dk x.Setting∧HY x.Source
theorem wE:kw.esz=10:=by decide
theorem wJ (x:kL):kw.enc x=[sl eGate x.Circuit.Gates,sl eI x.Publics,sl eI x.Inputs,I x.Setting.Rate,I x.Setting.Queries,I x.Setting.Grind,sl nm x.Source.Script,I x.Source.At,S x.Source.State,I x.Source.Count]:=rfl
theorem Ao (a0:(List Gate)) (a1 a2:(List Int)) (a3 a4 a5:Int) (a6:(List Ext)) (a7:Int) (a8:(List UInt8)) (a9:Int) (l:List kL):bD [sl eGate a0,sl eI a1,sl eI a2,I a3,I a4,I a5,sl nm a6,I a7,S a8,I a9] (rws kw l)=rws kw ((⟨⟨a0⟩,a1,a2,⟨a3,a4,a5⟩,⟨a6,a7,a8,a9⟩⟩:kL)::l):=rfl
theorem CM (a0:(List Gate)) (a1 a2:(List Int)) (a3 a4 a5:Int) (a6:(List Ext)) (a7:Int) (a8:(List UInt8)) (a9:Int) (l:List kL) (i:Nat):cG (rws kw l) i [sl eGate a0,sl eI a1,sl eI a2,I a3,I a4,I a5,sl nm a6,I a7,S a8,I a9]=rws kw (l.set i (⟨⟨a0⟩,a1,a2,⟨a3,a4,a5⟩,⟨a6,a7,a8,a9⟩⟩:kL)):=by simp [cG,rws,kw]
theorem Cb (x:kL):kL.mk x.Circuit x.Publics x.Inputs x.Setting x.Source=x:=rfl
attribute [go_sem] wE wJ Ao CM Cb
end Go.AI.Fn
