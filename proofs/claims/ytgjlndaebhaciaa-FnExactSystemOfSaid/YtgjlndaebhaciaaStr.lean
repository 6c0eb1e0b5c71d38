/- Structs. -/
import Derived.Test.YtgjlndaebhaciaaTb1
import Derived.Test.YtgjlndaebhaciaaAiTop3
import Derived.Test.YtgjlndaebhaciaaAiAdd
import Derived.Test.YtgjlndaebhaciaaAiEntX
namespace Go.AI.Fn
structure Gate where
 Op:Int
 A:Int
 B:Int
 K:Int
structure Circuit where
 Gates:(List Gate)
structure ab where
 Row:Int
 Col:Int
 Value:Int
structure aP where
 Rows:Int
 Cols:Int
 Publics:Int
 A:(List ab)
 B:(List ab)
 C:(List ab)
structure ic where
 code:(List UInt8)
 at_:Int
 seed:Int
structure Handed where
 Publics:(List Int)
 Inputs:(List Int)
structure Setting where
 Rate:Int
 Queries:Int
 Grind:Int
structure Ext where
 A:Int
 B:Int
structure Source where
 Script:(List Ext)
 At:Int
 State:(List UInt8)
 Count:Int
structure ky where
 Circuit:Circuit
 Publics:(List Int)
 Inputs:(List Int)
 Setting:Setting
 Source:Source
def eGate:En Gate:=⟨4,fun x=>[I x.Op,I x.A,I x.B,I x.K]⟩
def bdGate (x:Gate):Prop:=bdI x.Op∧bdI x.A∧bdI x.B∧bdI x.K
theorem CA:eGate.esz=4:=by decide
theorem Dp (x:Gate):eGate.enc x=[I x.Op,I x.A,I x.B,I x.K]:=rfl
theorem Ib (a0 a1 a2 a3:Int) (l:List Gate):bD [I a0,I a1,I a2,I a3] (rws eGate l)=rws eGate ((⟨a0,a1,a2,a3⟩:Gate)::l):=rfl
theorem M6 (a0 a1 a2 a3:Int) (l:List Gate) (i:Nat):cD (rws eGate l) i [I a0,I a1,I a2,I a3]=rws eGate (l.set i (⟨a0,a1,a2,a3⟩:Gate)):=by simp [cD,rws,eGate]
theorem LX (x:Gate):Gate.mk x.Op x.A x.B x.K=x:=rfl
attribute [go_sem] CA Dp Ib M6 LX
theorem Fx (m:Nat) (l:List Gate):dG true ⟨m,false,rws eGate l⟩=true:=oy (fun _=>rfl) m l
attribute [go_sem] Fx
def eCircuit:En Circuit:=⟨1,fun x=>[sl eGate x.Gates]⟩
def bdCircuit (x:Circuit):Prop:=bdL bdGate x.Gates
theorem uR:eCircuit.esz=1:=by decide
theorem wa (x:Circuit):eCircuit.enc x=[sl eGate x.Gates]:=rfl
theorem yz (a0:(List Gate)) (l:List Circuit):bD [sl eGate a0] (rws eCircuit l)=rws eCircuit ((⟨a0⟩:Circuit)::l):=rfl
theorem AY (a0:(List Gate)) (l:List Circuit) (i:Nat):cD (rws eCircuit l) i [sl eGate a0]=rws eCircuit (l.set i (⟨a0⟩:Circuit)):=by simp [cD,rws,eCircuit]
theorem zq (x:Circuit):Circuit.mk x.Gates=x:=rfl
attribute [go_sem] uR wa yz AY zq
theorem tD (l:List Circuit):bD [.imm 1 []] (rws eCircuit l)=rws eCircuit ((⟨[]⟩:Circuit)::l):=rfl
attribute [go_sem] tD
def ai:En ab:=⟨3,fun x=>[I x.Row,I x.Col,I x.Value]⟩
def re (x:ab):Prop:=bdI x.Row∧bdI x.Col∧bdI x.Value
theorem o4:ai.esz=3:=by decide
theorem nU (x:ab):ai.enc x=[I x.Row,I x.Col,I x.Value]:=rfl
theorem pm (a0 a1 a2:Int) (l:List ab):bD [I a0,I a1,I a2] (rws ai l)=rws ai ((⟨a0,a1,a2⟩:ab)::l):=rfl
theorem se (a0 a1 a2:Int) (l:List ab) (i:Nat):cD (rws ai l) i [I a0,I a1,I a2]=rws ai (l.set i (⟨a0,a1,a2⟩:ab)):=by simp [cD,rws,ai]
theorem rB (x:ab):ab.mk x.Row x.Col x.Value=x:=rfl
attribute [go_sem] o4 nU pm se rB
theorem Dm (m:Nat) (l:List ab):dG true ⟨m,false,rws ai l⟩=true:=oy (fun _=>rfl) m l
attribute [go_sem] Dm
def bW:En aP:=⟨6,fun x=>[I x.Rows,I x.Cols,I x.Publics,sl ai x.A,sl ai x.B,sl ai x.C]⟩
def RU (x:aP):Prop:=bdI x.Rows∧bdI x.Cols∧bdI x.Publics∧bdL re x.A∧bdL re x.B∧bdL re x.C
theorem wJ:bW.esz=6:=by decide
theorem yB (x:aP):bW.enc x=[I x.Rows,I x.Cols,I x.Publics,sl ai x.A,sl ai x.B,sl ai x.C]:=rfl
theorem zi (a0 a1 a2:Int) (a3 a4 a5:(List ab)) (l:List aP):bD [I a0,I a1,I a2,sl ai a3,sl ai a4,sl ai a5] (rws bW l)=rws bW ((⟨a0,a1,a2,a3,a4,a5⟩:aP)::l):=rfl
theorem DU (a0 a1 a2:Int) (a3 a4 a5:(List ab)) (l:List aP) (i:Nat):cD (rws bW l) i [I a0,I a1,I a2,sl ai a3,sl ai a4,sl ai a5]=rws bW (l.set i (⟨a0,a1,a2,a3,a4,a5⟩:aP)):=by simp [cD,rws,bW]
theorem Ej (x:aP):aP.mk x.Rows x.Cols x.Publics x.A x.B x.C=x:=rfl
attribute [go_sem] wJ yB zi DU Ej
theorem vo (a0 a1 a2:Int) (a4 a5:(List ab)) (l:List aP):bD [I a0,I a1,I a2,.imm 1 [],sl ai a4,sl ai a5] (rws bW l)=rws bW ((⟨a0,a1,a2,[],a4,a5⟩:aP)::l):=rfl
attribute [go_sem] vo
theorem va (a0 a1 a2:Int) (a3 a5:(List ab)) (l:List aP):bD [I a0,I a1,I a2,sl ai a3,.imm 1 [],sl ai a5] (rws bW l)=rws bW ((⟨a0,a1,a2,a3,[],a5⟩:aP)::l):=rfl
attribute [go_sem] va
theorem vj (a0 a1 a2:Int) (a5:(List ab)) (l:List aP):bD [I a0,I a1,I a2,.imm 1 [],.imm 1 [],sl ai a5] (rws bW l)=rws bW ((⟨a0,a1,a2,[],[],a5⟩:aP)::l):=rfl
attribute [go_sem] vj
theorem uM (a0 a1 a2:Int) (a3 a4:(List ab)) (l:List aP):bD [I a0,I a1,I a2,sl ai a3,sl ai a4,.imm 1 []] (rws bW l)=rws bW ((⟨a0,a1,a2,a3,a4,[]⟩:aP)::l):=rfl
attribute [go_sem] uM
theorem vb (a0 a1 a2:Int) (a4:(List ab)) (l:List aP):bD [I a0,I a1,I a2,.imm 1 [],sl ai a4,.imm 1 []] (rws bW l)=rws bW ((⟨a0,a1,a2,[],a4,[]⟩:aP)::l):=rfl
attribute [go_sem] vb
theorem vF (a0 a1 a2:Int) (a3:(List ab)) (l:List aP):bD [I a0,I a1,I a2,sl ai a3,.imm 1 [],.imm 1 []] (rws bW l)=rws bW ((⟨a0,a1,a2,a3,[],[]⟩:aP)::l):=rfl
attribute [go_sem] vF
theorem vL (a0 a1 a2:Int) (l:List aP):bD [I a0,I a1,I a2,.imm 1 [],.imm 1 [],.imm 1 []] (rws bW l)=rws bW ((⟨a0,a1,a2,[],[],[]⟩:aP)::l):=rfl
attribute [go_sem] vL
def iy:En ic:=⟨3,fun x=>[sl eU8 x.code,I x.at_,I x.seed]⟩
def QH (x:ic):Prop:=bdL (bdT (α:=UInt8)) x.code∧bdI x.at_∧bdI x.seed
theorem wX:iy.esz=3:=by decide
theorem wR (x:ic):iy.enc x=[sl eU8 x.code,I x.at_,I x.seed]:=rfl
theorem zQ (a0:(List UInt8)) (a1 a2:Int) (l:List ic):bD [sl eU8 a0,I a1,I a2] (rws iy l)=rws iy ((⟨a0,a1,a2⟩:ic)::l):=rfl
theorem El (a0:(List UInt8)) (a1 a2:Int) (l:List ic) (i:Nat):cD (rws iy l) i [sl eU8 a0,I a1,I a2]=rws iy (l.set i (⟨a0,a1,a2⟩:ic)):=by simp [cD,rws,iy]
theorem CU (x:ic):ic.mk x.code x.at_ x.seed=x:=rfl
attribute [go_sem] wX wR zQ El CU
theorem vS (a1 a2:Int) (l:List ic):bD [.imm 1 [],I a1,I a2] (rws iy l)=rws iy ((⟨[],a1,a2⟩:ic)::l):=rfl
attribute [go_sem] vS
def dX:En Handed:=⟨2,fun x=>[sl eI x.Publics,sl eI x.Inputs]⟩
def RM (x:Handed):Prop:=bdL bdI x.Publics∧bdL bdI x.Inputs
theorem xf:dX.esz=2:=by decide
theorem xG (x:Handed):dX.enc x=[sl eI x.Publics,sl eI x.Inputs]:=rfl
theorem zB (a0 a1:(List Int)) (l:List Handed):bD [sl eI a0,sl eI a1] (rws dX l)=rws dX ((⟨a0,a1⟩:Handed)::l):=rfl
theorem Cv (a0 a1:(List Int)) (l:List Handed) (i:Nat):cD (rws dX l) i [sl eI a0,sl eI a1]=rws dX (l.set i (⟨a0,a1⟩:Handed)):=by simp [cD,rws,dX]
theorem C5 (x:Handed):Handed.mk x.Publics x.Inputs=x:=rfl
attribute [go_sem] xf xG zB Cv C5
theorem w6 (a1:(List Int)) (l:List Handed):bD [.imm 1 [],sl eI a1] (rws dX l)=rws dX ((⟨[],a1⟩:Handed)::l):=rfl
attribute [go_sem] w6
theorem vC (a0:(List Int)) (l:List Handed):bD [sl eI a0,.imm 1 []] (rws dX l)=rws dX ((⟨a0,[]⟩:Handed)::l):=rfl
attribute [go_sem] vC
theorem uX (l:List Handed):bD [.imm 1 [],.imm 1 []] (rws dX l)=rws dX ((⟨[],[]⟩:Handed)::l):=rfl
attribute [go_sem] uX
def i8:En Setting:=⟨3,fun x=>[I x.Rate,I x.Queries,I x.Grind]⟩
def Cj (x:Setting):Prop:=bdI x.Rate∧bdI x.Queries∧bdI x.Grind
theorem vm:i8.esz=3:=by decide
theorem vd (x:Setting):i8.enc x=[I x.Rate,I x.Queries,I x.Grind]:=rfl
theorem yp (a0 a1 a2:Int) (l:List Setting):bD [I a0,I a1,I a2] (rws i8 l)=rws i8 ((⟨a0,a1,a2⟩:Setting)::l):=rfl
theorem Af (a0 a1 a2:Int) (l:List Setting) (i:Nat):cD (rws i8 l) i [I a0,I a1,I a2]=rws i8 (l.set i (⟨a0,a1,a2⟩:Setting)):=by simp [cD,rws,i8]
theorem Ag (x:Setting):Setting.mk x.Rate x.Queries x.Grind=x:=rfl
attribute [go_sem] vm vd yp Af Ag
theorem xB (m:Nat) (l:List Setting):dG true ⟨m,false,rws i8 l⟩=true:=oy (fun _=>rfl) m l
attribute [go_sem] xB
def nk:En Ext:=⟨2,fun x=>[I x.A,I x.B]⟩
def Qz (x:Ext):Prop:=bdI x.A∧bdI x.B
theorem Gp:nk.esz=2:=by decide
theorem G4 (x:Ext):nk.enc x=[I x.A,I x.B]:=rfl
theorem Kw (a0 a1:Int) (l:List Ext):bD [I a0,I a1] (rws nk l)=rws nk ((⟨a0,a1⟩:Ext)::l):=rfl
theorem Pc (a0 a1:Int) (l:List Ext) (i:Nat):cD (rws nk l) i [I a0,I a1]=rws nk (l.set i (⟨a0,a1⟩:Ext)):=by simp [cD,rws,nk]
theorem Og (x:Ext):Ext.mk x.A x.B=x:=rfl
attribute [go_sem] Gp G4 Kw Pc Og
theorem Ko (m:Nat) (l:List Ext):dG true ⟨m,false,rws nk l⟩=true:=oy (fun _=>rfl) m l
attribute [go_sem] Ko
def iq:En Source:=⟨4,fun x=>[sl nk x.Script,I x.At,S x.State,I x.Count]⟩
def Hx (x:Source):Prop:=bdL Qz x.Script∧bdI x.At∧bdS x.State∧bdI x.Count
theorem yC:iq.esz=4:=by decide
theorem yM (x:Source):iq.enc x=[sl nk x.Script,I x.At,S x.State,I x.Count]:=rfl
theorem zY (a0:(List Ext)) (a1:Int) (a2:(List UInt8)) (a3:Int) (l:List Source):bD [sl nk a0,I a1,S a2,I a3] (rws iq l)=rws iq ((⟨a0,a1,a2,a3⟩:Source)::l):=rfl
theorem DV (a0:(List Ext)) (a1:Int) (a2:(List UInt8)) (a3:Int) (l:List Source) (i:Nat):cD (rws iq l) i [sl nk a0,I a1,S a2,I a3]=rws iq (l.set i (⟨a0,a1,a2,a3⟩:Source)):=by simp [cD,rws,iq]
theorem DI (x:Source):Source.mk x.Script x.At x.State x.Count=x:=rfl
attribute [go_sem] yC yM zY DV DI
theorem vZ (a1:Int) (a2:(List UInt8)) (a3:Int) (l:List Source):bD [.imm 1 [],I a1,S a2,I a3] (rws iq l)=rws iq ((⟨[],a1,a2,a3⟩:Source)::l):=rfl
attribute [go_sem] vZ
def kz:En ky:=⟨10,fun x=>[sl eGate x.Circuit.Gates,sl eI x.Publics,sl eI x.Inputs,I x.Setting.Rate,I x.Setting.Queries,I x.Setting.Grind,sl nk x.Source.Script,I x.Source.At,S x.Source.State,I x.Source.Count]⟩
def RO (x:ky):Prop:=bdCircuit x.Circuit∧bdL bdI x.Publics∧bdL bdI x.Inputs∧Cj x.Setting∧Hx x.Source
theorem xn:kz.esz=10:=by decide
theorem yT (x:ky):kz.enc x=[sl eGate x.Circuit.Gates,sl eI x.Publics,sl eI x.Inputs,I x.Setting.Rate,I x.Setting.Queries,I x.Setting.Grind,sl nk x.Source.Script,I x.Source.At,S x.Source.State,I x.Source.Count]:=rfl
theorem Ah (a0:(List Gate)) (a1 a2:(List Int)) (a3 a4 a5:Int) (a6:(List Ext)) (a7:Int) (a8:(List UInt8)) (a9:Int) (l:List ky):bD [sl eGate a0,sl eI a1,sl eI a2,I a3,I a4,I a5,sl nk a6,I a7,S a8,I a9] (rws kz l)=rws kz ((⟨⟨a0⟩,a1,a2,⟨a3,a4,a5⟩,⟨a6,a7,a8,a9⟩⟩:ky)::l):=rfl
theorem CR (a0:(List Gate)) (a1 a2:(List Int)) (a3 a4 a5:Int) (a6:(List Ext)) (a7:Int) (a8:(List UInt8)) (a9:Int) (l:List ky) (i:Nat):cD (rws kz l) i [sl eGate a0,sl eI a1,sl eI a2,I a3,I a4,I a5,sl nk a6,I a7,S a8,I a9]=rws kz (l.set i (⟨⟨a0⟩,a1,a2,⟨a3,a4,a5⟩,⟨a6,a7,a8,a9⟩⟩:ky)):=by simp [cD,rws,kz]
theorem Ee (x:ky):ky.mk x.Circuit x.Publics x.Inputs x.Setting x.Source=x:=rfl
attribute [go_sem] xn yT Ah CR Ee
end Go.AI.Fn
