/- Structs. -/
import Derived.Test.YtgjlndaebhaciaaTb1
import Derived.Test.YtgjlndaebhaciaaAiTop3
import Derived.Test.YtgjlndaebhaciaaAiAdd
import Derived.Test.YtgjlndaebhaciaaAiEntX
namespace Go.AI.Fn
structure Gate where
 Op:Int
 A:Int
 B:Int
 K:Int
structure Circuit where
 Gates:(List Gate)
structure ab where
 Row:Int
 Col:Int
 Value:Int
structure aQ where
 Rows:Int
 Cols:Int
 Publics:Int
 A:(List ab)
 B:(List ab)
 C:(List ab)
structure ib where
 code:(List UInt8)
 at_:Int
 seed:Int
structure Handed where
 Publics:(List Int)
 Inputs:(List Int)
structure Setting where
 Rate:Int
 Queries:Int
 Grind:Int
structure Ext where
 A:Int
 B:Int
structure Source where
 Script:(List Ext)
 At:Int
 State:(List UInt8)
 Count:Int
structure kw where
 Circuit:Circuit
 Publics:(List Int)
 Inputs:(List Int)
 Setting:Setting
 Source:Source
def eGate:En Gate:=⟨4,fun x=>[I x.Op,I x.A,I x.B,I x.K]⟩
def bdGate (x:Gate):Prop:=bdI x.Op∧bdI x.A∧bdI x.B∧bdI x.K
theorem Ce:eGate.esz=4:=by decide
theorem Dp (x:Gate):eGate.enc x=[I x.Op,I x.A,I x.B,I x.K]:=rfl
theorem J3 (a0 a1 a2 a3:Int) (l:List Gate):bD [I a0,I a1,I a2,I a3] (rws eGate l)=rws eGate ((⟨a0,a1,a2,a3⟩:Gate)::l):=rfl
theorem MC (a0 a1 a2 a3:Int) (l:List Gate) (i:Nat):cI (rws eGate l) i [I a0,I a1,I a2,I a3]=rws eGate (l.set i (⟨a0,a1,a2,a3⟩:Gate)):=by simp [cI,rws,eGate]
theorem Kq (x:Gate):Gate.mk x.Op x.A x.B x.K=x:=rfl
attribute [go_sem] Ce Dp J3 MC Kq
theorem G4 (m:Nat) (l:List Gate):dG true ⟨m,false,rws eGate l⟩=true:=pe (fun _=>rfl) m l
attribute [go_sem] G4
def eCircuit:En Circuit:=⟨1,fun x=>[sl eGate x.Gates]⟩
def bdCircuit (x:Circuit):Prop:=bdL bdGate x.Gates
theorem vn:eCircuit.esz=1:=by decide
theorem uT (x:Circuit):eCircuit.enc x=[sl eGate x.Gates]:=rfl
theorem xr (a0:(List Gate)) (l:List Circuit):bD [sl eGate a0] (rws eCircuit l)=rws eCircuit ((⟨a0⟩:Circuit)::l):=rfl
theorem AE (a0:(List Gate)) (l:List Circuit) (i:Nat):cI (rws eCircuit l) i [sl eGate a0]=rws eCircuit (l.set i (⟨a0⟩:Circuit)):=by simp [cI,rws,eCircuit]
theorem zT (x:Circuit):Circuit.mk x.Gates=x:=rfl
attribute [go_sem] vn uT xr AE zT
theorem tz (l:List Circuit):bD [.imm 1 []] (rws eCircuit l)=rws eCircuit ((⟨[]⟩:Circuit)::l):=rfl
attribute [go_sem] tz
def ai:En ab:=⟨3,fun x=>[I x.Row,I x.Col,I x.Value]⟩
def qV (x:ab):Prop:=bdI x.Row∧bdI x.Col∧bdI x.Value
theorem oj:ai.esz=3:=by decide
theorem nV (x:ab):ai.enc x=[I x.Row,I x.Col,I x.Value]:=rfl
theorem pm (a0 a1 a2:Int) (l:List ab):bD [I a0,I a1,I a2] (rws ai l)=rws ai ((⟨a0,a1,a2⟩:ab)::l):=rfl
theorem rv (a0 a1 a2:Int) (l:List ab) (i:Nat):cI (rws ai l) i [I a0,I a1,I a2]=rws ai (l.set i (⟨a0,a1,a2⟩:ab)):=by simp [cI,rws,ai]
theorem rA (x:ab):ab.mk x.Row x.Col x.Value=x:=rfl
attribute [go_sem] oj nV pm rv rA
theorem DP (m:Nat) (l:List ab):dG true ⟨m,false,rws ai l⟩=true:=pe (fun _=>rfl) m l
attribute [go_sem] DP
def bW:En aQ:=⟨6,fun x=>[I x.Rows,I x.Cols,I x.Publics,sl ai x.A,sl ai x.B,sl ai x.C]⟩
def RV (x:aQ):Prop:=bdI x.Rows∧bdI x.Cols∧bdI x.Publics∧bdL qV x.A∧bdL qV x.B∧bdL qV x.C
theorem xt:bW.esz=6:=by decide
theorem y0 (x:aQ):bW.enc x=[I x.Rows,I x.Cols,I x.Publics,sl ai x.A,sl ai x.B,sl ai x.C]:=rfl
theorem zo (a0 a1 a2:Int) (a3 a4 a5:(List ab)) (l:List aQ):bD [I a0,I a1,I a2,sl ai a3,sl ai a4,sl ai a5] (rws bW l)=rws bW ((⟨a0,a1,a2,a3,a4,a5⟩:aQ)::l):=rfl
theorem Cg (a0 a1 a2:Int) (a3 a4 a5:(List ab)) (l:List aQ) (i:Nat):cI (rws bW l) i [I a0,I a1,I a2,sl ai a3,sl ai a4,sl ai a5]=rws bW (l.set i (⟨a0,a1,a2,a3,a4,a5⟩:aQ)):=by simp [cI,rws,bW]
theorem E9 (x:aQ):aQ.mk x.Rows x.Cols x.Publics x.A x.B x.C=x:=rfl
attribute [go_sem] xt y0 zo Cg E9
theorem vg (a0 a1 a2:Int) (a4 a5:(List ab)) (l:List aQ):bD [I a0,I a1,I a2,.imm 1 [],sl ai a4,sl ai a5] (rws bW l)=rws bW ((⟨a0,a1,a2,[],a4,a5⟩:aQ)::l):=rfl
attribute [go_sem] vg
theorem uU (a0 a1 a2:Int) (a3 a5:(List ab)) (l:List aQ):bD [I a0,I a1,I a2,sl ai a3,.imm 1 [],sl ai a5] (rws bW l)=rws bW ((⟨a0,a1,a2,a3,[],a5⟩:aQ)::l):=rfl
attribute [go_sem] uU
theorem uM (a0 a1 a2:Int) (a5:(List ab)) (l:List aQ):bD [I a0,I a1,I a2,.imm 1 [],.imm 1 [],sl ai a5] (rws bW l)=rws bW ((⟨a0,a1,a2,[],[],a5⟩:aQ)::l):=rfl
attribute [go_sem] uM
theorem v8 (a0 a1 a2:Int) (a3 a4:(List ab)) (l:List aQ):bD [I a0,I a1,I a2,sl ai a3,sl ai a4,.imm 1 []] (rws bW l)=rws bW ((⟨a0,a1,a2,a3,a4,[]⟩:aQ)::l):=rfl
attribute [go_sem] v8
theorem uZ (a0 a1 a2:Int) (a4:(List ab)) (l:List aQ):bD [I a0,I a1,I a2,.imm 1 [],sl ai a4,.imm 1 []] (rws bW l)=rws bW ((⟨a0,a1,a2,[],a4,[]⟩:aQ)::l):=rfl
attribute [go_sem] uZ
theorem vq (a0 a1 a2:Int) (a3:(List ab)) (l:List aQ):bD [I a0,I a1,I a2,sl ai a3,.imm 1 [],.imm 1 []] (rws bW l)=rws bW ((⟨a0,a1,a2,a3,[],[]⟩:aQ)::l):=rfl
attribute [go_sem] vq
theorem vb (a0 a1 a2:Int) (l:List aQ):bD [I a0,I a1,I a2,.imm 1 [],.imm 1 [],.imm 1 []] (rws bW l)=rws bW ((⟨a0,a1,a2,[],[],[]⟩:aQ)::l):=rfl
attribute [go_sem] vb
def iA:En ib:=⟨3,fun x=>[sl eU8 x.code,I x.at_,I x.seed]⟩
def RP (x:ib):Prop:=bdL (bdT (α:=UInt8)) x.code∧bdI x.at_∧bdI x.seed
theorem xZ:iA.esz=3:=by decide
theorem xO (x:ib):iA.enc x=[sl eU8 x.code,I x.at_,I x.seed]:=rfl
theorem ze (a0:(List UInt8)) (a1 a2:Int) (l:List ib):bD [sl eU8 a0,I a1,I a2] (rws iA l)=rws iA ((⟨a0,a1,a2⟩:ib)::l):=rfl
theorem Db (a0:(List UInt8)) (a1 a2:Int) (l:List ib) (i:Nat):cI (rws iA l) i [sl eU8 a0,I a1,I a2]=rws iA (l.set i (⟨a0,a1,a2⟩:ib)):=by simp [cI,rws,iA]
theorem E6 (x:ib):ib.mk x.code x.at_ x.seed=x:=rfl
attribute [go_sem] xZ xO ze Db E6
theorem vk (a1 a2:Int) (l:List ib):bD [.imm 1 [],I a1,I a2] (rws iA l)=rws iA ((⟨[],a1,a2⟩:ib)::l):=rfl
attribute [go_sem] vk
def dU:En Handed:=⟨2,fun x=>[sl eI x.Publics,sl eI x.Inputs]⟩
def R7 (x:Handed):Prop:=bdL bdI x.Publics∧bdL bdI x.Inputs
theorem wC:dU.esz=2:=by decide
theorem wO (x:Handed):dU.enc x=[sl eI x.Publics,sl eI x.Inputs]:=rfl
theorem AH (a0 a1:(List Int)) (l:List Handed):bD [sl eI a0,sl eI a1] (rws dU l)=rws dU ((⟨a0,a1⟩:Handed)::l):=rfl
theorem CF (a0 a1:(List Int)) (l:List Handed) (i:Nat):cI (rws dU l) i [sl eI a0,sl eI a1]=rws dU (l.set i (⟨a0,a1⟩:Handed)):=by simp [cI,rws,dU]
theorem Dr (x:Handed):Handed.mk x.Publics x.Inputs=x:=rfl
attribute [go_sem] wC wO AH CF Dr
theorem vi (a1:(List Int)) (l:List Handed):bD [.imm 1 [],sl eI a1] (rws dU l)=rws dU ((⟨[],a1⟩:Handed)::l):=rfl
attribute [go_sem] vi
theorem uL (a0:(List Int)) (l:List Handed):bD [sl eI a0,.imm 1 []] (rws dU l)=rws dU ((⟨a0,[]⟩:Handed)::l):=rfl
attribute [go_sem] uL
theorem vo (l:List Handed):bD [.imm 1 [],.imm 1 []] (rws dU l)=rws dU ((⟨[],[]⟩:Handed)::l):=rfl
attribute [go_sem] vo
def i4:En Setting:=⟨3,fun x=>[I x.Rate,I x.Queries,I x.Grind]⟩
def C0 (x:Setting):Prop:=bdI x.Rate∧bdI x.Queries∧bdI x.Grind
theorem w7:i4.esz=3:=by decide
theorem wy (x:Setting):i4.enc x=[I x.Rate,I x.Queries,I x.Grind]:=rfl
theorem yu (a0 a1 a2:Int) (l:List Setting):bD [I a0,I a1,I a2] (rws i4 l)=rws i4 ((⟨a0,a1,a2⟩:Setting)::l):=rfl
theorem AC (a0 a1 a2:Int) (l:List Setting) (i:Nat):cI (rws i4 l) i [I a0,I a1,I a2]=rws i4 (l.set i (⟨a0,a1,a2⟩:Setting)):=by simp [cI,rws,i4]
theorem z7 (x:Setting):Setting.mk x.Rate x.Queries x.Grind=x:=rfl
attribute [go_sem] w7 wy yu AC z7
theorem wE (m:Nat) (l:List Setting):dG true ⟨m,false,rws i4 l⟩=true:=pe (fun _=>rfl) m l
attribute [go_sem] wE
def np:En Ext:=⟨2,fun x=>[I x.A,I x.B]⟩
def Sh (x:Ext):Prop:=bdI x.A∧bdI x.B
theorem FT:np.esz=2:=by decide
theorem GS (x:Ext):np.enc x=[I x.A,I x.B]:=rfl
theorem JA (a0 a1:Int) (l:List Ext):bD [I a0,I a1] (rws np l)=rws np ((⟨a0,a1⟩:Ext)::l):=rfl
theorem PW (a0 a1:Int) (l:List Ext) (i:Nat):cI (rws np l) i [I a0,I a1]=rws np (l.set i (⟨a0,a1⟩:Ext)):=by simp [cI,rws,np]
theorem Ni (x:Ext):Ext.mk x.A x.B=x:=rfl
attribute [go_sem] FT GS JA PW Ni
theorem KO (m:Nat) (l:List Ext):dG true ⟨m,false,rws np l⟩=true:=pe (fun _=>rfl) m l
attribute [go_sem] KO
def iC:En Source:=⟨4,fun x=>[sl np x.Script,I x.At,S x.State,I x.Count]⟩
def EB (x:Source):Prop:=bdL Sh x.Script∧bdI x.At∧bdS x.State∧bdI x.Count
theorem wW:iC.esz=4:=by decide
theorem wN (x:Source):iC.enc x=[sl np x.Script,I x.At,S x.State,I x.Count]:=rfl
theorem zD (a0:(List Ext)) (a1:Int) (a2:(List UInt8)) (a3:Int) (l:List Source):bD [sl np a0,I a1,S a2,I a3] (rws iC l)=rws iC ((⟨a0,a1,a2,a3⟩:Source)::l):=rfl
theorem DW (a0:(List Ext)) (a1:Int) (a2:(List UInt8)) (a3:Int) (l:List Source) (i:Nat):cI (rws iC l) i [sl np a0,I a1,S a2,I a3]=rws iC (l.set i (⟨a0,a1,a2,a3⟩:Source)):=by simp [cI,rws,iC]
theorem D7 (x:Source):Source.mk x.Script x.At x.State x.Count=x:=rfl
attribute [go_sem] wW wN zD DW D7
theorem wi (a1:Int) (a2:(List UInt8)) (a3:Int) (l:List Source):bD [.imm 1 [],I a1,S a2,I a3] (rws iC l)=rws iC ((⟨[],a1,a2,a3⟩:Source)::l):=rfl
attribute [go_sem] wi
def kS:En kw:=⟨10,fun x=>[sl eGate x.Circuit.Gates,sl eI x.Publics,sl eI x.Inputs,I x.Setting.Rate,I x.Setting.Queries,I x.Setting.Grind,sl np x.Source.Script,I x.Source.At,S x.Source.State,I x.Source.Count]⟩
def RD (x:kw):Prop:=bdCircuit x.Circuit∧bdL bdI x.Publics∧bdL bdI x.Inputs∧C0 x.Setting∧EB x.Source
theorem wS:kS.esz=10:=by decide
theorem yj (x:kw):kS.enc x=[sl eGate x.Circuit.Gates,sl eI x.Publics,sl eI x.Inputs,I x.Setting.Rate,I x.Setting.Queries,I x.Setting.Grind,sl np x.Source.Script,I x.Source.At,S x.Source.State,I x.Source.Count]:=rfl
theorem AX (a0:(List Gate)) (a1 a2:(List Int)) (a3 a4 a5:Int) (a6:(List Ext)) (a7:Int) (a8:(List UInt8)) (a9:Int) (l:List kw):bD [sl eGate a0,sl eI a1,sl eI a2,I a3,I a4,I a5,sl np a6,I a7,S a8,I a9] (rws kS l)=rws kS ((⟨⟨a0⟩,a1,a2,⟨a3,a4,a5⟩,⟨a6,a7,a8,a9⟩⟩:kw)::l):=rfl
theorem Cb (a0:(List Gate)) (a1 a2:(List Int)) (a3 a4 a5:Int) (a6:(List Ext)) (a7:Int) (a8:(List UInt8)) (a9:Int) (l:List kw) (i:Nat):cI (rws kS l) i [sl eGate a0,sl eI a1,sl eI a2,I a3,I a4,I a5,sl np a6,I a7,S a8,I a9]=rws kS (l.set i (⟨⟨a0⟩,a1,a2,⟨a3,a4,a5⟩,⟨a6,a7,a8,a9⟩⟩:kw)):=by simp [cI,rws,kS]
theorem Dw (x:kw):kw.mk x.Circuit x.Publics x.Inputs x.Setting x.Source=x:=rfl
attribute [go_sem] wS yj AX Cb Dw
end Go.AI.Fn
