/- Structs. -/
import Derived.Test.YtgjlndaebhaciaaTb1
import Derived.Test.YtgjlndaebhaciaaAiTop3
import Derived.Test.YtgjlndaebhaciaaAiAdd
import Derived.Test.YtgjlndaebhaciaaAiEntX
namespace Go.AI.Fn
structure Gate where
 Op:Int
 A:Int
 B:Int
 K:Int
structure Circuit where
 Gates:(List Gate)
structure ab where
 Row:Int
 Col:Int
 Value:Int
structure aQ where
 Rows:Int
 Cols:Int
 Publics:Int
 A:(List ab)
 B:(List ab)
 C:(List ab)
structure ia where
 code:(List UInt8)
 at_:Int
 seed:Int
structure Handed where
 Publics:(List Int)
 Inputs:(List Int)
structure Setting where
 Rate:Int
 Queries:Int
 Grind:Int
structure Ext where
 A:Int
 B:Int
structure Source where
 Script:(List Ext)
 At:Int
 State:(List UInt8)
 Count:Int
structure kE where
 Circuit:Circuit
 Publics:(List Int)
 Inputs:(List Int)
 Setting:Setting
 Source:Source
def eGate:En Gate:=⟨4,fun x=>[I x.Op,I x.A,I x.B,I x.K]⟩
def bdGate (x:Gate):Prop:=bdI x.Op∧bdI x.A∧bdI x.B∧bdI x.K
theorem DN:eGate.esz=4:=by decide
theorem Dm (x:Gate):eGate.enc x=[I x.Op,I x.A,I x.B,I x.K]:=rfl
theorem H9 (a0 a1 a2 a3:Int) (l:List Gate):bD [I a0,I a1,I a2,I a3] (rws eGate l)=rws eGate ((⟨a0,a1,a2,a3⟩:Gate)::l):=rfl
theorem Lh (a0 a1 a2 a3:Int) (l:List Gate) (i:Nat):cI (rws eGate l) i [I a0,I a1,I a2,I a3]=rws eGate (l.set i (⟨a0,a1,a2,a3⟩:Gate)):=by simp [cI,rws,eGate]
theorem Jb (x:Gate):Gate.mk x.Op x.A x.B x.K=x:=rfl
attribute [go_sem] DN Dm H9 Lh Jb
theorem GP (m:Nat) (l:List Gate):dH true ⟨m,false,rws eGate l⟩=true:=oN (fun _=>rfl) m l
attribute [go_sem] GP
def eCircuit:En Circuit:=⟨1,fun x=>[sl eGate x.Gates]⟩
def bdCircuit (x:Circuit):Prop:=bdL bdGate x.Gates
theorem v6:eCircuit.esz=1:=by decide
theorem vT (x:Circuit):eCircuit.enc x=[sl eGate x.Gates]:=rfl
theorem xa (a0:(List Gate)) (l:List Circuit):bD [sl eGate a0] (rws eCircuit l)=rws eCircuit ((⟨a0⟩:Circuit)::l):=rfl
theorem zl (a0:(List Gate)) (l:List Circuit) (i:Nat):cI (rws eCircuit l) i [sl eGate a0]=rws eCircuit (l.set i (⟨a0⟩:Circuit)):=by simp [cI,rws,eCircuit]
theorem Az (x:Circuit):Circuit.mk x.Gates=x:=rfl
attribute [go_sem] v6 vT xa zl Az
theorem tI (l:List Circuit):bD [.imm 1 []] (rws eCircuit l)=rws eCircuit ((⟨[]⟩:Circuit)::l):=rfl
attribute [go_sem] tI
def ai:En ab:=⟨3,fun x=>[I x.Row,I x.Col,I x.Value]⟩
def ra (x:ab):Prop:=bdI x.Row∧bdI x.Col∧bdI x.Value
theorem ob:ai.esz=3:=by decide
theorem nX (x:ab):ai.enc x=[I x.Row,I x.Col,I x.Value]:=rfl
theorem pI (a0 a1 a2:Int) (l:List ab):bD [I a0,I a1,I a2] (rws ai l)=rws ai ((⟨a0,a1,a2⟩:ab)::l):=rfl
theorem sc (a0 a1 a2:Int) (l:List ab) (i:Nat):cI (rws ai l) i [I a0,I a1,I a2]=rws ai (l.set i (⟨a0,a1,a2⟩:ab)):=by simp [cI,rws,ai]
theorem rT (x:ab):ab.mk x.Row x.Col x.Value=x:=rfl
attribute [go_sem] ob nX pI sc rT
theorem DH (m:Nat) (l:List ab):dH true ⟨m,false,rws ai l⟩=true:=oN (fun _=>rfl) m l
attribute [go_sem] DH
def bX:En aQ:=⟨6,fun x=>[I x.Rows,I x.Cols,I x.Publics,sl ai x.A,sl ai x.B,sl ai x.C]⟩
def RK (x:aQ):Prop:=bdI x.Rows∧bdI x.Cols∧bdI x.Publics∧bdL ra x.A∧bdL ra x.B∧bdL ra x.C
theorem xd:bX.esz=6:=by decide
theorem yp (x:aQ):bX.enc x=[I x.Rows,I x.Cols,I x.Publics,sl ai x.A,sl ai x.B,sl ai x.C]:=rfl
theorem AJ (a0 a1 a2:Int) (a3 a4 a5:(List ab)) (l:List aQ):bD [I a0,I a1,I a2,sl ai a3,sl ai a4,sl ai a5] (rws bX l)=rws bX ((⟨a0,a1,a2,a3,a4,a5⟩:aQ)::l):=rfl
theorem DY (a0 a1 a2:Int) (a3 a4 a5:(List ab)) (l:List aQ) (i:Nat):cI (rws bX l) i [I a0,I a1,I a2,sl ai a3,sl ai a4,sl ai a5]=rws bX (l.set i (⟨a0,a1,a2,a3,a4,a5⟩:aQ)):=by simp [cI,rws,bX]
theorem Db (x:aQ):aQ.mk x.Rows x.Cols x.Publics x.A x.B x.C=x:=rfl
attribute [go_sem] xd yp AJ DY Db
theorem wl (a0 a1 a2:Int) (a4 a5:(List ab)) (l:List aQ):bD [I a0,I a1,I a2,.imm 1 [],sl ai a4,sl ai a5] (rws bX l)=rws bX ((⟨a0,a1,a2,[],a4,a5⟩:aQ)::l):=rfl
attribute [go_sem] wl
theorem ve (a0 a1 a2:Int) (a3 a5:(List ab)) (l:List aQ):bD [I a0,I a1,I a2,sl ai a3,.imm 1 [],sl ai a5] (rws bX l)=rws bX ((⟨a0,a1,a2,a3,[],a5⟩:aQ)::l):=rfl
attribute [go_sem] ve
theorem uK (a0 a1 a2:Int) (a5:(List ab)) (l:List aQ):bD [I a0,I a1,I a2,.imm 1 [],.imm 1 [],sl ai a5] (rws bX l)=rws bX ((⟨a0,a1,a2,[],[],a5⟩:aQ)::l):=rfl
attribute [go_sem] uK
theorem we (a0 a1 a2:Int) (a3 a4:(List ab)) (l:List aQ):bD [I a0,I a1,I a2,sl ai a3,sl ai a4,.imm 1 []] (rws bX l)=rws bX ((⟨a0,a1,a2,a3,a4,[]⟩:aQ)::l):=rfl
attribute [go_sem] we
theorem uL (a0 a1 a2:Int) (a4:(List ab)) (l:List aQ):bD [I a0,I a1,I a2,.imm 1 [],sl ai a4,.imm 1 []] (rws bX l)=rws bX ((⟨a0,a1,a2,[],a4,[]⟩:aQ)::l):=rfl
attribute [go_sem] uL
theorem w5 (a0 a1 a2:Int) (a3:(List ab)) (l:List aQ):bD [I a0,I a1,I a2,sl ai a3,.imm 1 [],.imm 1 []] (rws bX l)=rws bX ((⟨a0,a1,a2,a3,[],[]⟩:aQ)::l):=rfl
attribute [go_sem] w5
theorem vg (a0 a1 a2:Int) (l:List aQ):bD [I a0,I a1,I a2,.imm 1 [],.imm 1 [],.imm 1 []] (rws bX l)=rws bX ((⟨a0,a1,a2,[],[],[]⟩:aQ)::l):=rfl
attribute [go_sem] vg
def iq:En ia:=⟨3,fun x=>[sl eU8 x.code,I x.at_,I x.seed]⟩
def QV (x:ia):Prop:=bdL (bdT (α:=UInt8)) x.code∧bdI x.at_∧bdI x.seed
theorem wP:iq.esz=3:=by decide
theorem yC (x:ia):iq.enc x=[sl eU8 x.code,I x.at_,I x.seed]:=rfl
theorem Au (a0:(List UInt8)) (a1 a2:Int) (l:List ia):bD [sl eU8 a0,I a1,I a2] (rws iq l)=rws iq ((⟨a0,a1,a2⟩:ia)::l):=rfl
theorem BH (a0:(List UInt8)) (a1 a2:Int) (l:List ia) (i:Nat):cI (rws iq l) i [sl eU8 a0,I a1,I a2]=rws iq (l.set i (⟨a0,a1,a2⟩:ia)):=by simp [cI,rws,iq]
theorem BP (x:ia):ia.mk x.code x.at_ x.seed=x:=rfl
attribute [go_sem] wP yC Au BH BP
theorem uG (a1 a2:Int) (l:List ia):bD [.imm 1 [],I a1,I a2] (rws iq l)=rws iq ((⟨[],a1,a2⟩:ia)::l):=rfl
attribute [go_sem] uG
def ec:En Handed:=⟨2,fun x=>[sl eI x.Publics,sl eI x.Inputs]⟩
def Sf (x:Handed):Prop:=bdL bdI x.Publics∧bdL bdI x.Inputs
theorem yr:ec.esz=2:=by decide
theorem xq (x:Handed):ec.enc x=[sl eI x.Publics,sl eI x.Inputs]:=rfl
theorem As (a0 a1:(List Int)) (l:List Handed):bD [sl eI a0,sl eI a1] (rws ec l)=rws ec ((⟨a0,a1⟩:Handed)::l):=rfl
theorem Ds (a0 a1:(List Int)) (l:List Handed) (i:Nat):cI (rws ec l) i [sl eI a0,sl eI a1]=rws ec (l.set i (⟨a0,a1⟩:Handed)):=by simp [cI,rws,ec]
theorem Cq (x:Handed):Handed.mk x.Publics x.Inputs=x:=rfl
attribute [go_sem] yr xq As Ds Cq
theorem vn (a1:(List Int)) (l:List Handed):bD [.imm 1 [],sl eI a1] (rws ec l)=rws ec ((⟨[],a1⟩:Handed)::l):=rfl
attribute [go_sem] vn
theorem vq (a0:(List Int)) (l:List Handed):bD [sl eI a0,.imm 1 []] (rws ec l)=rws ec ((⟨a0,[]⟩:Handed)::l):=rfl
attribute [go_sem] vq
theorem uO (l:List Handed):bD [.imm 1 [],.imm 1 []] (rws ec l)=rws ec ((⟨[],[]⟩:Handed)::l):=rfl
attribute [go_sem] uO
def hP:En Setting:=⟨3,fun x=>[I x.Rate,I x.Queries,I x.Grind]⟩
def BX (x:Setting):Prop:=bdI x.Rate∧bdI x.Queries∧bdI x.Grind
theorem vM:hP.esz=3:=by decide
theorem vZ (x:Setting):hP.enc x=[I x.Rate,I x.Queries,I x.Grind]:=rfl
theorem wC (a0 a1 a2:Int) (l:List Setting):bD [I a0,I a1,I a2] (rws hP l)=rws hP ((⟨a0,a1,a2⟩:Setting)::l):=rfl
theorem AC (a0 a1 a2:Int) (l:List Setting) (i:Nat):cI (rws hP l) i [I a0,I a1,I a2]=rws hP (l.set i (⟨a0,a1,a2⟩:Setting)):=by simp [cI,rws,hP]
theorem z6 (x:Setting):Setting.mk x.Rate x.Queries x.Grind=x:=rfl
attribute [go_sem] vM vZ wC AC z6
theorem yQ (m:Nat) (l:List Setting):dH true ⟨m,false,rws hP l⟩=true:=oN (fun _=>rfl) m l
attribute [go_sem] yQ
def nq:En Ext:=⟨2,fun x=>[I x.A,I x.B]⟩
def Rk (x:Ext):Prop:=bdI x.A∧bdI x.B
theorem HY:nq.esz=2:=by decide
theorem Gb (x:Ext):nq.enc x=[I x.A,I x.B]:=rfl
theorem L0 (a0 a1:Int) (l:List Ext):bD [I a0,I a1] (rws nq l)=rws nq ((⟨a0,a1⟩:Ext)::l):=rfl
theorem Nq (a0 a1:Int) (l:List Ext) (i:Nat):cI (rws nq l) i [I a0,I a1]=rws nq (l.set i (⟨a0,a1⟩:Ext)):=by simp [cI,rws,nq]
theorem NS (x:Ext):Ext.mk x.A x.B=x:=rfl
attribute [go_sem] HY Gb L0 Nq NS
theorem MF (m:Nat) (l:List Ext):dH true ⟨m,false,rws nq l⟩=true:=oN (fun _=>rfl) m l
attribute [go_sem] MF
def iz:En Source:=⟨4,fun x=>[sl nq x.Script,I x.At,S x.State,I x.Count]⟩
def G5 (x:Source):Prop:=bdL Rk x.Script∧bdI x.At∧bdS x.State∧bdI x.Count
theorem yO:iz.esz=4:=by decide
theorem xv (x:Source):iz.enc x=[sl nq x.Script,I x.At,S x.State,I x.Count]:=rfl
theorem zI (a0:(List Ext)) (a1:Int) (a2:(List UInt8)) (a3:Int) (l:List Source):bD [sl nq a0,I a1,S a2,I a3] (rws iz l)=rws iz ((⟨a0,a1,a2,a3⟩:Source)::l):=rfl
theorem E2 (a0:(List Ext)) (a1:Int) (a2:(List UInt8)) (a3:Int) (l:List Source) (i:Nat):cI (rws iz l) i [sl nq a0,I a1,S a2,I a3]=rws iz (l.set i (⟨a0,a1,a2,a3⟩:Source)):=by simp [cI,rws,iz]
theorem CI (x:Source):Source.mk x.Script x.At x.State x.Count=x:=rfl
attribute [go_sem] yO xv zI E2 CI
theorem vL (a1:Int) (a2:(List UInt8)) (a3:Int) (l:List Source):bD [.imm 1 [],I a1,S a2,I a3] (rws iz l)=rws iz ((⟨[],a1,a2,a3⟩:Source)::l):=rfl
attribute [go_sem] vL
def kK:En kE:=⟨10,fun x=>[sl eGate x.Circuit.Gates,sl eI x.Publics,sl eI x.Inputs,I x.Setting.Rate,I x.Setting.Queries,I x.Setting.Grind,sl nq x.Source.Script,I x.Source.At,S x.Source.State,I x.Source.Count]⟩
def Rp (x:kE):Prop:=bdCircuit x.Circuit∧bdL bdI x.Publics∧bdL bdI x.Inputs∧BX x.Setting∧G5 x.Source
theorem yq:kK.esz=10:=by decide
theorem yS (x:kE):kK.enc x=[sl eGate x.Circuit.Gates,sl eI x.Publics,sl eI x.Inputs,I x.Setting.Rate,I x.Setting.Queries,I x.Setting.Grind,sl nq x.Source.Script,I x.Source.At,S x.Source.State,I x.Source.Count]:=rfl
theorem A7 (a0:(List Gate)) (a1 a2:(List Int)) (a3 a4 a5:Int) (a6:(List Ext)) (a7:Int) (a8:(List UInt8)) (a9:Int) (l:List kE):bD [sl eGate a0,sl eI a1,sl eI a2,I a3,I a4,I a5,sl nq a6,I a7,S a8,I a9] (rws kK l)=rws kK ((⟨⟨a0⟩,a1,a2,⟨a3,a4,a5⟩,⟨a6,a7,a8,a9⟩⟩:kE)::l):=rfl
theorem Ef (a0:(List Gate)) (a1 a2:(List Int)) (a3 a4 a5:Int) (a6:(List Ext)) (a7:Int) (a8:(List UInt8)) (a9:Int) (l:List kE) (i:Nat):cI (rws kK l) i [sl eGate a0,sl eI a1,sl eI a2,I a3,I a4,I a5,sl nq a6,I a7,S a8,I a9]=rws kK (l.set i (⟨⟨a0⟩,a1,a2,⟨a3,a4,a5⟩,⟨a6,a7,a8,a9⟩⟩:kE)):=by simp [cI,rws,kK]
theorem D7 (x:kE):kE.mk x.Circuit x.Publics x.Inputs x.Setting x.Source=x:=rfl
attribute [go_sem] yq yS A7 Ef D7
end Go.AI.Fn
