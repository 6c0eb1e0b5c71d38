/- Structs. -/
import Derived.Test.YtgjlndaebhaciaaTb1
import Derived.Test.YtgjlndaebhaciaaAiTop3
import Derived.Test.YtgjlndaebhaciaaAiAdd
import Derived.Test.YtgjlndaebhaciaaAiEntX
namespace Go.AI.Fn
structure ab where
 Op:Int
 A:Int
 B:Int
 K:Int
structure Circuit where
 Gates:(List ab)
structure ah where
 Row:Int
 Col:Int
 Value:Int
structure aX where
 Rows:Int
 Cols:Int
 Publics:Int
 A:(List ah)
 B:(List ah)
 C:(List ah)
structure aA where
 code:(List UInt8)
 at_:Int
 seed:Int
structure Handed where
 Publics:(List Int)
 Inputs:(List Int)
structure Setting where
 Rate:Int
 Queries:Int
 Grind:Int
structure Ext where
 A:Int
 B:Int
structure Source where
 Script:(List Ext)
 At:Int
 State:(List UInt8)
 Count:Int
structure nw where
 Circuit:Circuit
 Publics:(List Int)
 Inputs:(List Int)
 Setting:Setting
 Source:Source
def aY:En ab:=⟨4,fun x=>[I x.Op,I x.A,I x.B,I x.K]⟩
def ZE (x:ab):Prop:=bdI x.Op∧bdI x.A∧bdI x.B∧bdI x.K
theorem Ln:aY.esz=4:=by decide
theorem KD (x:ab):aY.enc x=[I x.Op,I x.A,I x.B,I x.K]:=rfl
theorem Pp (a0 a1 a2 a3:Int) (l:List ab):cA [I a0,I a1,I a2,I a3] (rws aY l)=rws aY ((⟨a0,a1,a2,a3⟩:ab)::l):=rfl
theorem TM (a0 a1 a2 a3:Int) (l:List ab) (i:Nat):eo (rws aY l) i [I a0,I a1,I a2,I a3]=rws aY (l.set i (⟨a0,a1,a2,a3⟩:ab)):=by simp [eo,rws,aY]
theorem Vc (x:ab):ab.mk x.Op x.A x.B x.K=x:=rfl
attribute [go_sem] Ln KD Pp TM Vc
def jg:En Circuit:=⟨1,fun x=>[sl aY x.Gates]⟩
def K1 (x:Circuit):Prop:=bdL ZE x.Gates
theorem Cs:jg.esz=1:=by decide
theorem BY (x:Circuit):jg.enc x=[sl aY x.Gates]:=rfl
theorem Gg (a0:(List ab)) (l:List Circuit):cA [sl aY a0] (rws jg l)=rws jg ((⟨a0⟩:Circuit)::l):=rfl
theorem HP (a0:(List ab)) (l:List Circuit) (i:Nat):eo (rws jg l) i [sl aY a0]=rws jg (l.set i (⟨a0⟩:Circuit)):=by simp [eo,rws,jg]
theorem GY (x:Circuit):Circuit.mk x.Gates=x:=rfl
attribute [go_sem] Cs BY Gg HP GY
theorem AT (l:List Circuit):cA [.imm 1 []] (rws jg l)=rws jg ((⟨[]⟩:Circuit)::l):=rfl
attribute [go_sem] AT
def aw:En ah:=⟨3,fun x=>[I x.Row,I x.Col,I x.Value]⟩
def yd (x:ah):Prop:=bdI x.Row∧bdI x.Col∧bdI x.Value
theorem uQ:aw.esz=3:=by decide
theorem uJ (x:ah):aw.enc x=[I x.Row,I x.Col,I x.Value]:=rfl
theorem wB (a0 a1 a2:Int) (l:List ah):cA [I a0,I a1,I a2] (rws aw l)=rws aw ((⟨a0,a1,a2⟩:ah)::l):=rfl
theorem yX (a0 a1 a2:Int) (l:List ah) (i:Nat):eo (rws aw l) i [I a0,I a1,I a2]=rws aw (l.set i (⟨a0,a1,a2⟩:ah)):=by simp [eo,rws,aw]
theorem yO (x:ah):ah.mk x.Row x.Col x.Value=x:=rfl
attribute [go_sem] uQ uJ wB yX yO
def db:En aX:=⟨6,fun x=>[I x.Rows,I x.Cols,I x.Publics,sl aw x.A,sl aw x.B,sl aw x.C]⟩
def a1M (x:aX):Prop:=bdI x.Rows∧bdI x.Cols∧bdI x.Publics∧bdL yd x.A∧bdL yd x.B∧bdL yd x.C
theorem Fv:db.esz=6:=by decide
theorem Et (x:aX):db.enc x=[I x.Rows,I x.Cols,I x.Publics,sl aw x.A,sl aw x.B,sl aw x.C]:=rfl
theorem HD (a0 a1 a2:Int) (a3 a4 a5:(List ah)) (l:List aX):cA [I a0,I a1,I a2,sl aw a3,sl aw a4,sl aw a5] (rws db l)=rws db ((⟨a0,a1,a2,a3,a4,a5⟩:aX)::l):=rfl
theorem Ki (a0 a1 a2:Int) (a3 a4 a5:(List ah)) (l:List aX) (i:Nat):eo (rws db l) i [I a0,I a1,I a2,sl aw a3,sl aw a4,sl aw a5]=rws db (l.set i (⟨a0,a1,a2,a3,a4,a5⟩:aX)):=by simp [eo,rws,db]
theorem Ml (x:aX):aX.mk x.Rows x.Cols x.Publics x.A x.B x.C=x:=rfl
attribute [go_sem] Fv Et HD Ki Ml
theorem Di (a0 a1 a2:Int) (a4 a5:(List ah)) (l:List aX):cA [I a0,I a1,I a2,.imm 1 [],sl aw a4,sl aw a5] (rws db l)=rws db ((⟨a0,a1,a2,[],a4,a5⟩:aX)::l):=rfl
attribute [go_sem] Di
theorem CT (a0 a1 a2:Int) (a3 a5:(List ah)) (l:List aX):cA [I a0,I a1,I a2,sl aw a3,.imm 1 [],sl aw a5] (rws db l)=rws db ((⟨a0,a1,a2,a3,[],a5⟩:aX)::l):=rfl
attribute [go_sem] CT
theorem Cp (a0 a1 a2:Int) (a5:(List ah)) (l:List aX):cA [I a0,I a1,I a2,.imm 1 [],.imm 1 [],sl aw a5] (rws db l)=rws db ((⟨a0,a1,a2,[],[],a5⟩:aX)::l):=rfl
attribute [go_sem] Cp
theorem CJ (a0 a1 a2:Int) (a3 a4:(List ah)) (l:List aX):cA [I a0,I a1,I a2,sl aw a3,sl aw a4,.imm 1 []] (rws db l)=rws db ((⟨a0,a1,a2,a3,a4,[]⟩:aX)::l):=rfl
attribute [go_sem] CJ
theorem Dl (a0 a1 a2:Int) (a4:(List ah)) (l:List aX):cA [I a0,I a1,I a2,.imm 1 [],sl aw a4,.imm 1 []] (rws db l)=rws db ((⟨a0,a1,a2,[],a4,[]⟩:aX)::l):=rfl
attribute [go_sem] Dl
theorem Dh (a0 a1 a2:Int) (a3:(List ah)) (l:List aX):cA [I a0,I a1,I a2,sl aw a3,.imm 1 [],.imm 1 []] (rws db l)=rws db ((⟨a0,a1,a2,a3,[],[]⟩:aX)::l):=rfl
attribute [go_sem] Dh
theorem Cx (a0 a1 a2:Int) (l:List aX):cA [I a0,I a1,I a2,.imm 1 [],.imm 1 [],.imm 1 []] (rws db l)=rws db ((⟨a0,a1,a2,[],[],[]⟩:aX)::l):=rfl
attribute [go_sem] Cx
def mz:En aA:=⟨3,fun x=>[sl eU8 x.code,I x.at_,I x.seed]⟩
def a0i (x:aA):Prop:=bdL (bdT (α:=UInt8)) x.code∧bdI x.at_∧bdI x.seed
theorem Eb:mz.esz=3:=by decide
theorem DZ (x:aA):mz.enc x=[sl eU8 x.code,I x.at_,I x.seed]:=rfl
theorem Hi (a0:(List UInt8)) (a1 a2:Int) (l:List aA):cA [sl eU8 a0,I a1,I a2] (rws mz l)=rws mz ((⟨a0,a1,a2⟩:aA)::l):=rfl
theorem LX (a0:(List UInt8)) (a1 a2:Int) (l:List aA) (i:Nat):eo (rws mz l) i [sl eU8 a0,I a1,I a2]=rws mz (l.set i (⟨a0,a1,a2⟩:aA)):=by simp [eo,rws,mz]
theorem Mn (x:aA):aA.mk x.code x.at_ x.seed=x:=rfl
attribute [go_sem] Eb DZ Hi LX Mn
theorem Cf (a1 a2:Int) (l:List aA):cA [.imm 1 [],I a1,I a2] (rws mz l)=rws mz ((⟨[],a1,a2⟩:aA)::l):=rfl
attribute [go_sem] Cf
def hU:En Handed:=⟨2,fun x=>[sl eI x.Publics,sl eI x.Inputs]⟩
def a0y (x:Handed):Prop:=bdL bdI x.Publics∧bdL bdI x.Inputs
theorem FZ:hU.esz=2:=by decide
theorem Fc (x:Handed):hU.enc x=[sl eI x.Publics,sl eI x.Inputs]:=rfl
theorem Ic (a0 a1:(List Int)) (l:List Handed):cA [sl eI a0,sl eI a1] (rws hU l)=rws hU ((⟨a0,a1⟩:Handed)::l):=rfl
theorem L3 (a0 a1:(List Int)) (l:List Handed) (i:Nat):eo (rws hU l) i [sl eI a0,sl eI a1]=rws hU (l.set i (⟨a0,a1⟩:Handed)):=by simp [eo,rws,hU]
theorem Lm (x:Handed):Handed.mk x.Publics x.Inputs=x:=rfl
attribute [go_sem] FZ Fc Ic L3 Lm
theorem D3 (a1:(List Int)) (l:List Handed):cA [.imm 1 [],sl eI a1] (rws hU l)=rws hU ((⟨[],a1⟩:Handed)::l):=rfl
attribute [go_sem] D3
theorem CO (a0:(List Int)) (l:List Handed):cA [sl eI a0,.imm 1 []] (rws hU l)=rws hU ((⟨a0,[]⟩:Handed)::l):=rfl
attribute [go_sem] CO
theorem C8 (l:List Handed):cA [.imm 1 [],.imm 1 []] (rws hU l)=rws hU ((⟨[],[]⟩:Handed)::l):=rfl
attribute [go_sem] C8
def nF:En Setting:=⟨3,fun x=>[I x.Rate,I x.Queries,I x.Grind]⟩
def La (x:Setting):Prop:=bdI x.Rate∧bdI x.Queries∧bdI x.Grind
theorem C5:nF.esz=3:=by decide
theorem DP (x:Setting):nF.enc x=[I x.Rate,I x.Queries,I x.Grind]:=rfl
theorem Gp (a0 a1 a2:Int) (l:List Setting):cA [I a0,I a1,I a2] (rws nF l)=rws nF ((⟨a0,a1,a2⟩:Setting)::l):=rfl
theorem Iy (a0 a1 a2:Int) (l:List Setting) (i:Nat):eo (rws nF l) i [I a0,I a1,I a2]=rws nF (l.set i (⟨a0,a1,a2⟩:Setting)):=by simp [eo,rws,nF]
theorem Ho (x:Setting):Setting.mk x.Rate x.Queries x.Grind=x:=rfl
attribute [go_sem] C5 DP Gp Iy Ho
def gy:En Ext:=⟨2,fun x=>[I x.A,I x.B]⟩
def a1Q (x:Ext):Prop:=bdI x.A∧bdI x.B
theorem MQ:gy.esz=2:=by decide
theorem Qy (x:Ext):gy.enc x=[I x.A,I x.B]:=rfl
theorem Te (a0 a1:Int) (l:List Ext):cA [I a0,I a1] (rws gy l)=rws gy ((⟨a0,a1⟩:Ext)::l):=rfl
theorem Yn (a0 a1:Int) (l:List Ext) (i:Nat):eo (rws gy l) i [I a0,I a1]=rws gy (l.set i (⟨a0,a1⟩:Ext)):=by simp [eo,rws,gy]
theorem WE (x:Ext):Ext.mk x.A x.B=x:=rfl
attribute [go_sem] MQ Qy Te Yn WE
def mE:En Source:=⟨4,fun x=>[sl gy x.Script,I x.At,S x.State,I x.Count]⟩
def Nu (x:Source):Prop:=bdL a1Q x.Script∧bdI x.At∧bdS x.State∧bdI x.Count
theorem FX:mE.esz=4:=by decide
theorem G1 (x:Source):mE.enc x=[sl gy x.Script,I x.At,S x.State,I x.Count]:=rfl
theorem Hc (a0:(List Ext)) (a1:Int) (a2:(List UInt8)) (a3:Int) (l:List Source):cA [sl gy a0,I a1,S a2,I a3] (rws mE l)=rws mE ((⟨a0,a1,a2,a3⟩:Source)::l):=rfl
theorem Kh (a0:(List Ext)) (a1:Int) (a2:(List UInt8)) (a3:Int) (l:List Source) (i:Nat):eo (rws mE l) i [sl gy a0,I a1,S a2,I a3]=rws mE (l.set i (⟨a0,a1,a2,a3⟩:Source)):=by simp [eo,rws,mE]
theorem Ly (x:Source):Source.mk x.Script x.At x.State x.Count=x:=rfl
attribute [go_sem] FX G1 Hc Kh Ly
theorem Dz (a1:Int) (a2:(List UInt8)) (a3:Int) (l:List Source):cA [.imm 1 [],I a1,S a2,I a3] (rws mE l)=rws mE ((⟨[],a1,a2,a3⟩:Source)::l):=rfl
attribute [go_sem] Dz
def qf:En nw:=⟨10,fun x=>[sl aY x.Circuit.Gates,sl eI x.Publics,sl eI x.Inputs,I x.Setting.Rate,I x.Setting.Queries,I x.Setting.Grind,sl gy x.Source.Script,I x.Source.At,S x.Source.State,I x.Source.Count]⟩
def a1h (x:nw):Prop:=K1 x.Circuit∧bdL bdI x.Publics∧bdL bdI x.Inputs∧La x.Setting∧Nu x.Source
theorem FK:qf.esz=10:=by decide
theorem E8 (x:nw):qf.enc x=[sl aY x.Circuit.Gates,sl eI x.Publics,sl eI x.Inputs,I x.Setting.Rate,I x.Setting.Queries,I x.Setting.Grind,sl gy x.Source.Script,I x.Source.At,S x.Source.State,I x.Source.Count]:=rfl
theorem Hj (a0:(List ab)) (a1 a2:(List Int)) (a3 a4 a5:Int) (a6:(List Ext)) (a7:Int) (a8:(List UInt8)) (a9:Int) (l:List nw):cA [sl aY a0,sl eI a1,sl eI a2,I a3,I a4,I a5,sl gy a6,I a7,S a8,I a9] (rws qf l)=rws qf ((⟨⟨a0⟩,a1,a2,⟨a3,a4,a5⟩,⟨a6,a7,a8,a9⟩⟩:nw)::l):=rfl
theorem Lh (a0:(List ab)) (a1 a2:(List Int)) (a3 a4 a5:Int) (a6:(List Ext)) (a7:Int) (a8:(List UInt8)) (a9:Int) (l:List nw) (i:Nat):eo (rws qf l) i [sl aY a0,sl eI a1,sl eI a2,I a3,I a4,I a5,sl gy a6,I a7,S a8,I a9]=rws qf (l.set i (⟨⟨a0⟩,a1,a2,⟨a3,a4,a5⟩,⟨a6,a7,a8,a9⟩⟩:nw)):=by simp [eo,rws,qf]
theorem KX (x:nw):nw.mk x.Circuit x.Publics x.Inputs x.Setting x.Source=x:=rfl
attribute [go_sem] FK E8 Hj Lh KX
end Go.AI.Fn
