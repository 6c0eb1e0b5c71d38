/- Structs. -/
import Derived.Test.YtdmhkkcihecndaaTb1
import Derived.Test.YtdmhkkcihecndaaAiTop3
import Derived.Test.YtdmhkkcihecndaaAiAdd
namespace Go.AI.Fn
structure Ext where
 A:Int
 B:Int
structure fV where
 code:(List UInt8)
 at_:Int
 seed:Int
structure bD where
 Rate:Int
 Queries:Int
 Grind:Int
structure dc where
 Pairs:(List Ext)
 Paths:(List (List (List UInt8)))
structure aN where
 Rounds:(List (List Ext))
 Roots:(List (List UInt8))
 Last:Ext
 Nonce:Int
 Queries:(List dc)
structure iy where
 t:(List UInt8)
 ok:Bool
structure bR where
 b:(List UInt8)
structure Entry where
 Row:Int
 Col:Int
 Value:Int
structure System where
 Rows:Int
 Cols:Int
 Publics:Int
 A:(List Entry)
 B:(List Entry)
 C:(List Entry)
structure Source where
 Script:(List Ext)
 At:Int
 State:(List UInt8)
 Count:Int
def eExt:En Ext:=⟨2,fun x=>[I x.A,I x.B]⟩
def bdExt (x:Ext):Prop:=bdI x.A∧bdI x.B
theorem ER:eExt.esz=2:=by decide
theorem CX (x:Ext):eExt.enc x=[I x.A,I x.B]:=rfl
theorem Ih (a0 a1:Int) (l:List Ext):b6 [I a0,I a1] (rws eExt l)=rws eExt ((⟨a0,a1⟩:Ext)::l):=rfl
theorem M3 (a0 a1:Int) (l:List Ext) (i:Nat):cG (rws eExt l) i [I a0,I a1]=rws eExt (l.set i (⟨a0,a1⟩:Ext)):=by simp [cG,rws,eExt]
theorem LM (x:Ext):Ext.mk x.A x.B=x:=rfl
attribute [go_sem] ER CX Ih M3 LM
theorem H6 (m:Nat) (l:List Ext):cZ true ⟨m,false,rws eExt l⟩=true:=nf (fun _=>rfl) m l
attribute [go_sem] H6
def gc:En fV:=⟨3,fun x=>[sl eU8 x.code,I x.at_,I x.seed]⟩
def OH (x:fV):Prop:=bdL (bdT (α:=UInt8)) x.code∧bdI x.at_∧bdI x.seed
theorem w9:gc.esz=3:=by decide
theorem vW (x:fV):gc.enc x=[sl eU8 x.code,I x.at_,I x.seed]:=rfl
theorem xV (a0:(List UInt8)) (a1 a2:Int) (l:List fV):b6 [sl eU8 a0,I a1,I a2] (rws gc l)=rws gc ((⟨a0,a1,a2⟩:fV)::l):=rfl
theorem AE (a0:(List UInt8)) (a1 a2:Int) (l:List fV) (i:Nat):cG (rws gc l) i [sl eU8 a0,I a1,I a2]=rws gc (l.set i (⟨a0,a1,a2⟩:fV)):=by simp [cG,rws,gc]
theorem BB (x:fV):fV.mk x.code x.at_ x.seed=x:=rfl
attribute [go_sem] w9 vW xV AE BB
theorem tJ (a1 a2:Int) (l:List fV):b6 [.imm 1 [],I a1,I a2] (rws gc l)=rws gc ((⟨[],a1,a2⟩:fV)::l):=rfl
attribute [go_sem] tJ
def fP:En bD:=⟨3,fun x=>[I x.Rate,I x.Queries,I x.Grind]⟩
def NI (x:bD):Prop:=bdI x.Rate∧bdI x.Queries∧bdI x.Grind
theorem uN:fP.esz=3:=by decide
theorem uM (x:bD):fP.enc x=[I x.Rate,I x.Queries,I x.Grind]:=rfl
theorem vc (a0 a1 a2:Int) (l:List bD):b6 [I a0,I a1,I a2] (rws fP l)=rws fP ((⟨a0,a1,a2⟩:bD)::l):=rfl
theorem yG (a0 a1 a2:Int) (l:List bD) (i:Nat):cG (rws fP l) i [I a0,I a1,I a2]=rws fP (l.set i (⟨a0,a1,a2⟩:bD)):=by simp [cG,rws,fP]
theorem yr (x:bD):bD.mk x.Rate x.Queries x.Grind=x:=rfl
attribute [go_sem] uN uM vc yG yr
theorem wW (m:Nat) (l:List bD):cZ true ⟨m,false,rws fP l⟩=true:=nf (fun _=>rfl) m l
attribute [go_sem] wW
def cB:En dc:=⟨2,fun x=>[sl eExt x.Pairs,sl (eL eS) x.Paths]⟩
def H4 (x:dc):Prop:=bdL bdExt x.Pairs∧bdL (bdL bdS) x.Paths
theorem xU:cB.esz=2:=by decide
theorem yZ (x:dc):cB.enc x=[sl eExt x.Pairs,sl (eL eS) x.Paths]:=rfl
theorem Cl (a0:(List Ext)) (a1:(List (List (List UInt8)))) (l:List dc):b6 [sl eExt a0,sl (eL eS) a1] (rws cB l)=rws cB ((⟨a0,a1⟩:dc)::l):=rfl
theorem FO (a0:(List Ext)) (a1:(List (List (List UInt8)))) (l:List dc) (i:Nat):cG (rws cB l) i [sl eExt a0,sl (eL eS) a1]=rws cB (l.set i (⟨a0,a1⟩:dc)):=by simp [cG,rws,cB]
theorem GF (x:dc):dc.mk x.Pairs x.Paths=x:=rfl
attribute [go_sem] xU yZ Cl FO GF
theorem vn (a1:(List (List (List UInt8)))) (l:List dc):b6 [.imm 1 [],sl (eL eS) a1] (rws cB l)=rws cB ((⟨[],a1⟩:dc)::l):=rfl
attribute [go_sem] vn
theorem vr (a0:(List Ext)) (l:List dc):b6 [sl eExt a0,.imm 1 []] (rws cB l)=rws cB ((⟨a0,[]⟩:dc)::l):=rfl
attribute [go_sem] vr
theorem xk (l:List dc):b6 [.imm 1 [],.imm 1 []] (rws cB l)=rws cB ((⟨[],[]⟩:dc)::l):=rfl
attribute [go_sem] xk
def bg:En aN:=⟨6,fun x=>[sl (eL eExt) x.Rounds,sl eS x.Roots,I x.Last.A,I x.Last.B,I x.Nonce,sl cB x.Queries]⟩
def NJ (x:aN):Prop:=bdL (bdL bdExt) x.Rounds∧bdL bdS x.Roots∧bdExt x.Last∧bdI x.Nonce∧bdL H4 x.Queries
theorem tC:bg.esz=6:=by decide
theorem uO (x:aN):bg.enc x=[sl (eL eExt) x.Rounds,sl eS x.Roots,I x.Last.A,I x.Last.B,I x.Nonce,sl cB x.Queries]:=rfl
theorem vC (a0:(List (List Ext))) (a1:(List (List UInt8))) (a2 a3 a4:Int) (a5:(List dc)) (l:List aN):b6 [sl (eL eExt) a0,sl eS a1,I a2,I a3,I a4,sl cB a5] (rws bg l)=rws bg ((⟨a0,a1,⟨a2,a3⟩,a4,a5⟩:aN)::l):=rfl
theorem yq (a0:(List (List Ext))) (a1:(List (List UInt8))) (a2 a3 a4:Int) (a5:(List dc)) (l:List aN) (i:Nat):cG (rws bg l) i [sl (eL eExt) a0,sl eS a1,I a2,I a3,I a4,sl cB a5]=rws bg (l.set i (⟨a0,a1,⟨a2,a3⟩,a4,a5⟩:aN)):=by simp [cG,rws,bg]
theorem xT (x:aN):aN.mk x.Rounds x.Roots x.Last x.Nonce x.Queries=x:=rfl
attribute [go_sem] tC uO vC yq xT
theorem sd (a1:(List (List UInt8))) (a2 a3 a4:Int) (a5:(List dc)) (l:List aN):b6 [.imm 1 [],sl eS a1,I a2,I a3,I a4,sl cB a5] (rws bg l)=rws bg ((⟨[],a1,⟨a2,a3⟩,a4,a5⟩:aN)::l):=rfl
attribute [go_sem] sd
theorem s8 (a0:(List (List Ext))) (a2 a3 a4:Int) (a5:(List dc)) (l:List aN):b6 [sl (eL eExt) a0,.imm 1 [],I a2,I a3,I a4,sl cB a5] (rws bg l)=rws bg ((⟨a0,[],⟨a2,a3⟩,a4,a5⟩:aN)::l):=rfl
attribute [go_sem] s8
theorem rC (a2 a3 a4:Int) (a5:(List dc)) (l:List aN):b6 [.imm 1 [],.imm 1 [],I a2,I a3,I a4,sl cB a5] (rws bg l)=rws bg ((⟨[],[],⟨a2,a3⟩,a4,a5⟩:aN)::l):=rfl
attribute [go_sem] rC
theorem rZ (a0:(List (List Ext))) (a1:(List (List UInt8))) (a2 a3 a4:Int) (l:List aN):b6 [sl (eL eExt) a0,sl eS a1,I a2,I a3,I a4,.imm 1 []] (rws bg l)=rws bg ((⟨a0,a1,⟨a2,a3⟩,a4,[]⟩:aN)::l):=rfl
attribute [go_sem] rZ
theorem s7 (a1:(List (List UInt8))) (a2 a3 a4:Int) (l:List aN):b6 [.imm 1 [],sl eS a1,I a2,I a3,I a4,.imm 1 []] (rws bg l)=rws bg ((⟨[],a1,⟨a2,a3⟩,a4,[]⟩:aN)::l):=rfl
attribute [go_sem] s7
theorem rO (a0:(List (List Ext))) (a2 a3 a4:Int) (l:List aN):b6 [sl (eL eExt) a0,.imm 1 [],I a2,I a3,I a4,.imm 1 []] (rws bg l)=rws bg ((⟨a0,[],⟨a2,a3⟩,a4,[]⟩:aN)::l):=rfl
attribute [go_sem] rO
theorem sj (a2 a3 a4:Int) (l:List aN):b6 [.imm 1 [],.imm 1 [],I a2,I a3,I a4,.imm 1 []] (rws bg l)=rws bg ((⟨[],[],⟨a2,a3⟩,a4,[]⟩:aN)::l):=rfl
attribute [go_sem] sj
def i9:En iy:=⟨2,fun x=>[S x.t,B x.ok]⟩
def NY (x:iy):Prop:=bdS x.t∧bdT (α:=Bool) x.ok
theorem v5:i9.esz=2:=by decide
theorem vg (x:iy):i9.enc x=[S x.t,B x.ok]:=rfl
theorem xZ (a0:(List UInt8)) (a1:Bool) (l:List iy):b6 [S a0,B a1] (rws i9 l)=rws i9 ((⟨a0,a1⟩:iy)::l):=rfl
theorem AA (a0:(List UInt8)) (a1:Bool) (l:List iy) (i:Nat):cG (rws i9 l) i [S a0,B a1]=rws i9 (l.set i (⟨a0,a1⟩:iy)):=by simp [cG,rws,i9]
theorem AZ (x:iy):iy.mk x.t x.ok=x:=rfl
attribute [go_sem] v5 vg xZ AA AZ
theorem xX (m:Nat) (l:List iy):cZ true ⟨m,false,rws i9 l⟩=true:=nf (fun _=>rfl) m l
attribute [go_sem] xX
def ck:En bR:=⟨1,fun x=>[sl eU8 x.b]⟩
def IT (x:bR):Prop:=bdL (bdT (α:=UInt8)) x.b
theorem oG:ck.esz=1:=by decide
theorem oU (x:bR):ck.enc x=[sl eU8 x.b]:=rfl
theorem qd (a0:(List UInt8)) (l:List bR):b6 [sl eU8 a0] (rws ck l)=rws ck ((⟨a0⟩:bR)::l):=rfl
theorem rJ (a0:(List UInt8)) (l:List bR) (i:Nat):cG (rws ck l) i [sl eU8 a0]=rws ck (l.set i (⟨a0⟩:bR)):=by simp [cG,rws,ck]
theorem rS (x:bR):bR.mk x.b=x:=rfl
attribute [go_sem] oG oU qd rJ rS
theorem nU (l:List bR):b6 [.imm 1 []] (rws ck l)=rws ck ((⟨[]⟩:bR)::l):=rfl
attribute [go_sem] nU
def eEntry:En Entry:=⟨3,fun x=>[I x.Row,I x.Col,I x.Value]⟩
def bdEntry (x:Entry):Prop:=bdI x.Row∧bdI x.Col∧bdI x.Value
theorem xE:eEntry.esz=3:=by decide
theorem zi (x:Entry):eEntry.enc x=[I x.Row,I x.Col,I x.Value]:=rfl
theorem BP (a0 a1 a2:Int) (l:List Entry):b6 [I a0,I a1,I a2] (rws eEntry l)=rws eEntry ((⟨a0,a1,a2⟩:Entry)::l):=rfl
theorem Gs (a0 a1 a2:Int) (l:List Entry) (i:Nat):cG (rws eEntry l) i [I a0,I a1,I a2]=rws eEntry (l.set i (⟨a0,a1,a2⟩:Entry)):=by simp [cG,rws,eEntry]
theorem EJ (x:Entry):Entry.mk x.Row x.Col x.Value=x:=rfl
attribute [go_sem] xE zi BP Gs EJ
theorem Au (m:Nat) (l:List Entry):cZ true ⟨m,false,rws eEntry l⟩=true:=nf (fun _=>rfl) m l
attribute [go_sem] Au
def eSystem:En System:=⟨6,fun x=>[I x.Rows,I x.Cols,I x.Publics,sl eEntry x.A,sl eEntry x.B,sl eEntry x.C]⟩
def bdSystem (x:System):Prop:=bdI x.Rows∧bdI x.Cols∧bdI x.Publics∧bdL bdEntry x.A∧bdL bdEntry x.B∧bdL bdEntry x.C
theorem wl:eSystem.esz=6:=by decide
theorem vp (x:System):eSystem.enc x=[I x.Rows,I x.Cols,I x.Publics,sl eEntry x.A,sl eEntry x.B,sl eEntry x.C]:=rfl
theorem xY (a0 a1 a2:Int) (a3 a4 a5:(List Entry)) (l:List System):b6 [I a0,I a1,I a2,sl eEntry a3,sl eEntry a4,sl eEntry a5] (rws eSystem l)=rws eSystem ((⟨a0,a1,a2,a3,a4,a5⟩:System)::l):=rfl
theorem AC (a0 a1 a2:Int) (a3 a4 a5:(List Entry)) (l:List System) (i:Nat):cG (rws eSystem l) i [I a0,I a1,I a2,sl eEntry a3,sl eEntry a4,sl eEntry a5]=rws eSystem (l.set i (⟨a0,a1,a2,a3,a4,a5⟩:System)):=by simp [cG,rws,eSystem]
theorem AL (x:System):System.mk x.Rows x.Cols x.Publics x.A x.B x.C=x:=rfl
attribute [go_sem] wl vp xY AC AL
theorem uG (a0 a1 a2:Int) (a4 a5:(List Entry)) (l:List System):b6 [I a0,I a1,I a2,.imm 1 [],sl eEntry a4,sl eEntry a5] (rws eSystem l)=rws eSystem ((⟨a0,a1,a2,[],a4,a5⟩:System)::l):=rfl
attribute [go_sem] uG
theorem ux (a0 a1 a2:Int) (a3 a5:(List Entry)) (l:List System):b6 [I a0,I a1,I a2,sl eEntry a3,.imm 1 [],sl eEntry a5] (rws eSystem l)=rws eSystem ((⟨a0,a1,a2,a3,[],a5⟩:System)::l):=rfl
attribute [go_sem] ux
theorem tG (a0 a1 a2:Int) (a5:(List Entry)) (l:List System):b6 [I a0,I a1,I a2,.imm 1 [],.imm 1 [],sl eEntry a5] (rws eSystem l)=rws eSystem ((⟨a0,a1,a2,[],[],a5⟩:System)::l):=rfl
attribute [go_sem] tG
theorem uR (a0 a1 a2:Int) (a3 a4:(List Entry)) (l:List System):b6 [I a0,I a1,I a2,sl eEntry a3,sl eEntry a4,.imm 1 []] (rws eSystem l)=rws eSystem ((⟨a0,a1,a2,a3,a4,[]⟩:System)::l):=rfl
attribute [go_sem] uR
theorem tI (a0 a1 a2:Int) (a4:(List Entry)) (l:List System):b6 [I a0,I a1,I a2,.imm 1 [],sl eEntry a4,.imm 1 []] (rws eSystem l)=rws eSystem ((⟨a0,a1,a2,[],a4,[]⟩:System)::l):=rfl
attribute [go_sem] tI
theorem tF (a0 a1 a2:Int) (a3:(List Entry)) (l:List System):b6 [I a0,I a1,I a2,sl eEntry a3,.imm 1 [],.imm 1 []] (rws eSystem l)=rws eSystem ((⟨a0,a1,a2,a3,[],[]⟩:System)::l):=rfl
attribute [go_sem] tF
theorem tY (a0 a1 a2:Int) (l:List System):b6 [I a0,I a1,I a2,.imm 1 [],.imm 1 [],.imm 1 []] (rws eSystem l)=rws eSystem ((⟨a0,a1,a2,[],[],[]⟩:System)::l):=rfl
attribute [go_sem] tY
def gn:En Source:=⟨4,fun x=>[sl eExt x.Script,I x.At,S x.State,I x.Count]⟩
def OG (x:Source):Prop:=bdL bdExt x.Script∧bdI x.At∧bdS x.State∧bdI x.Count
theorem wx:gn.esz=4:=by decide
theorem vi (x:Source):gn.enc x=[sl eExt x.Script,I x.At,S x.State,I x.Count]:=rfl
theorem yS (a0:(List Ext)) (a1:Int) (a2:(List UInt8)) (a3:Int) (l:List Source):b6 [sl eExt a0,I a1,S a2,I a3] (rws gn l)=rws gn ((⟨a0,a1,a2,a3⟩:Source)::l):=rfl
theorem B1 (a0:(List Ext)) (a1:Int) (a2:(List UInt8)) (a3:Int) (l:List Source) (i:Nat):cG (rws gn l) i [sl eExt a0,I a1,S a2,I a3]=rws gn (l.set i (⟨a0,a1,a2,a3⟩:Source)):=by simp [cG,rws,gn]
theorem B6 (x:Source):Source.mk x.Script x.At x.State x.Count=x:=rfl
attribute [go_sem] wx vi yS B1 B6
theorem uw (a1:Int) (a2:(List UInt8)) (a3:Int) (l:List Source):b6 [.imm 1 [],I a1,S a2,I a3] (rws gn l)=rws gn ((⟨[],a1,a2,a3⟩:Source)::l):=rfl
attribute [go_sem] uw
end Go.AI.Fn
