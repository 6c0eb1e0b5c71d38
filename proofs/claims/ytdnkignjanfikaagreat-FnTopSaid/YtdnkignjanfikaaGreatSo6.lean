/- Part. -/
import Derived.Test.YtdnkignjanfikaaGreatSo4
import Derived.Test.YtdnkignjanfikaaGreatAiEntX
import Derived.Test.YtdnkignjanfikaaGreatAiSrtW
import Derived.KernelRfl
set_option linter.unusedVariables false
set_option linter.unusedSimpArgs false
set_option maxRecDepth 100000
set_option maxHeartbeats 2000000
namespace Go.Proofs
def Tryz.sortE_ren:Go.Shelf.Ren:=⟨fun|6=>287|15=>348|14=>347|28=>385|29=>386|20=>377|21=>378|22=>379|23=>380|24=>381|25=>382|26=>383|27=>384|46=>390|47=>391|48=>392|49=>393|50=>394|57=>395|n=>n,fun|22=>52|24=>309|25=>311|3=>3|39=>71|0=>0|53=>384|55=>334|4=>4|46=>378|45=>377|50=>247|5=>5|9=>9|66=>386|70=>390|76=>392|77=>59|n=>n,fun|n=>n⟩
theorem Tryz.sortE:Go.Proofs.SlLaysF0.n6 Tryz.prog Tryz.sortE_ren:={
 mixed:=by kernel_rfl,
 f6:=⟨Tryz.f287.name,by decide,Tryz.func287.trans (congrArg some (by kernel_rfl))⟩,
 f14:=⟨Tryz.f347.name,by decide,Tryz.func347.trans (congrArg some (by kernel_rfl))⟩,
 f15:=Tryz.func348.trans (congrArg some (by kernel_rfl)),
 f20:=⟨Tryz.f377.name,by decide,Tryz.func377.trans (congrArg some (by kernel_rfl))⟩,
 f21:=⟨Tryz.f378.name,by decide,Tryz.func378.trans (congrArg some (by kernel_rfl))⟩,
 f22:=⟨Tryz.f379.name,by decide,Tryz.func379.trans (congrArg some (by kernel_rfl))⟩,
 f23:=⟨Tryz.f380.name,by decide,Tryz.func380.trans (congrArg some (by kernel_rfl))⟩,
 f24:=⟨Tryz.f381.name,by decide,Tryz.func381.trans (congrArg some (by kernel_rfl))⟩,
 f25:=⟨Tryz.f382.name,by decide,Tryz.func382.trans (congrArg some (by kernel_rfl))⟩,
 f26:=⟨Tryz.f383.name,by decide,Tryz.func383.trans (congrArg some (by kernel_rfl))⟩,
 f27:=⟨Tryz.f384.name,by decide,Tryz.func384.trans (congrArg some (by kernel_rfl))⟩,
 f28:=Tryz.func385.trans (congrArg some (by kernel_rfl)),
 f29:=Tryz.func386.trans (congrArg some (by kernel_rfl)),
 f46:=⟨Tryz.f390.name,by decide,Tryz.func390.trans (congrArg some (by kernel_rfl))⟩,
 f47:=Tryz.func391.trans (congrArg some (by kernel_rfl)),
 f48:=Tryz.func392.trans (congrArg some (by kernel_rfl)),
 f49:=⟨Tryz.f393.name,by decide,Tryz.func393.trans (congrArg some (by kernel_rfl))⟩,
 f50:=⟨Tryz.f394.name,by decide,Tryz.func394.trans (congrArg some (by kernel_rfl))⟩,
 f57:=⟨Tryz.f395.name,by decide,Tryz.func395.trans (congrArg some (by kernel_rfl))⟩,
 t0:=Tryz.underlying0,
 a0:=Tryz.isAgg0,
 z0:=Tryz.sizeOf0,
 v0:=Tryz.zeroValue0,
 t3:=Tryz.underlying3,
 a3:=Tryz.isAgg3,
 z3:=Tryz.sizeOf3,
 v3:=Tryz.zeroValue3,
 t4:=Tryz.underlying4,
 a4:=Tryz.isAgg4,
 z4:=Tryz.sizeOf4,
 v4:=Tryz.zeroValue4,
 t5:=Tryz.underlying5,
 a5:=Tryz.isAgg5,
 z5:=Tryz.sizeOf5,
 v5:=Tryz.zeroValue5,
 t9:=Tryz.underlying9,
 a9:=Tryz.isAgg9,
 z9:=Tryz.sizeOf9,
 v9:=Tryz.zeroValue9,
 t22:=Tryz.underlying52,
 a22:=Tryz.isAgg52,
 z22:=Tryz.sizeOf52,
 v22:=Tryz.zeroValue52,
 t25:=Tryz.underlying311,
 a25:=Tryz.isAgg311,
 z25:=Tryz.sizeOf311,
 v25:=Tryz.zeroValue311,
 t39:=Tryz.underlying71,
 a39:=Tryz.isAgg71,
 z39:=Tryz.sizeOf71,
 v39:=Tryz.zeroValue71,
 t45:=Tryz.underlying377,
 a45:=Tryz.isAgg377,
 z45:=Tryz.sizeOf377,
 v45:=Tryz.zeroValue377,
 t46:=Tryz.underlying378,
 a46:=Tryz.isAgg378,
 z46:=Tryz.sizeOf378,
 v46:=Tryz.zeroValue378,
 t50:=Tryz.underlying247,
 a50:=Tryz.isAgg247,
 z50:=Tryz.sizeOf247,
 v50:=Tryz.zeroValue247,
 t53:=Tryz.underlying384,
 a53:=Tryz.isAgg384,
 z53:=Tryz.sizeOf384,
 v53:=Tryz.zeroValue384,
 t55:=Tryz.underlying334,
 a55:=Tryz.isAgg334,
 z55:=Tryz.sizeOf334,
 v55:=Tryz.zeroValue334,
 t66:=Tryz.underlying386,
 a66:=Tryz.isAgg386,
 z66:=Tryz.sizeOf386,
 v66:=Tryz.zeroValue386,
 t70:=Tryz.underlying390,
 a70:=Tryz.isAgg390,
 z70:=Tryz.sizeOf390,
 v70:=Tryz.zeroValue390,
 t76:=Tryz.underlying392,
 a76:=Tryz.isAgg392,
 z76:=Tryz.sizeOf392,
 v76:=Tryz.zeroValue392,
 t77:=Tryz.underlying59,
 a77:=Tryz.isAgg59,
 z77:=Tryz.sizeOf59,
 v77:=Tryz.zeroValue59 }
end Go.Proofs
namespace Go.AI.So
open Go.Proofs
theorem W3 (a b:Int):dK a b=some (if a<b then-1 else if b<a then 1 else 0):=by
 unfold dK gH
 have h: ∀x:Int,(x !=x)=false:=fun x=>by simp
 simp only [h,Option.bind_some,br]
 by_cases h1:a<b
 ·simp [h1]
 ·by_cases h2:b<a
  ·simp [h1,h2]
  ·simp [h1,h2]
theorem b5u (a b:Int):li [a,b]=some (if a=0 then b else a):=by
 have w1:IntKind.wrap .i64 1=1:=by decide
 have w2:IntKind.wrap .i64 2=2:=by decide
 unfold li
 rw [HC]
 by_cases ha:a=0
 ·subst ha
  have e1:bY 0 [0,b] (([0,b]:List Int).length:Nat) 0=some (.inl 1):=by
   simp [bY,atL,br,w1]
  rw [e1]
  simp only [a6p]
  rw [HC]
  by_cases hb:b=0
  ·subst hb
   have e2:bY 0 [0,0] (([0,0]:List Int).length:Nat) 1=some (.inl 2):=by
    simp [bY,atL,br,w2]
   rw [e2]
   simp only [a6p]
   rw [HC]
   have e3:bY 0 [0,0] (([0,0]:List Int).length:Nat) 2=some (.inr (.inr (2,false))):=by
    simp [bY,br]
   rw [e3];rfl
  ·have e2:bY 0 [0,b] (([0,b]:List Int).length:Nat) 1=some (.inr (.inl b)):=by
    simp [bY,atL,br,show (b !=0)=true by simpa using hb]
   rw [e2];rfl
 ·have e1:bY 0 [a,b] (([a,b]:List Int).length:Nat) 0=some (.inr (.inl a)):=by
   simp [bY,atL,br,show (a !=0)=true by simpa using ha]
  rw [e1];simp [a6p,alt,ha]
def c2h (t:Tri):aN:=⟨t.1,t.2.1,t.2.2⟩
theorem a7M (x y:Tri):ik (c2h x) (c2h y)=some (mcf x y):=by
 unfold ik mcf
 simp only [W3,Option.bind_some,b5u,c2h]
 congr 1
 by_cases h1:x.1<y.1
 ·simp [h1]
 ·by_cases h2:y.1<x.1
  ·simp [h1,h2]
  ·by_cases h3:x.2.1<y.2.1
   ·simp [h1,h2,h3]
   ·by_cases h4:y.2.1<x.2.1<;>simp [h1,h2,h3,h4]
theorem a1U (x y:Tri):Call tab ow 288 [.agg (n7 x),.agg (n7 y)] []=some (.lit (.int .i64 (mcf x y)),[]):=yI (a7M x y)
theorem c5X: ∀args w,(callFunc 288 args).run Proofs.Tryz.prog w= .ok (.enter 288 args) w:=enters_of Proofs.Tryz.func288 (by kernel_rfl) rfl
theorem c6d: ∀args w,(callFunc 287 args).run Proofs.Tryz.prog w= .ok (.enter 287 args) w:=enters_of Proofs.Tryz.func287 (by kernel_rfl) rfl
theorem c60: ∀args w,(callFunc 173 args).run Proofs.Tryz.prog w= .ok (.enter 173 args) w:=enters_of Proofs.Tryz.func173 (by kernel_rfl) rfl
theorem c5W:Iy Proofs.Tryz.prog 287 (SX 288):=b5G Proofs.Tryz.sortE Proofs.Tryz.isAgg309 Proofs.Tryz.sizeOf309 tabOK a1U c5X c6d
def T1:Tab:=fun f=>if f=287 then some (.ext (SX 288)) else none
def ow1:ff:=fun f=>owg [(287,[0])] f
theorem c6V:Bn Proofs.Tryz.prog T1:=by
 refine ⟨fun f af h=> ?_,fun f g h=> ?_⟩
 ·unfold T1 at h;split at h<;>cases h
 ·unfold T1 at h
  split at h
  ·rename_i e;cases h;subst e;exact c5W
  ·cases h
theorem c77 (a:List V) (b:List Blk):Call T1 ow1 287 a b=SX 288 a b:=Tb (T:=T1) rfl a b
theorem c0Z (f:Nat):ow1 f=owg [(287,[0])] f:=rfl
def hE:Jt:=⟨[(0,[0]),(1,[0,3]),(4,[0,3,4,5,8]),(5,[0,3,4,5,8,15]),(6,[0,3,8]),(7,[0,3]),(8,[2])],[],false,false⟩
noncomputable def bE:Code:=c54 Proofs.Tryz.f173
noncomputable def lE:Code:=cLp (cBk (cSB (cSA (cSB (cSB bE)))))
noncomputable def r4:Code:=cSA (cBk (cSB (cSB lE)))
noncomputable def q0:=cv (a:=mkC (gC tyT [] (cSA bE) [[0]] []).1)
noncomputable def q1:=cv (a:=mkC (gC tyT [] (cSA (cSB bE)) [[0,3]] []).1)
noncomputable def qR:=cv (a:=mkC (gC tyT [] (cSB (cBk (cSB (cSB lE)))) [[0,3,4,5,8,15],[0,3,8]] []).1)
noncomputable def qT:=cv (a:=mkC (gC tyT [] (cSB (cSB (cSB bE))) [[0,3],[2]] []).1)
noncomputable def q4:=cv (a:=(a99 r4).tail.map (gD tyT (a99 r4)))
theorem c2S:mkR 2000 []=rws Cw []:=rfl
attribute [local go_sem] b1i b2q b8T c2S c0Z c77
theorem e0 (L:List Tri):ji T1 ow1 q0.1 ⟨[(0,.mp 0)],[(0,⟨0,true,[bH L]⟩)]⟩=some (.normal,⟨[(0,.mp 0)],[(0,⟨0,true,[bH L]⟩)]⟩):=by
 rw [PE]
 simp+decide only [q0,go_sem,reduceIte,Nat.reduceAdd]
theorem e1 (L:List Tri):ji T1 ow1 q1.1 ⟨[(0,.mp 0)],[(0,⟨0,true,[bH L]⟩)]⟩=some (.normal,⟨[(0,.mp 0),(3,.sl 2000 0 0)],[(0,⟨0,true,[bH L]⟩),(2000,⟨3,false,rws Cw []⟩)]⟩):=by
 rw [PE]
 simp+decide only [q1,go_sem,reduceIte,Nat.reduceAdd]
theorem c3V:mkR 7007 []=rws Cw []:=rfl
theorem nzE (a b v:Int):nzT (a,b,v)=(v !=0):=rfl
theorem eB (r:Nat) (L D:List Tri) (a b v:Int) (hD:D.length<1073741824): ∃S1 S2 g S3,lD (Call T1 ow1) ow1 q4.1 5001 (stE r L D a b v)=some S1∧ji T1 ow1 qR.1 (trim [0,3,4,5,8] S1)=some (.normal,S2)∧dN S2 g=some S3∧
 S3.m=K8 L (if nzT (a,b,v)=true then D++[(a,b,v)] else D)∧S3.get 0= .mp 0∧S3.get 8=B5 r∧S3.get 3= .sl 2000 0 (if nzT (a,b,v)=true then D++[(a,b,v)] else D).length:=by
 have hf:bj (D++[(a,b,v)]).length 24=true:=by
  simp only [bj,List.length_append,List.length_cons,List.length_nil,decide_eq_true_eq,dz];omega
 have hp: ∀(h:ba) (bs:List Nat),fzA h bs (B5 r)=B5 r:=fun _ _=>rfl
 cases hv:v !=0 with
 |true=>
  obtain ⟨S1,h1,h2⟩:=a1A (T:=T1) (ow:=ow1) (b:=5001) (ss:=q4.1) (l:=[0,3,4,5,8]) (c:=qR.1) (st:=⟨[(0,.mp 0),(3,.sl 2000 0 D.length),(8,B5 r),(11,.tup [.agg [I a,I b],I v])],[(0,⟨0,true,[bH L]⟩),(2000,⟨3,false,rws Cw D⟩)]⟩)
   (S2:=⟨[(0,.mp 0),(3,.sl 2000 0 (D++[(a,b,v)]).length),(8,B5 r)],[(0,⟨0,true,[bH L]⟩),(2000,⟨3,false,rws Cw (D++[(a,b,v)])⟩),(5003,⟨2,true,[[I a,I b]]⟩),(7007,⟨3,false,rws Cw [(a,b,v)]⟩)]⟩) (by
    simp+decide only [q4,qR,go_sem,reduceIte,Nat.reduceAdd,hv,c3V,hf])
  refine ⟨S1,_,.close [5003,7007],⟨[(0,.mp 0),(3,.sl 2000 0 (D++[(a,b,v)]).length),(8,B5 r)],K8 L (D++[(a,b,v)])⟩,h1,h2, ?_, ?_⟩
  ·show _=some (⟨[(0,.mp 0),(3,.sl 2000 0 (D++[(a,b,v)]).length),(8,B5 r)],[(0,⟨0,true,[bH L]⟩),(2000,⟨3,false,rws Cw (D++[(a,b,v)])⟩)]⟩:St)
   simp+decide only [go_sem,reduceIte,Nat.reduceAdd,hp]
  ·rw [nzE,hv]
   exact ⟨rfl,rfl,rfl,rfl⟩
 |false=>
  obtain ⟨S1,h1,h2⟩:=a1A (T:=T1) (ow:=ow1) (b:=5001) (ss:=q4.1) (l:=[0,3,4,5,8]) (c:=qR.1) (st:=⟨[(0,.mp 0),(3,.sl 2000 0 D.length),(8,B5 r),(11,.tup [.agg [I a,I b],I v])],[(0,⟨0,true,[bH L]⟩),(2000,⟨3,false,rws Cw D⟩)]⟩)
   (S2:=⟨[(0,.mp 0),(3,.sl 2000 0 D.length),(4,.ptr 5003 0 0 1),(5,I v),(8,B5 r),(15,B (v !=0))],[(0,⟨0,true,[bH L]⟩),(2000,⟨3,false,rws Cw D⟩),(5003,⟨2,true,[[I a,I b]]⟩)]⟩) (by
    simp+decide only [q4,qR,go_sem,reduceIte,Nat.reduceAdd,hv])
  refine ⟨S1,_,.close [5003,7007],⟨[(0,.mp 0),(3,.sl 2000 0 D.length),(4,.undef),(5,I v),(8,B5 r),(15,B (v !=0))],K8 L D⟩,h1,h2, ?_, ?_⟩
  ·show _=some (⟨[(0,.mp 0),(3,.sl 2000 0 D.length),(4,.undef),(5,I v),(8,B5 r),(15,B (v !=0))],[(0,⟨0,true,[bH L]⟩),(2000,⟨3,false,rws Cw D⟩)]⟩:St)
   simp+decide only [go_sem,reduceIte,Nat.reduceAdd,hp,hv]
  ·rw [nzE,hv]
   exact ⟨rfl,rfl,rfl,rfl⟩
theorem eT (r:Nat) (L D:List Tri) (hk:pa D=true) (hD:D.length<1073741824): ∃S e,ji T1 ow1 qT.1 (stB r L D)=some (e,S)∧(e= .normal∨e= .ret)∧ ∀kp,mP ⟨28,qT.1,[.tmp 2],kp,false⟩ 1 (some (e,S))=some (a0P kp (i0 D),a0d kp L (i0 D)):=by
 have hs:SX 288 [.sl 0 0 D.length,.fn 288 []] [⟨3,false,rws Cw D⟩]=some (.tup [],[⟨3,false,rws Cw (i0 D)⟩]):=by
  have:rws Cw D=D.map n7:=rfl
  simp only [SX,this,a1D]
  rw [if_pos ⟨trivial,trivial,hk,by omega⟩]
  rfl
 have h1:ji T1 ow1 qT.1 ⟨[(0,.mp 0),(3,.sl 2000 0 D.length),(8,B5 r)],[(0,⟨0,true,[bH L]⟩),(2000,⟨3,false,rws Cw D⟩)]⟩=some (.ret,⟨[(2,.sl 2000 0 D.length)],[(0,⟨0,true,[bH L]⟩),(2000,⟨3,false,rws Cw (i0 D)⟩)]⟩):=by
  rw [PE]
  simp+decide only [qT,go_sem,reduceIte,Nat.reduceAdd,hs]
 exact ⟨_,_,h1,.inr rfl,b8k _ _ _ _ _ (a7U D).symm⟩
noncomputable def opN (c:Code) (i:Nat):Oper:=match (a99 c)[i]? with
 |some o=>o
 |none=>(a99 r4).headD ⟨none,.nilCheck (.tmp 0),0, "", #[],none⟩
noncomputable def c73:b98 Proofs.Tryz.prog T1 ow1 Proofs.Tryz.f173 hE where
 c0:=cSA bE
 c1:=cSA (cSB bE)
 cR:=cSB (cBk (cSB (cSB lE)))
 cT:=cSB (cSB (cSB bE))
 o20:=opN (cSA (cSA (cSB (cSB bE)))) 0
 o21:=opN (cSA (cSA (cSB (cSB bE)))) 1
 o30:=opN (cSA lE) 0
 o31:=opN (cSA lE) 1
 ops4:=(a99 r4).toArray
 o40:=opN r4 0
 l4:=(a99 r4).tail
 tM:=212
 kM:=305
 eM:=3
 a0:=q0.1
 a1:=q1.1
 aR:=qR.1
 aT:=qT.1
 s4:=q4.1
 v4:=[0,3,4,5,8]
 rs:=[.tmp 2]
 body:=by kernel_rfl
 d20:=⟨rfl,rfl,rfl⟩
 d21:=⟨rfl,rfl,rfl⟩
 d30:=⟨rfl,rfl,rfl⟩
 d31:=⟨rfl,rfl,rfl⟩
 d40:=⟨rfl,rfl,rfl⟩
 e4:=rfl
 hM:=Proofs.Tryz.underlying212
 nt:=by decide
 k0:=by kernel_rfl
 k1:=by kernel_rfl
 kR:=by kernel_rfl
 kT:=by kernel_rfl
 k4:=by kernel_rfl
 kr:=by kernel_rfl
 e0:=fun L=>⟨_,e0 L,e1 L⟩
 eB:=eB
 v4s:=fun t=>Classical.em _
 eT:=eT
theorem entOK (kp:Bool):Iy Proofs.Tryz.prog 173 (a3E kp):=c0U kp c6V Proofs.Tryz.sortE.mixed c73 Proofs.Tryz.func173 c60
end Go.AI.So
