/- A map's entries in order: at this program the function does what the word tells. -/
import Derived.Test.YtgjlndaebhaciaaSo3
import Derived.Test.YtgjlndaebhaciaaSo5
import Derived.Test.YtgjlndaebhaciaaAiEntX
import Derived.Test.YtgjlndaebhaciaaAiSrtW
import Derived.KernelRfl
set_option linter.unusedVariables false
set_option linter.unusedSimpArgs false
set_option maxRecDepth 100000
set_option maxHeartbeats 2000000
namespace Go.Proofs
def Try.sortE_ren:Go.Shelf.Ren:=⟨fun|6=>135|15=>147|14=>151|28=>156|29=>157|20=>158|21=>159|22=>160|23=>161|24=>162|25=>163|26=>164|27=>165|46=>169|47=>170|48=>171|49=>172|50=>173|57=>177|n=>n,fun|22=>26|24=>108|25=>163|3=>3|39=>73|0=>0|53=>180|55=>182|4=>4|46=>185|45=>184|50=>189|5=>5|9=>9|66=>195|70=>199|76=>207|77=>50|n=>n,fun|n=>n⟩
theorem Try.sortE:Go.Proofs.SlLaysF0.n6 Try.prog Try.sortE_ren:={
 mixed:=by kernel_rfl,
 f6:=⟨Try.f135.name,by decide,Try.func135.trans (congrArg some (by kernel_rfl))⟩,
 f14:=⟨Try.f151.name,by decide,Try.func151.trans (congrArg some (by kernel_rfl))⟩,
 f15:=Try.func147.trans (congrArg some (by kernel_rfl)),
 f20:=⟨Try.f158.name,by decide,Try.func158.trans (congrArg some (by kernel_rfl))⟩,
 f21:=⟨Try.f159.name,by decide,Try.func159.trans (congrArg some (by kernel_rfl))⟩,
 f22:=⟨Try.f160.name,by decide,Try.func160.trans (congrArg some (by kernel_rfl))⟩,
 f23:=⟨Try.f161.name,by decide,Try.func161.trans (congrArg some (by kernel_rfl))⟩,
 f24:=⟨Try.f162.name,by decide,Try.func162.trans (congrArg some (by kernel_rfl))⟩,
 f25:=⟨Try.f163.name,by decide,Try.func163.trans (congrArg some (by kernel_rfl))⟩,
 f26:=⟨Try.f164.name,by decide,Try.func164.trans (congrArg some (by kernel_rfl))⟩,
 f27:=⟨Try.f165.name,by decide,Try.func165.trans (congrArg some (by kernel_rfl))⟩,
 f28:=Try.func156.trans (congrArg some (by kernel_rfl)),
 f29:=Try.func157.trans (congrArg some (by kernel_rfl)),
 f46:=⟨Try.f169.name,by decide,Try.func169.trans (congrArg some (by kernel_rfl))⟩,
 f47:=Try.func170.trans (congrArg some (by kernel_rfl)),
 f48:=Try.func171.trans (congrArg some (by kernel_rfl)),
 f49:=⟨Try.f172.name,by decide,Try.func172.trans (congrArg some (by kernel_rfl))⟩,
 f50:=⟨Try.f173.name,by decide,Try.func173.trans (congrArg some (by kernel_rfl))⟩,
 f57:=⟨Try.f177.name,by decide,Try.func177.trans (congrArg some (by kernel_rfl))⟩,
 t0:=Try.underlying0,
 a0:=Try.isAgg0,
 z0:=Try.sizeOf0,
 v0:=Try.zeroValue0,
 t3:=Try.underlying3,
 a3:=Try.isAgg3,
 z3:=Try.sizeOf3,
 v3:=Try.zeroValue3,
 t4:=Try.underlying4,
 a4:=Try.isAgg4,
 z4:=Try.sizeOf4,
 v4:=Try.zeroValue4,
 t5:=Try.underlying5,
 a5:=Try.isAgg5,
 z5:=Try.sizeOf5,
 v5:=Try.zeroValue5,
 t9:=Try.underlying9,
 a9:=Try.isAgg9,
 z9:=Try.sizeOf9,
 v9:=Try.zeroValue9,
 t22:=Try.underlying26,
 a22:=Try.isAgg26,
 z22:=Try.sizeOf26,
 v22:=Try.zeroValue26,
 t25:=Try.underlying163,
 a25:=Try.isAgg163,
 z25:=Try.sizeOf163,
 v25:=Try.zeroValue163,
 t39:=Try.underlying73,
 a39:=Try.isAgg73,
 z39:=Try.sizeOf73,
 v39:=Try.zeroValue73,
 t45:=Try.underlying184,
 a45:=Try.isAgg184,
 z45:=Try.sizeOf184,
 v45:=Try.zeroValue184,
 t46:=Try.underlying185,
 a46:=Try.isAgg185,
 z46:=Try.sizeOf185,
 v46:=Try.zeroValue185,
 t50:=Try.underlying189,
 a50:=Try.isAgg189,
 z50:=Try.sizeOf189,
 v50:=Try.zeroValue189,
 t53:=Try.underlying180,
 a53:=Try.isAgg180,
 z53:=Try.sizeOf180,
 v53:=Try.zeroValue180,
 t55:=Try.underlying182,
 a55:=Try.isAgg182,
 z55:=Try.sizeOf182,
 v55:=Try.zeroValue182,
 t66:=Try.underlying195,
 a66:=Try.isAgg195,
 z66:=Try.sizeOf195,
 v66:=Try.zeroValue195,
 t70:=Try.underlying199,
 a70:=Try.isAgg199,
 z70:=Try.sizeOf199,
 v70:=Try.zeroValue199,
 t76:=Try.underlying207,
 a76:=Try.isAgg207,
 z76:=Try.sizeOf207,
 v76:=Try.zeroValue207,
 t77:=Try.underlying50,
 a77:=Try.isAgg50,
 z77:=Try.sizeOf50,
 v77:=Try.zeroValue50 }
end Go.Proofs
namespace Go.AI.So
open Go.Proofs
theorem Cj (a b:Int):bm a b=some (if a<b then-1 else if b<a then 1 else 0):=by
 unfold bm cp
 have h: ∀x:Int,(x !=x)=false:=fun x=>by simp
 simp only [h,Option.bind_some,br]
 by_cases h1:a<b
 ·simp [h1]
 ·by_cases h2:b<a
  ·simp [h1,h2]
  ·simp [h1,h2]
theorem P4 (a b:Int):dN [a,b]=some (if a=0 then b else a):=by
 have w1:IntKind.wrap .i64 1=1:=by decide
 have w2:IntKind.wrap .i64 2=2:=by decide
 unfold dN
 rw [tc]
 by_cases ha:a=0
 ·subst ha
  have e1:aI 0 [0,b] (([0,b]:List Int).length:Nat) 0=some (.inl 1):=by
   simp [aI,atL,br,w1]
  rw [e1]
  simp only [Jw]
  rw [tc]
  by_cases hb:b=0
  ·subst hb
   have e2:aI 0 [0,0] (([0,0]:List Int).length:Nat) 1=some (.inl 2):=by
    simp [aI,atL,br,w2]
   rw [e2]
   simp only [Jw]
   rw [tc]
   have e3:aI 0 [0,0] (([0,0]:List Int).length:Nat) 2=some (.inr (.inr (2,false))):=by
    simp [aI,br]
   rw [e3];rfl
  ·have e2:aI 0 [0,b] (([0,b]:List Int).length:Nat) 1=some (.inr (.inl b)):=by
    simp [aI,atL,br,show (b !=0)=true by simpa using hb]
   rw [e2];rfl
 ·have e1:aI 0 [a,b] (([a,b]:List Int).length:Nat) 0=some (.inr (.inl a)):=by
   simp [aI,atL,br,show (a !=0)=true by simpa using ha]
  rw [e1];simp [Jw,alt,ha]
def Y8 (t:Tri):ah:=⟨t.1,t.2.1,t.2.2⟩
theorem LA (x y:Tri):cJ (Y8 x) (Y8 y)=some (mcf x y):=by
 unfold cJ mcf
 simp only [Cj,Option.bind_some,P4,Y8]
 congr 1
 by_cases h1:x.1<y.1
 ·simp [h1]
 ·by_cases h2:y.1<x.1
  ·simp [h1,h2]
  ·by_cases h3:x.2.1<y.2.1
   ·simp [h1,h2,h3]
   ·by_cases h4:y.2.1<x.2.1<;>simp [h1,h2,h3,h4]
theorem Hq (x y:Tri):Call tab ow 108 [.agg (er x),.agg (er y)] []=some (.lit (.int .i64 (mcf x y)),[]):=lF (LA x y)
theorem a0L: ∀args w,(callFunc 108 args).run Proofs.Try.prog w= .ok (.enter 108 args) w:=enters_of Proofs.Try.func108 (by kernel_rfl) rfl
theorem a0l: ∀args w,(callFunc 135 args).run Proofs.Try.prog w= .ok (.enter 135 args) w:=enters_of Proofs.Try.func135 (by kernel_rfl) rfl
theorem a1c: ∀args w,(callFunc 95 args).run Proofs.Try.prog w= .ok (.enter 95 args) w:=enters_of Proofs.Try.func95 (by kernel_rfl) rfl
theorem a1v:xK Proofs.Try.prog 135 (zh 108):=U1 Proofs.Try.sortE Proofs.Try.isAgg108 Proofs.Try.sizeOf108 tabOK Hq a0L a0l
def T1:Tab:=fun f=>if f=135 then some (.ext (zh 108)) else none
def ow1:bK:=fun f=>owg [(135,[0])] f
theorem a2h:nX Proofs.Try.prog T1:=by
 refine ⟨fun f af h=> ?_,fun f g h=> ?_⟩
 ·unfold T1 at h;split at h<;>cases h
 ·unfold T1 at h
  split at h
  ·rename_i e;cases h;subst e;exact a1v
  ·cases h
theorem a2f (a:List V) (b:List Blk):Call T1 ow1 135 a b=zh 108 a b:=As (T:=T1) rfl a b
theorem WC (f:Nat):ow1 f=owg [(135,[0])] f:=rfl
def hE:ub:=⟨[(0,[0]),(1,[0,3]),(4,[0,3,4,5,8]),(5,[0,3,4,5,8,15]),(6,[0,3,8]),(7,[0,3]),(8,[2])],[],false,false⟩
noncomputable def bE:Code:=a04 Proofs.Try.f95
noncomputable def lE:Code:=cLp (cBk (cSB (cSA (cSB (cSB bE)))))
noncomputable def r4:Code:=cSA (cBk (cSB (cSB lE)))
noncomputable def q0:=cv (a:=mkC (gC tyT [] (cSA bE) [[0]] []).1)
noncomputable def q1:=cv (a:=mkC (gC tyT [] (cSA (cSB bE)) [[0,3]] []).1)
noncomputable def qR:=cv (a:=mkC (gC tyT [] (cSB (cBk (cSB (cSB lE)))) [[0,3,4,5,8,15],[0,3,8]] []).1)
noncomputable def qT:=cv (a:=mkC (gC tyT [] (cSB (cSB (cSB bE))) [[0,3],[2]] []).1)
noncomputable def q4:=cv (a:=(Kp r4).tail.map (gD tyT (Kp r4)))
theorem Zx:mkR 2000 []=rws oW []:=rfl
attribute [local go_sem] O7 Ry Ur Zx WC a2f
theorem e0 (L:List Tri):cO T1 ow1 q0.1 ⟨[(0,.mp 0)],[(0,⟨0,true,[am L]⟩)]⟩=some (.normal,⟨[(0,.mp 0)],[(0,⟨0,true,[am L]⟩)]⟩):=by
 rw [yl]
 simp+decide only [q0,go_sem,reduceIte,Nat.reduceAdd]
theorem e1 (L:List Tri):cO T1 ow1 q1.1 ⟨[(0,.mp 0)],[(0,⟨0,true,[am L]⟩)]⟩=some (.normal,⟨[(0,.mp 0),(3,.sl 2000 0 0)],[(0,⟨0,true,[am L]⟩),(2000,⟨3,false,rws oW []⟩)]⟩):=by
 rw [yl]
 simp+decide only [q1,go_sem,reduceIte,Nat.reduceAdd]
theorem XO:mkR 7007 []=rws oW []:=rfl
theorem nzE (a b v:Int):nzT (a,b,v)=(v !=0):=rfl
theorem eB (r:Nat) (L D:List Tri) (a b v:Int) (hD:D.length<1073741824): ∃S1 S2 g S3,dM (Call T1 ow1) ow1 q4.1 5001 (stE r L D a b v)=some S1∧cO T1 ow1 qR.1 (trim [0,3,4,5,8] S1)=some (.normal,S2)∧bc S2 g=some S3∧
 S3.m=v7 L (if nzT (a,b,v)=true then D++[(a,b,v)] else D)∧S3.get 0= .mp 0∧S3.get 8=nN r∧S3.get 3= .sl 2000 0 (if nzT (a,b,v)=true then D++[(a,b,v)] else D).length:=by
 have hf:aK (D++[(a,b,v)]).length 24=true:=by
  simp only [aK,List.length_append,List.length_cons,List.length_nil,decide_eq_true_eq,bf];omega
 have hp: ∀(h:ak) (bs:List Nat),fzA h bs (nN r)=nN r:=fun _ _=>rfl
 cases hv:v !=0 with
 |true=>
  obtain ⟨S1,h1,h2⟩:=Eg (T:=T1) (ow:=ow1) (b:=5001) (ss:=q4.1) (l:=[0,3,4,5,8]) (c:=qR.1) (st:=⟨[(0,.mp 0),(3,.sl 2000 0 D.length),(8,nN r),(11,.tup [.agg [I a,I b],I v])],[(0,⟨0,true,[am L]⟩),(2000,⟨3,false,rws oW D⟩)]⟩)
   (S2:=⟨[(0,.mp 0),(3,.sl 2000 0 (D++[(a,b,v)]).length),(8,nN r)],[(0,⟨0,true,[am L]⟩),(2000,⟨3,false,rws oW (D++[(a,b,v)])⟩),(5003,⟨2,true,[[I a,I b]]⟩),(7007,⟨3,false,rws oW [(a,b,v)]⟩)]⟩) (by
    simp+decide only [q4,qR,go_sem,reduceIte,Nat.reduceAdd,hv,XO,hf])
  refine ⟨S1,_,.close [5003,7007],⟨[(0,.mp 0),(3,.sl 2000 0 (D++[(a,b,v)]).length),(8,nN r)],v7 L (D++[(a,b,v)])⟩,h1,h2, ?_, ?_⟩
  ·show _=some (⟨[(0,.mp 0),(3,.sl 2000 0 (D++[(a,b,v)]).length),(8,nN r)],[(0,⟨0,true,[am L]⟩),(2000,⟨3,false,rws oW (D++[(a,b,v)])⟩)]⟩:St)
   simp+decide only [go_sem,reduceIte,Nat.reduceAdd,hp]
  ·rw [nzE,hv]
   exact ⟨rfl,rfl,rfl,rfl⟩
 |false=>
  obtain ⟨S1,h1,h2⟩:=Eg (T:=T1) (ow:=ow1) (b:=5001) (ss:=q4.1) (l:=[0,3,4,5,8]) (c:=qR.1) (st:=⟨[(0,.mp 0),(3,.sl 2000 0 D.length),(8,nN r),(11,.tup [.agg [I a,I b],I v])],[(0,⟨0,true,[am L]⟩),(2000,⟨3,false,rws oW D⟩)]⟩)
   (S2:=⟨[(0,.mp 0),(3,.sl 2000 0 D.length),(4,.ptr 5003 0 0 1),(5,I v),(8,nN r),(15,B (v !=0))],[(0,⟨0,true,[am L]⟩),(2000,⟨3,false,rws oW D⟩),(5003,⟨2,true,[[I a,I b]]⟩)]⟩) (by
    simp+decide only [q4,qR,go_sem,reduceIte,Nat.reduceAdd,hv])
  refine ⟨S1,_,.close [5003,7007],⟨[(0,.mp 0),(3,.sl 2000 0 D.length),(4,.undef),(5,I v),(8,nN r),(15,B (v !=0))],v7 L D⟩,h1,h2, ?_, ?_⟩
  ·show _=some (⟨[(0,.mp 0),(3,.sl 2000 0 D.length),(4,.undef),(5,I v),(8,nN r),(15,B (v !=0))],[(0,⟨0,true,[am L]⟩),(2000,⟨3,false,rws oW D⟩)]⟩:St)
   simp+decide only [go_sem,reduceIte,Nat.reduceAdd,hp,hv]
  ·rw [nzE,hv]
   exact ⟨rfl,rfl,rfl,rfl⟩
theorem eT (r:Nat) (L D:List Tri) (hk:ft D=true) (hD:D.length<1073741824): ∃S e,cO T1 ow1 qT.1 (stB r L D)=some (e,S)∧(e= .normal∨e= .ret)∧ ∀kp,fa ⟨28,qT.1,[.tmp 2],kp,false⟩ 1 (some (e,S))=some (Dy kp (bU D),CA kp L (bU D)):=by
 have hs:zh 108 [.sl 0 0 D.length,.fn 108 []] [⟨3,false,rws oW D⟩]=some (.tup [],[⟨3,false,rws oW (bU D)⟩]):=by
  have:rws oW D=D.map er:=rfl
  simp only [zh,this,Fq]
  rw [if_pos ⟨trivial,trivial,hk,by omega⟩]
  rfl
 have h1:cO T1 ow1 qT.1 ⟨[(0,.mp 0),(3,.sl 2000 0 D.length),(8,nN r)],[(0,⟨0,true,[am L]⟩),(2000,⟨3,false,rws oW D⟩)]⟩=some (.ret,⟨[(2,.sl 2000 0 D.length)],[(0,⟨0,true,[am L]⟩),(2000,⟨3,false,rws oW (bU D)⟩)]⟩):=by
  rw [yl]
  simp+decide only [qT,go_sem,reduceIte,Nat.reduceAdd,hs]
 exact ⟨_,_,h1,.inr rfl,US _ _ _ _ _ (Kn D).symm⟩
noncomputable def opN (c:Code) (i:Nat):Oper:=match (Kp c)[i]? with
 |some o=>o
 |none=>(Kp r4).headD ⟨none,.nilCheck (.tmp 0),0, "", #[],none⟩
noncomputable def a27:TA Proofs.Try.prog T1 ow1 Proofs.Try.f95 hE where
 c0:=cSA bE
 c1:=cSA (cSB bE)
 cR:=cSB (cBk (cSB (cSB lE)))
 cT:=cSB (cSB (cSB bE))
 o20:=opN (cSA (cSA (cSB (cSB bE)))) 0
 o21:=opN (cSA (cSA (cSB (cSB bE)))) 1
 o30:=opN (cSA lE) 0
 o31:=opN (cSA lE) 1
 ops4:=(Kp r4).toArray
 o40:=opN r4 0
 l4:=(Kp r4).tail
 tM:=133
 kM:=159
 eM:=3
 a0:=q0.1
 a1:=q1.1
 aR:=qR.1
 aT:=qT.1
 s4:=q4.1
 v4:=[0,3,4,5,8]
 rs:=[.tmp 2]
 body:=by kernel_rfl
 d20:=⟨rfl,rfl,rfl⟩
 d21:=⟨rfl,rfl,rfl⟩
 d30:=⟨rfl,rfl,rfl⟩
 d31:=⟨rfl,rfl,rfl⟩
 d40:=⟨rfl,rfl,rfl⟩
 e4:=rfl
 hM:=Proofs.Try.underlying133
 nt:=by decide
 k0:=by kernel_rfl
 k1:=by kernel_rfl
 kR:=by kernel_rfl
 kT:=by kernel_rfl
 k4:=by kernel_rfl
 kr:=by kernel_rfl
 e0:=fun L=>⟨_,e0 L,e1 L⟩
 eB:=eB
 v4s:=fun t=>Classical.em _
 eT:=eT
theorem entOK (kp:Bool):xK Proofs.Try.prog 95 (CM kp):=Xg kp a2h Proofs.Try.sortE.mixed a27 Proofs.Try.func95 a1c
end Go.AI.So
