/- Part. -/
import Derived.Test.YtdnkignjanfikaaGreatPv2
import Derived.KernelRfl
set_option linter.unusedVariables false
set_option linter.unusedSimpArgs false
namespace Go.AI.Fn
section
theorem MkR.mat {l:List aN} {row R C:Int} (h:MkR l row C) (q:row<=R-1) (c:l.length<=200):B8 l R C=true:=by
 refine b4n c fun t=> ?_
 rintro ⟨x,b,a⟩
 have d:x∈l:=al b
 obtain ⟨e,a2,a3,f,i,j⟩:=h.ent x d
 rcases a with a|⟨r,y,k,a⟩
 ·exact a ⟨⟨e,by omega⟩,⟨a3,f⟩,i,j⟩
 ·refine a ?_
  have m:=(eJ.1 b)
  have n:=(eJ.1 k)
  obtain ⟨o,e1⟩:=m
  obtain ⟨p,e2⟩:=n
  have:=o6.1 h.srt (t-1) t p o om
  rwa [e1,e2] at this
theorem X4 {l:List aC} (ok:OkC l):m8 (s7 l)=true:=by
 obtain ⟨m,e,f⟩:=MH ok l.length (am _)
 have hn:=ok.n2
 have h:=Ny l
 have i:=c2s (fdM l l.length).1
 have j:=a6a (r:=(fdM l l.length).1) om
 have k:=a2z ok
 unfold m8
 have c1:(s7 l).Rows=((rlM (fdM l l.length).1:Nat):Int):=rfl
 have c2:(s7 l).Cols=((lgC l:Nat):Int):=rfl
 have c3:(s7 l).Publics=((cu l 2:Nat):Int):=rfl
 have d:((lgC l:Nat):Int)-1=((lgC l-1:Nat):Int):=by omega
 rw [c1,c2,c3,d,M3 om,M3 om,M3 om]
 have la:=m.la
 have lb:=m.lb
 have lc:=m.lc
 have mA:B8 (s7 l).A ((2^rlM (fdM l l.length).1:Nat):Int) ((2^lgC l:Nat):Int)=true:=m.a.mat om (by show (fdM l l.length).2.1.length<=200;omega)
 have mB:B8 (s7 l).B ((2^rlM (fdM l l.length).1:Nat):Int) ((2^lgC l:Nat):Int)=true:=m.b.mat om (by show (fdM l l.length).2.2.1.length<=200;omega)
 have mC:B8 (s7 l).C ((2^rlM (fdM l l.length).1:Nat):Int) ((2^lgC l:Nat):Int)=true:=m.c.mat om (by show (fdM l l.length).2.2.2.length<=200;omega)
 rw [mA,mB,mC,aj om,aj om,aj om];rfl
theorem Kr (l:List aC):(s7 l).Rows.toNat=rlM (fdM l l.length).1:=rfl
theorem XN {L:List aN} {z:List Int} {n:Nat} (hn:n<=20) (d:OkM L ((2^n:Nat):Int) (z.length:Int)) (i:gY z):uu L (n:Int) z=some (muM L n z):=by
 have o:=d.len
 have f:2^n<=2^20:=Nat.pow_le_pow_right om hn
 have a:(2:Nat)^20=1048576:=by decide
 have h0:(0:Int)<=((2^n:Nat):Int):=vx _
 have p:((2^n:Nat):Int)<=1048576:=by rw [a] at f;exact Int.ofNat_le.2 f
 unfold uu
 rw [brd om,M3 om,a1m h0 (Int.le_refl _) om,aY]
 have key:=bq (step:=py z L (L.length:Int)) (fun j=>((L.take j).foldl (muS z) (List.replicate (2^n) 0),(j:Int))) L.length (e:=(muM L n z,(L.length:Int),false)) (fun j b=> ?_) ?_
 ·have:(((L.take 0).foldl (muS z) (List.replicate (2^n) 0),((0:Nat):Int)):List Int×Int)=(List.replicate (2^n) 0,0):=rfl
  rw [<-this,key];rfl
 ·obtain ⟨⟨h,a2⟩,⟨k,q⟩,v1,v2⟩:=d.ent L[j] (b9 b)
  have l:=VR z (L.take j) (List.replicate (2^n) 0)
  rw [aL] at l
  have c:gY ((L.take j).foldl (muS z) (List.replicate (2^n) 0)):=a3O z _ _ (by
   intro x m
   rw [List.eq_of_mem_replicate m]
   exact ⟨by omega,by omega⟩)
  simp only [py]
  rw [brd om,cJ b,obs,cA b,gG,bQ,jh]
  generalize (L.take j).foldl (muS z) (List.replicate (2^n) 0)=T at*
  generalize L[j]=x at*
  rw [brd h,brd om,lR om,obs,WI k om,obs,ml ⟨by omega,by omega⟩ (ko i om),obs,uS (ko c om) (wd _ _),obs,brd h,brd om,obs,ai _ om om,muS];rfl
 ·simp only [py]
  rw [brn om,ae om,bw];rfl
def VY (s:bD) (z:List Int) (k:Nat):Bool:=mF ((muM s.A s.Rows.toNat z).getD k 0) ((muM s.B s.Rows.toNat z).getD k 0)==(muM s.C s.Rows.toNat z).getD k 0
def S8 (s:bD) (z:List Int):Bool:=(List.range (2^s.Rows.toNat)).all (VY s z)
theorem b1y {s:bD} (h:m8 s=true):OkM s.A ((2^s.Rows.toNat:Nat):Int) ((2^s.Cols.toNat:Nat):Int)/\OkM s.B ((2^s.Rows.toNat:Nat):Int) ((2^s.Cols.toNat:Nat):Int)/\OkM s.C ((2^s.Rows.toNat:Nat):Int) ((2^s.Cols.toNat:Nat):Int):=by
 obtain ⟨d,e,_⟩:=fF h
 unfold m8 at h
 simp only [aB,aA] at h
 obtain ⟨_,_,_,a,b,c⟩:=h
 have e1:ct .i64 1 s.Rows=((2^s.Rows.toNat:Nat):Int):=by
  have:s.Rows=(s.Rows.toNat:Int):=by omega
  conv=>lhs;rw [this]
  exact M3 om
 have e2:ct .i64 1 s.Cols=((2^s.Cols.toNat:Nat):Int):=by
  have:s.Cols=(s.Cols.toNat:Int):=by omega
  conv=>lhs;rw [this]
  exact M3 om
 rw [e1,e2] at a b c
 exact ⟨HI a,HI b,HI c⟩
theorem ZO {s:bD} {z:List Int}:S8 s z=true↔ ∀k,k<2^s.Rows.toNat->mF ((muM s.A s.Rows.toNat z).getD k 0) ((muM s.B s.Rows.toNat z).getD k 0)=(muM s.C s.Rows.toNat z).getD k 0:=by
 unfold S8 VY
 rw [an]
 constructor
 ·intro h k a;simpa using h k (bS.2 a)
 ·intro h k a;simpa using h k (bS.1 a)
theorem b7K {l:List aC} {z:List Int} (ok:OkC l) (o:gY z) (z0:z.getD 0 0=1):
 S8 (s7 l) z=true↔ ∀(i:Nat) (hi:i<l.length),eqG (zc z (Ed l l[i].A.toNat)) (zc z (Ed l l[i].B.toNat)) (zc z (Ed l i)) l[i]:=by
 obtain ⟨m,q,s⟩:=MH ok l.length (am _)
 obtain ⟨p,rw3⟩:=b0h ok o z0 l.length (am _)
 have hn:=ok.n2
 have t:=a6a (r:=(fdM l l.length).1) om
 have gA: ∀k,k<2^(s7 l).Rows.toNat->(muM (s7 l).A (s7 l).Rows.toNat z).getD k 0=rV z k (fdM l l.length).2.1:=fun k f=>Xg fun e d=>by
  have n:=rw3.a e d
  obtain ⟨j,_⟩:=m.a.ent e d
  refine ⟨j, ?_⟩
  rw [Kr];omega
 have gB: ∀k,k<2^(s7 l).Rows.toNat->(muM (s7 l).B (s7 l).Rows.toNat z).getD k 0=rV z k (fdM l l.length).2.2.1:=fun k f=>Xg fun e d=>by
  have n:=rw3.b e d
  obtain ⟨j,_⟩:=m.b.ent e d
  refine ⟨j, ?_⟩
  rw [Kr];omega
 have gC: ∀k,k<2^(s7 l).Rows.toNat->(muM (s7 l).C (s7 l).Rows.toNat z).getD k 0=rV z k (fdM l l.length).2.2.2:=fun k f=>Xg fun e d=>by
  have n:=rw3.c e d
  obtain ⟨j,_⟩:=m.c.ent e d
  refine ⟨j, ?_⟩
  rw [Kr];omega
 have step:S8 (s7 l) z=true↔a9k z (fdM l l.length).1 (fdM l l.length).2.1 (fdM l l.length).2.2.1 (fdM l l.length).2.2.2:=by
  rw [ZO]
  constructor
  ·intro h k u v
   have f:k.toNat<2^(s7 l).Rows.toNat:=by rw [Kr];omega
   have:=h k.toNat f
   rw [gA _ f,gB _ f,gC _ f] at this
   rwa [show (k.toNat:Int)=k by omega] at this
  ·intro h k f
   rw [gA _ f,gB _ f,gC _ f]
   by_cases c:(k:Int)<(fdM l l.length).1
   ·exact h k om c
   ·rw [KE (fun e d=>by have:=rw3.a e d;omega),KE (fun e d=>by have:=rw3.b e d;omega),KE (fun e d=>by have:=rw3.c e d;omega)];rfl
 rw [step,p]
 exact ⟨fun h i hi=>h i hi hi,fun h i hi _=>h i hi⟩
end
set_option maxRecDepth 20000
section
def nK (x:Int):K:=toK (eN x)
theorem Wt {l:List Int} (h:gY l):l.map eN=kv (l.map nK):=by
 rw [kv,fb]
 exact bk fun x a=>(tQ (b0W (h x a))).symm
section
variable (s:bD) (t:Setting) (p z:List Int) (src:Source)
noncomputable def pW:List K:=(z.map nK).drop (gw s)
noncomputable def pRt:List UInt8:=wrK (s.Cols.toNat-1+t.Rate.toNat-1) (opW (s.Cols.toNat-1) t.Rate.toNat (pW s z))
noncomputable def pX1:Source:=vx1 s t p (pRt s t z) src
noncomputable def K4:List K:=(drL (pX1 s t p z src) s.Rows.toNat).map toK
noncomputable def pT1:List (List K):=[eqK (K4 s t p z src),(muM s.A s.Rows.toNat z).map nK,(muM s.B s.Rows.toNat z).map nK,(muM s.C s.Rows.toNat z).map nK]
noncomputable def pV1:List (List K)×List K×List (List K)×Source:=pvM 2 bh0 s.Rows.toNat [] (pT1 s t p z src) (drS (pX1 s t p z src) s.Rows.toNat)
noncomputable def pL (j:Nat):K:=(p6 (pV1 s t p z src).2.2.1).getD j 0
noncomputable def pX3:Source:=rsM (pV1 s t p z src).2.2.2 [pL s t p z src 1,pL s t p z src 2,pL s t p z src 3]
noncomputable def pT2:List (List K):=[btM s (eqK (pV1 s t p z src).2.1) (vr (pX3 s t p z src) 0) (vr (pX3 s t p z src) 1) (vr (pX3 s t p z src) 2),z.map nK]
noncomputable def pV2:List (List K)×List K×List (List K)×Source:=pvM 1 bh0 s.Cols.toNat [] (pT2 s t p z src) (drS (pX3 s t p z src) 3)
noncomputable def pPt:List K:=(pV2 s t p z src).2.1.take (s.Cols.toNat-1)
noncomputable def pVw:K:=jg (pW s z) (eqK (pPt s t p z src))
noncomputable def pX5:Source:=rsM (pV2 s t p z src).2.2.2 [pVw s t p z src]
noncomputable def pO:bK×Source×Bool:=Lm (s.Cols.toNat-1) t.Rate.toNat t.Queries.toNat t.Grind.toNat (pW s z) (pPt s t p z src) (pX5 s t p z src)
theorem a2K:pO s t p z src=Lm (s.Cols.toNat-1) t.Rate.toNat t.Queries.toNat t.Grind.toNat (pW s z) (pPt s t p z src) (pX5 s t p z src):=rfl
noncomputable def zG:jF:=⟨pRt s t z,kvv (pV1 s t p z src).1,(pL s t p z src 1).1,(pL s t p z src 2).1,(pL s t p z src 3).1,kvv (pV2 s t p z src).1,(pVw s t p z src).1,(pO s t p z src).1⟩
end
variable {s:bD} {t:Setting} {p z:List Int} {src:Source} {k:Int}
theorem a3H (h:m8 s=true) (lz:z.length=2^s.Cols.toNat):(pW s z).length=2^(s.Cols.toNat-1):=by
 have:=yd h
 rw [pW,bP,aw,lz,this]
 show 2*gw s-gw s=gw s
 omega
theorem To:(K4 s t p z src).length=s.Rows.toNat:=by rw [K4,aw,xg]
theorem a2j:OkT 2 (2^s.Rows.toNat) (pT1 s t p z src):=⟨.inr rfl,rfl,fun i hi=>by
 have:i=0\/i=1\/i=2\/i=3:=by
  have:i<4:=hi
  omega
 rcases this with rfl|rfl|rfl|rfl
 ·show (eqK (K4 s t p z src)).length=_;rw [DF,To]
 ·show ((muM s.A s.Rows.toNat z).map nK).length=_;rw [aw,Lo]
 ·show ((muM s.B s.Rows.toNat z).map nK).length=_;rw [aw,Lo]
 ·show ((muM s.C s.Rows.toNat z).map nK).length=_;rw [aw,Lo]⟩
theorem b3T (lz:z.length=2^s.Cols.toNat):OkT 1 (2^s.Cols.toNat) (pT2 s t p z src):=⟨.inl rfl,rfl,fun i hi=>by
 have:i=0\/i=1:=by
  have:i<2:=hi
  omega
 rcases this with rfl|rfl
 ·show (btM s _ _ _ _).length=_;rw [PV]
 ·show (z.map nK).length=_;rw [aw,lz]⟩
theorem a4I (h:Few src k):Few (pX1 s t p z src) (k+2):=((h.take _).take _).mono om
theorem a5e (h:Few src k) (a:m8 s=true) (b:k<=900000):Few (drS (pX1 s t p z src) s.Rows.toNat) (k+7):=by
 obtain ⟨c,_⟩:=fF a
 exact (EG (a4I h) om _ om).mono om
theorem a6q (h:Few src k) (a:m8 s=true) (b:k<=900000):Few (pV1 s t p z src).2.2.2 (k+22):=by
 obtain ⟨c,_⟩:=fF a
 exact (Yv b2D s.Rows.toNat [] _ _ _ (a5e h a b) om).mono om
theorem a4X (h:Few src k) (a:m8 s=true) (b:k<=900000):Few (pX3 s t p z src) (k+23):=(Few.take (a6q h a b) _).mono om
theorem a5R (h:Few src k) (a:m8 s=true) (b:k<=900000):Few (drS (pX3 s t p z src) 3) (k+26):=(EG (a4X h a b) om 3 om).mono om
theorem a59 (h:Few src k) (a:m8 s=true) (b:k<=900000):Few (pV2 s t p z src).2.2.2 (k+41):=by
 obtain ⟨_,hc,_⟩:=fF a
 exact (Yv b2D s.Cols.toNat [] _ _ _ (a5R h a b) om).mono om
theorem a56 (h:Few src k) (a:m8 s=true) (b:k<=900000):Few (pX5 s t p z src) (k+42):=(Few.take (a59 h a b) _).mono om
theorem Lb:(pV1 s t p z src).1.length=s.Rows.toNat/\(pV1 s t p z src).2.1.length=s.Rows.toNat:=NE _ _ _ _
theorem LH:(pV2 s t p z src).1.length=s.Cols.toNat/\(pV2 s t p z src).2.1.length=s.Cols.toNat:=NE _ _ _ _
theorem WK (h:m8 s=true):(pPt s t p z src).length=s.Cols.toNat-1:=by rw [pPt,aD,LH.2];omega
theorem b0L:(p6 (pV1 s t p z src).2.2.1).length=4:=by
 rw [Do]
 exact (RX s.Rows.toNat [] _ _ a2j).len
theorem WT (h:m8 s=true) (a:setB t=true):(pRt s t z).length=32:=by
 obtain ⟨_,hc,_⟩:=fF h
 obtain ⟨b,_,_⟩:=lQ a
 exact PX _ _
theorem c0J (s:bD):eG s=some (s.A,s.B,s.C):=rfl
theorem a4c (h:Kg s t p src) (a:Few src k) (hk:k<=700) (w:gY z) (lz:z.length=2^s.Cols.toNat):
 rG s t p z src=some (zG s t p z src,(pO s t p z src).2.2,(pO s t p z src).2.1):=by
 obtain ⟨hr,hc,hpb,_⟩:=fF h.sy
 obtain ⟨tr,tq,tg⟩:=lQ h.se
 obtain ⟨c1,c2,c3⟩:=AQ h.sy
 obtain ⟨mA,mB,mC⟩:=b1y h.sy
 have hth:=yd h.sy
 have h5:=Cq s.Cols.toNat om
 have h5r:=Cq s.Rows.toNat om
 have hpl:=h.pl
 have hst:=SZ s t p
 have hrt:=WT (z:=z) h.sy h.se
 have lw:=a3H (z:=z) h.sy lz
 have eR:(s.Rows.toNat:Int)=s.Rows:=by omega
 have eT:(t.Rate.toNat:Int)=t.Rate:=by omega
 obtain ⟨q,hq⟩: ∃q,s.Cols.toNat-1+t.Rate.toNat=q+1:=⟨s.Cols.toNat-1+t.Rate.toNat-1,by omega⟩
 have f1:=a4I (s:=s) (t:=t) (p:=p) (z:=z) a
 have f2:=a5e (t:=t) (p:=p) (z:=z) a h.sy om
 have f3:=a4X (t:=t) (p:=p) (z:=z) a h.sy om
 have f4:=a5R (t:=t) (p:=p) (z:=z) a h.sy om
 have f5:=a6q (t:=t) (p:=p) (z:=z) a h.sy om
 have f6:=a59 (t:=t) (p:=p) (z:=z) a h.sy om
 have f7:=a56 (t:=t) (p:=p) (z:=z) a h.sy om
 have g1:=Lb (s:=s) (t:=t) (p:=p) (z:=z) (src:=src)
 have g2:=LH (s:=s) (t:=t) (p:=p) (z:=z) (src:=src)
 have gp:=WK (t:=t) (p:=p) (z:=z) (src:=src) h.sy
 have gl:=b0L (s:=s) (t:=t) (p:=p) (z:=z) (src:=src)
 have d:qA z ((gw s:Nat):Int) (z.length:Int)=some (z.drop (gw s)):=by
  rw [kx om om om]
  simp only [aY,Option.some.injEq]
  refine aX ?_
  rw [bP];omega
 have hzd:gY (z.drop (gw s)):=fun x hx=>w x (bZ hx)
 have hpw:(z.drop (gw s)).map eN=kv (pW s z):=by rw [Wt hzd,pW,List.map_drop]
 have e:=wv f1 om (n:=s.Rows.toNat) om
 rw [eR] at e
 have f:=NC f1 om (n:=s.Rows.toNat) om
 have het:mb (drL (pX1 s t p z src) s.Rows.toNat)=some (kv (eqK (K4 s t p z src))):=by
  have:=s8 (l:=kv (K4 s t p z src)) (Al _) (by rw [bB,To];omega)
  rw [Gb] at this
  rwa [K4,b59 f] at this
 have b: ∀L:List aN,As (muM L s.Rows.toNat z)=some (kv ((muM L s.Rows.toNat z).map nK)):=fun L=>by
  rw [HO (by rw [Lo];omega),Wt (c1Y L _ z)]
 rw [<-lz] at mA mB mC
 have c: ∀L,OkM L ((2^s.Rows.toNat:Nat):Int) (z.length:Int)->uu L s.Rows z=some (muM L s.Rows.toNat z):=fun L hm=>by
  rw [<-eR];exact XN om hm w
 have hs1:di 2 [kv (eqK (K4 s t p z src)),kv ((muM s.A s.Rows.toNat z).map nK),kv ((muM s.B s.Rows.toNat z).map nK),kv ((muM s.C s.Rows.toNat z).map nK)] (drS (pX1 s t p z src) s.Rows.toNat)=
  some (kvv (pV1 s t p z src).1,kv (pV1 s t p z src).2.1,kv (p6 (pV1 s t p z src).2.2.1),(pV1 s t p z src).2.2.2):=
  Je (kind:=2) (v:=s.Rows.toNat) [] (T:=pT1 s t p z src) a2j f2 om om
 have ha1:atL (kv (p6 (pV1 s t p z src).2.2.1)) 1=some (pL s t p z src 1).1:=atK (j:=1) rfl om
 have ha2:atL (kv (p6 (pV1 s t p z src).2.2.1)) 2=some (pL s t p z src 2).1:=atK (j:=2) rfl om
 have ha3:atL (kv (p6 (pV1 s t p z src).2.2.1)) 3=some (pL s t p z src 3).1:=atK (j:=3) rfl om
 have hab:bL [(pL s t p z src 1).1,(pL s t p z src 2).1,(pL s t p z src 3).1] (pV1 s t p z src).2.2.2=some (pX3 s t p z src):=A1 (g:=[pL s t p z src 1,pL s t p z src 2,pL s t p z src 3]) f5.1 sm
 have i:=wv f3 om (n:=3) om
 rw [show ((3:Nat):Int)=3 from rfl,c6w f3 om] at i
 have hbt:=Ff h.sy (p:=(pV1 s t p z src).2.1) (R:=eqK (pV1 s t p z src).2.1) (x:=vr (pX3 s t p z src) 0) (y:=vr (pX3 s t p z src) 1) (z:=vr (pX3 s t p z src) 2) g1.2 (Gb _)
 have hs2:di 1 [kv (btM s (eqK (pV1 s t p z src).2.1) (vr (pX3 s t p z src) 0) (vr (pX3 s t p z src) 1) (vr (pX3 s t p z src) 2)),kv (z.map nK)] (drS (pX3 s t p z src) 3)=
  some (kvv (pV2 s t p z src).1,kv (pV2 s t p z src).2.1,kv (p6 (pV2 s t p z src).2.2.1),(pV2 s t p z src).2.2.2):=
  Je (kind:=1) (v:=s.Cols.toNat) [] (T:=pT2 s t p z src) (b3T lz) f4 om om
 have hsb:qA (kv (pV2 s t p z src).2.1) 0 (s.Cols-1)=some (kv (pPt s t p z src)):=by
  rw [kx om om (by rw [bB];omega),show (s.Cols-1).toNat-(0:Int).toNat=s.Cols.toNat-1 by omega]
  simp only [Int.toNat_zero,hK,pPt,kv,List.map_take]
 have hep:mb (kv (pPt s t p z src))=some (kv (eqK (pPt s t p z src))):=by
  have:=s8 (l:=kv (pPt s t p z src)) (Al _) (by rw [bB];omega)
  rwa [Gb] at this
 have o:GG (kv (pW s z)) (kv (eqK (pPt s t p z src)))=some (pVw s t p z src).1:=by
  rw [Ld (Al _) (Al _) (by rw [bB,bB,DF,gp,lw];exact am _) (by rw [bB,lw];have:=Cq (s.Cols.toNat-1) om;omega),Y3];rfl
 have r:bL [(pVw s t p z src).1] (pV2 s t p z src).2.2.2=some (pX5 s t p z src):=A1 (g:=[pVw s t p z src]) f6.1 sm
 have u:=a7v (v:=s.Cols.toNat-1) (ρ:=t.Rate.toNat) (nq:=t.Queries.toNat) (bits:=t.Grind.toNat) (t:=pW s z) (P:=pPt s t p z src) (s:=pX5 s t p z src) (st:=t) lw gp om om om om om eT.symm om om f7 om
 rw [<-a2K s t p z src] at u
 unfold rG
 rw [MW h.sy,obs,d,obs,HO (by rw [bP];omega),obs,hpw,Ge h,obs,my h.fw.1.3 om,obs,
  Sc lw om,obs, <-eT,LL (m:=s.Cols.toNat-1) (t:=t.Rate.toNat) om (by rw [vD];exact lw),obs,GI (k:=q) om (by rw [<-hq];exact Ev lw),obs,Su q _ om,obs]
 rw [show wrK q (Enc (s.Cols.toNat-1) t.Rate.toNat (cfK (s.Cols.toNat-1) (pW s z)))=pRt s t z by rw [pRt,hq,cU];rfl]
 rw [aS om,my (h.fw.take _).1.3 om,obs,show tkM (tkM src (Nf s t p)) (pRt s t z)=pX1 s t p z src from rfl,e,obs]
 dsimp only
 rw [het,obs,c0J,obs]
 dsimp only
 rw [c _ mA,obs,b,obs,aS sm,c _ mB,obs,b,obs,aS sm,c _ mC,obs,b,obs,aS sm]
 simp only [hO,bA]
 rw [hs1,obs]
 dsimp only
 rw [ha1,obs,ha2,obs,ha3,obs]
 rw [hab,obs,i,obs]
 dsimp only
 rw [brd (by simp [bB])]
 show (Option.bind (some ((vr (pX3 s t p z src) 0).1,(vr (pX3 s t p z src) 1).1,(vr (pX3 s t p z src) 2).1)) _)=_
 rw [obs]
 dsimp only
 rw [hbt,obs,HO om,Wt w,obs,hs2,obs]
 dsimp only
 rw [ai _ om om,hsb,obs,hep,obs,o,obs,r,obs,u,obs,zG]
end
section
variable {s:bD} {t:Setting} {p z:List Int} {src:Source} {k:Int}
theorem c5t {l:List K} (h:l.length=4):l=[l.getD 0 0,l.getD 1 0,l.getD 2 0,l.getD 3 0]:=by
 match l,h with
 |[a,b,c,d],_=>rfl
end
section
theorem c5Q {h n:Nat} {P pr:List Int}:(yJ h n P pr).getD 0 0=1:=rfl
theorem b6t {h n i:Nat} {P pr:List Int} (hi:i<P.length):(yJ h n P pr).getD (i+1) 0=P.getD i 0:=by
 rw [yJ,List.getD_eq_getElem?_getD,bc (by simp;omega),bc (by simp;omega),i6, <-List.getD_eq_getElem?_getD]
theorem b0v {h n i:Nat} {P pr:List Int} (b:P.length+1<=h) (hi:i<pr.length):(yJ h n P pr).getD (h+i) 0=pr.getD i 0:=by
 have a:((1::P)++List.replicate (h-1-P.length) (0:Int)).length=h:=by simp;omega
 rw [yJ,List.getD_eq_getElem?_getD,bt om,a,bc om,Nat.add_sub_cancel_left, <-List.getD_eq_getElem?_getD]
def QP (l:List aC) (P pr:List Int):List Int:=yJ (2^(lgC l-1)) (2^lgC l) P pr
theorem Q1 {l:List aC} (ok:OkC l) {P pr:List Int} (lP:P.length=cu l 2) (lp:pr.length+cu l 2=l.length):P.length+1<=2^(lgC l-1)/\pr.length<=2^(lgC l-1)/\2^lgC l=2^(lgC l-1)+2^(lgC l-1)/\2^lgC l<=32:=by
 have a:=a2z ok
 have b:=Ny l
 have c:=Ti (n:=lgC l) om
 have d:=Cq (lgC l) om
 omega
theorem b2i {l:List aC} (ok:OkC l) {P pr:List Int} (lP:P.length=cu l 2) (lp:pr.length+cu l 2=l.length) {j:Nat} (a:j<l.length):
 zc (QP l P pr) (Ed l j)=if l[j].Op=2 then P.getD (cu (l.take j) 2) 0 else pr.getD (j-cu (l.take j) 2) 0:=by
 obtain ⟨c,d,e,f⟩:=Q1 ok lP lp
 have l2:cu (l.take j) 2<=j:=by have:=iY (l.take j) 2;rw [aD] at this;omega
 unfold zc Ed
 rw [show l.getD j ⟨0,0,0,0⟩=l[j] by simp [a]]
 by_cases h:l[j].Op=2
 ·have:=mL a h
  rw [aa h,aa h,show ((cu (l.take j) 2:Int)+1).toNat=cu (l.take j) 2+1 by omega]
  exact b6t om
 ·have b:=NG l (j+1) 2
  rw [cA a,jf,a7 (by simpa using h)] at b
  rw [a7 h,a7 h,show (((2^(lgC l-1):Nat):Int)+((j:Int)-(cu (l.take j) 2:Int))).toNat=2^(lgC l-1)+(j-cu (l.take j) 2) by omega]
  exact b0v om om
theorem a57 {v:List Int} {l:List aC} {j:Nat} (a:j<l.length) (h:l[j].Op≠2): ∀n,j<n->n<=l.length->(prM v l n).getD (j-cu (l.take j) 2) 0=v.getD j 0
 |0,h0,_=>by omega
 |n+1,h0,hn=>by
  have i:=HF v l n om
  have c:=HF v l j om
  by_cases e:j=n
  ·subst e
   have d:l.getD j ⟨0,0,0,0⟩=l[j]:=by simp [a]
   rw [prM,d,a7 h,List.getD_eq_getElem?_getD,bt om,show j-cu (l.take j) 2-(prM v l j).length=0 by omega];rfl
  ·have ih:=a57 (v:=v) a h n om om
   have k:=HF v l (j+1) om
   have b:j-cu (l.take j) 2<(prM v l n).length:=by
    have f:=NG (l.take n) (j+1) 2
    rw [List.take_take,dp om,cA a,jf,a7 (by simpa using h),aD] at f
    have l2:cu (l.take j) 2<=j:=by have:=iY (l.take j) 2;rw [aD] at this;omega
    omega
   rw [prM,List.getD_eq_getElem?_getD,bc b, <-List.getD_eq_getElem?_getD,ih]
theorem Qh (v:List Int) (l:List aC):(prM v l l.length).length+cu l 2=l.length:=by
 have:=HF v l l.length (am _)
 rwa [bw] at this
theorem b2v (P I:List Int) (l:List aC) {j n:Nat} (c:j<n) (a:j<l.length):(rnM P I l n).getD j 0=gvM P I (rnM P I l j) (cu (l.take j) 2) (cu (l.take j) 1) l[j]:=by
 have b:l.getD j ⟨0,0,0,0⟩=l[j]:=by simp [a]
 rw [Mc P I l (j:=j+1) om om,rnM,b,List.getD_eq_getElem?_getD,bt (by rw [rY];omega),rY,kI];rfl
theorem XH {l:List aC} (ok:OkC l) {P I:List Int} (lP:P.length=cu l 2) {j:Nat} (a:j<l.length):
 zc (QP l P (prM (rnM P I l l.length) l l.length)) (Ed l j)=(rnM P I l l.length).getD j 0:=by
 rw [b2i ok lP (Qh _ _) a]
 by_cases h:l[j].Op=2
 ·rw [aa h,b2v P I l a a]
  unfold gvM
  rw [a7 om,aa h]
 ·rw [a7 h,a57 a h _ a (am _)]
theorem c4w {P I:List Int} {l:List aC} {j:Nat} (ok:OkC l) (r:gY P) (s:gY I) (lP:P.length=cu l 2) (lI:I.length=cu l 1) (o:j<l.length) (d:ly (rnM P I l l.length) l[j]=true):
 eqG ((rnM P I l l.length).getD l[j].A.toNat 0) ((rnM P I l l.length).getD l[j].B.toNat 0) ((rnM P I l l.length).getD j 0) l[j]:=by
 obtain ⟨x,t,u,y⟩:=xF (ok.g j o)
 have v:=K5 ok r s lP lI l.length (am _)
 have p:=rY P I l l.length
 rw [b2v P I l (n:=l.length) o o]
 have ga: ∀i:Nat,i<j->(rnM P I l j).getD i 0=(rnM P I l l.length).getD i 0:=fun i hi=>(Mc P I l hi om).symm
 unfold eqG gvM
 by_cases f:l[j].Op=1\/l[j].Op=2
 ·rw [aa f];trivial
 rw [a7 f,a7 (show ¬l[j].Op=1 by omega),a7 (show ¬l[j].Op=2 by omega)]
 by_cases c:l[j].Op=3
 ·rw [a7 om,a7 om,a7 om,aa c,aa c]
 have a:=t om
 rw [ga l[j].A.toNat om]
 by_cases w:l[j].Op=8
 ·rw [a7 om,a7 om,a7 om,a7 c,a7 om,a7 c,a7 om,a7 om,a7 om]
  refine ⟨?_,rfl⟩
  unfold ly at d
  rw [cn om,bre w,bm,aA] at d
  have h0:=(KM v l[j].A.toNat).1
  have:(rnM P I l l.length).getD l[j].A.toNat 0=0\/(rnM P I l l.length).getD l[j].A.toNat 0=1:=by omega
  rcases this with e|e<;>rw [e]<;>rfl
 have b:=u om om
 rw [ga l[j].B.toNat om]
 by_cases k:l[j].Op=6
 ·rw [aa k,a7 c,a7 om,a7 om,aa k]
 rw [a7 k]
 by_cases h:l[j].Op=4
 ·rw [aa h,a7 c,aa h]
 rw [a7 h]
 by_cases m:l[j].Op=5
 ·rw [aa m,a7 c,a7 h,aa m]
 have q:l[j].Op=7:=by omega
 rw [a7 m,a7 c,aa q,a7 c,a7 h,a7 m,a7 k]
 unfold ly at d
 rw [bre q,cn om,dO,beq_iff_eq] at d
 exact ⟨d.symm,rfl⟩
theorem a5A {l:List aC} {P pr:List Int} (a:gY P) (b:gY pr):gY (QP l P pr):=Yw a b
theorem a0r {l:List aC} (ok:OkC l) {P pr:List Int} (lP:P.length=cu l 2) (lp:pr.length+cu l 2=l.length):(QP l P pr).length=2^lgC l:=by
 obtain ⟨a,b,c,d⟩:=Q1 ok lP lp
 exact FV a om om
theorem b8g {l:List aC} (ok:OkC l) {P I:List Int} (d:gY P) (f:gY I) (lP:P.length=cu l 2) (lI:I.length=cu l 1) (j:l.all (ly (rnM P I l l.length))=true):
 S8 (s7 l) (QP l P (prM (rnM P I l l.length) l l.length))=true:=by
 have k:=K5 ok d f lP lI l.length (am _)
 have e:=Yy k (rY P I l l.length) l.length (am _)
 rw [b7K ok (a5A d e) c5Q]
 intro i hi
 obtain ⟨q,m,n,r⟩:=xF (ok.g i hi)
 have:=c4w ok d f lP lI hi (an.1 j _ (b9 hi))
 rw [XH ok lP hi]
 by_cases h:4<=l[i].Op
 ·have a:=m h
  rw [XH ok lP (by omega:l[i].A.toNat<l.length)]
  by_cases o:l[i].Op<=7
  ·have b:=n h o
   rw [XH ok lP (by omega:l[i].B.toNat<l.length)]
   exact this
  ·unfold eqG at this ⊢
   rw [a7 om,a7 om,a7 om,a7 om,a7 om,a7 om] at this ⊢
   exact this
 ·unfold eqG at this ⊢
  by_cases c:l[i].Op=1\/l[i].Op=2
  ·rw [aa c];trivial
  ·have p:l[i].Op=3:=by omega
   rw [a7 c,a7 om,a7 om,a7 om,aa p] at this ⊢
   exact this
theorem YZ {c:Circuit} {v:List Int} (ok:OkC c.Gates) (f:v.length=c.Gates.length):o0 c v=some (prM v c.Gates c.Gates.length):=by
 have hn:=ok.n2
 unfold o0
 have key:=bq (step:=i4 v c.Gates (c.Gates.length:Int) c.Gates) (fun j=>(prM v c.Gates j,(j:Int))) c.Gates.length (e:=(prM v c.Gates c.Gates.length,(c.Gates.length:Int),false)) (fun j b=> ?_) ?_
 ·have:((prM v c.Gates 0,((0:Nat):Int)):List Int×Int)=([],0):=rfl
  rw [<-this,key];rfl
 ·have d:c.Gates.getD j ⟨0,0,0,0⟩=c.Gates[j]:=by simp [b]
  have h:=HF v c.Gates j om
  simp only [i4]
  rw [brd om,cJ b,obs,prM,d,ai _ om om]
  by_cases a:c.Gates[j].Op=2
  ·rw [m9 a,aa a,bM];rfl
  ·rw [brb a,a7 a,CW om,obs,aS (by simp;omega)];rfl
 ·simp only [i4]
  rw [brn om,ae om]
end
set_option maxRecDepth 10000
section
abbrev DrS:Type:=(List aC)×Int×(List UInt8)×Int×Int
abbrev DrE:Type:=(List aC)×Int×Bool×(List UInt8)×Int×Int
noncomputable def Ox (l:List aC) (t2:Int) (g:aC) (m:bV):Option (DrS⊕DrE):=
 br (bj (l++[g]).length 32) (some (.inl (l++[g],IntKind.wrap .i64 (t2+1),m.code,m.at_,m.seed))) none
noncomputable def a4u (l:List aC) (t2 op a b:Int) (m:bV):Option (DrS⊕DrE):=
 br (op==3) ((b5 m).bind fun r_13=>(au 3 r_13.2).bind fun r_14=>
  br (decide (0<=r_14.1)) (br (decide (r_14.1.toNat<([0,1,r_13.1]:List Int).length)) ((([0,1,r_13.1]:List Int)[r_14.1.toNat]?).bind fun x=>
   Ox l t2 ⟨op,a,b,x⟩ r_14.2) none) none) (Ox l t2 ⟨op,a,b,0⟩ m)
noncomputable def a52 (l:List aC) (t2 op:Int) (m:bV):Option (DrS⊕DrE):=
 (jc op).bind fun r_9=>br (r_9==2)
  ((au t2 m).bind fun a=>(au t2 a.2).bind fun b=>
    br (op==7) ((cq 5 b.2).bind fun c=>br (!c.1) (a4u l t2 op a.1 a.1 c.2) (a4u l t2 op a.1 b.1 c.2)) (a4u l t2 op a.1 b.1 b.2))
  (br (r_9==1) ((au t2 m).bind fun a=>a4u l t2 op a.1 0 a.2) (a4u l t2 op 0 0 m))
noncomputable def a3S (l:List aC) (t2:Int) (m:bV):Option (DrS⊕DrE):=
 (jc 1).bind fun r_9=>br (r_9==2)
  ((au t2 m).bind fun a=>(au t2 a.2).bind fun b=>Ox l t2 ⟨1,a.1,b.1,0⟩ b.2)
  (br (r_9==1) ((au t2 m).bind fun a=>Ox l t2 ⟨1,a.1,0,0⟩ a.2) (Ox l t2 ⟨1,0,0,0⟩ m))
noncomputable def opM (l:List aC) (t2 op:Int) (m:bV):Option (DrS⊕DrE):=
 br (op==2) ((mU ⟨l⟩ 2).bind fun r_4=>br (r_4==3) (a3S l t2 m) (a52 l t2 op m)) (a52 l t2 op m)
theorem a7m (t t2:Int) (l:List aC) (c:List UInt8) (c2 c3:Int):jt t (l,t2,c,c2,c3)=
 br (decide (t2<t)) ((au 8 ⟨c,c2,c3⟩).bind fun r_2=>
  br (t2==0) ((au 3 r_2.2).bind fun r_3=>opM l t2 (IntKind.wrap .i64 (1+r_3.1)) r_3.2)
   ((cq 3 r_2.2).bind fun r_3=>br r_3.1 ((au 3 r_3.2).bind fun r_4=>opM l t2 (IntKind.wrap .i64 (1+r_4.1)) r_4.2) (opM l t2 (IntKind.wrap .i64 (1+r_2.1)) r_3.2)))
  (some (.inr (l,t2,decide (t2<t),c,c2,c3))):=rfl
def Psh (l:List aC) (k:Nat) (op B:Int) (o:Option (DrS⊕DrE)):Prop:=
 ∃g m,o=some (.inl (l++[g],((k+1:Nat):Int),m.code,m.at_,m.seed))/\sI g (k:Int)=true/\g.Op=op/\Src B m
theorem Wj {l:List aC} {k:Nat} {g:aC} {m:bV} {B:Int} (b:l.length<=100) (c:k<=100) (a:sI g (k:Int)=true) (h:Src B m):Psh l k g.Op B (Ox l (k:Int) g m):=by
 unfold Ox
 rw [aS (by simp;omega),ai _ om om]
 exact ⟨g,m,by rw [show (k:Int)+1=((k+1:Nat):Int) by omega],a,rfl,h⟩
theorem Xs {g:aC} {k:Int} (i:1<=g.Op/\g.Op<=8) (d:if 4<=g.Op then 0<=g.A/\g.A<=k-1 else g.A=0) (e:if 4<=g.Op/\g.Op<=7 then 0<=g.B/\g.B<=k-1 else g.B=0) (f:if g.Op=3 then okF g.K else g.K=0):sI g k=true:=by
 unfold sI
 rw [aj i,bm]
 have j:decide (CJ g.Op>0)=decide (4<=g.Op):=by
  unfold CJ
  split
  ·rw [aj om,aj om]
  ·split
   ·rw [aj om,aj om]
   ·rw [ae om,ae om]
 have l:decide (CJ g.Op>1)=decide (4<=g.Op/\g.Op<=7):=by
  unfold CJ
  split
  ·rename_i h;rw [aj om,aj h]
  ·rename_i h
   split
   ·rw [ae om,ae h]
   ·rw [ae om,ae h]
 rw [j,l]
 have a:br (decide (4<=g.Op)) (decide (0<=g.A/\g.A<=k-1)) (g.A==0)=true:=by
  by_cases h:4<=g.Op
  ·rw [aa h] at d;rw [brd h,aj d]
  ·rw [a7 h] at d;rw [brn h,d];rfl
 have b:br (decide (4<=g.Op/\g.Op<=7)) (decide (0<=g.B/\g.B<=k-1)) (g.B==0)=true:=by
  by_cases h:4<=g.Op/\g.Op<=7
  ·rw [aa h] at e;rw [brd h,aj e]
  ·rw [a7 h] at e;rw [brn h,e];rfl
 have c:br (g.Op==3) (El g.K) (g.K==0)=true:=by
  by_cases h:g.Op=3
  ·rw [aa h] at f;rw [bre h,H9.2 f]
  ·rw [a7 h] at f;rw [cn h,f];rfl
 rw [a,b,c];rfl
theorem Q3 {l:List aC} {k:Nat} {op a b:Int} {m:bV} {B:Int} (d:l.length<=100) (e:k<=100) (f:1<=op/\op<=8) (i:if 4<=op then 0<=a/\a<=(k:Int)-1 else a=0) (j:if 4<=op/\op<=7 then 0<=b/\b<=(k:Int)-1 else b=0)
 (h:Src B m) (u:B+21<Big):Psh l k op (B+21) (a4u l (k:Int) op a b m):=by
 unfold a4u
 by_cases c:op=3
 ·rw [bre c]
  obtain ⟨x,v,e1,ox,o⟩:=Dl h om
  obtain ⟨y,w,e2,p,q,_,r⟩:=kh (n:=3) o om
  have y3:=q om
  rw [e1,obs,e2,obs]
  dsimp only
  rw [brd p,brd (by simp;omega)]
  have s: ∃z,([0,1,x]:List Int)[y.toNat]? =some z/\okF z:=by
   have:y=0\/y=1\/y=2:=by omega
   rcases this with rfl|rfl|rfl
   ·exact ⟨0,rfl,by omega,by omega⟩
   ·exact ⟨1,rfl,by omega,by omega⟩
   ·exact ⟨x,rfl,ox⟩
  obtain ⟨z,t,oz⟩:=s
  rw [t,obs]
  exact Wj d e (Xs f i j (by rw [aa c];exact oz)) (r.mono om)
 ·rw [cn c]
  exact Wj d e (Xs f i j (by rw [a7 c])) (h.mono om)
theorem a6c {l:List aC} {k:Nat} {op:Int} {m:bV} {B:Int} (d:l.length<=100) (f:k<=100) (i:1<=op/\op<=8) (p:4<=op->1<=k) (h:Src B m) (hb:B+30<Big):Psh l k op (B+30) (a52 l (k:Int) op m):=by
 unfold a52
 rw [V6,obs]
 have up: ∀{C:Int} {o:Option (DrS⊕DrE)},C<=B+30->Psh l k op C o->Psh l k op (B+30) o:=fun hc ⟨g,m,e,v,w,q⟩=>⟨g,m,e,v,w,q.mono hc⟩
 have nx: ∀{C:Int} {m:bV},1<=k->Src C m->C+3<Big-> ∃x m',au (k:Int) m=some (x,m')/\(0<=x/\x<=(k:Int)-1)/\Src (C+3) m':=fun y q hc=>by
  obtain ⟨x,m',e,z,x1,x2,s⟩:=kh (n:=(k:Int)) q hc
  refine ⟨x,m',e,⟨z, ?_⟩,s⟩
  by_cases h2:1<(k:Int)
  ·have:=x1 h2;omega
  ·have:=x2 om;omega
 unfold CJ
 by_cases c1:4<=op/\op<=7
 ·rw [aa c1,bre rfl]
  obtain ⟨a,m1,e1,c,r⟩:=nx (p om) h om
  obtain ⟨b,m2,e2,j,t⟩:=nx (p om) r om
  rw [e1,obs,e2,obs]
  dsimp only
  by_cases c7:op=7
  ·rw [bre c7]
   obtain ⟨x,m3,e3,u⟩:=zR (n:=5) t om
   rw [e3,obs]
   dsimp only
   cases x
   ·exact up om (Q3 d f i (by rw [aa om];exact c) (by rw [aa c1];exact c) u om)
   ·exact up om (Q3 d f i (by rw [aa om];exact c) (by rw [aa c1];exact j) u om)
  ·rw [cn c7]
   exact up om (Q3 d f i (by rw [aa om];exact c) (by rw [aa c1];exact j) t om)
 ·rw [a7 c1]
  by_cases c8:op=8
  ·rw [aa c8,cn om,bre rfl]
   obtain ⟨a,m1,e1,c,r⟩:=nx (p om) h om
   rw [e1,obs]
   exact up om (Q3 d f i (by rw [aa om];exact c) (by rw [a7 c1]) r om)
  ·rw [a7 c8,cn om,cn om]
   exact up om (Q3 d f i (by rw [a7 om]) (by rw [a7 c1]) h om)
theorem b4j {l:List aC} {k:Nat} {m:bV} {B:Int} (a:l.length<=100) (b:k<=100) (h:Src B m):Psh l k 1 B (a3S l (k:Int) m):=by
 unfold a3S
 rw [V6,obs]
 show Psh l k 1 B (Ox l (k:Int) ⟨1,0,0,0⟩ m)
 exact Wj a b (Xs (g:=⟨1,0,0,0⟩) sm sm sm sm) h
theorem c4u {l:List aC} {k:Nat} {op:Int} {m:bV} {B:Int} (d:l.length<=100) (f:k<=100) (i:1<=op/\op<=8) (j:4<=op->1<=k) (o:cu l 2<=3) (h:Src B m) (n:B+30<Big):
 ∃g m',opM l (k:Int) op m=some (.inl (l++[g],((k+1:Nat):Int),m'.code,m'.at_,m'.seed))/\sI g (k:Int)=true/\cu (l++[g]) 2<=3/\Src (B+30) m':=by
 unfold opM
 by_cases c2:op=2
 ·rw [bre c2,JS (by show l.length<=_;omega),obs]
  by_cases c3:(cu l 2:Int)=3
  ·rw [bre c3]
   obtain ⟨g,m',e,a,c,b⟩:=b4j d f h
   refine ⟨g,m',e,a, ?_,b.mono om⟩
   rw [jf,a7 (by rw [c];decide)];omega
  ·rw [cn c3]
   obtain ⟨g,m',e,a,c,b⟩:=a6c d f i j h n
   refine ⟨g,m',e,a, ?_,b⟩
   rw [jf];split<;>omega
 ·rw [cn c2]
  obtain ⟨g,m',e,a,c,b⟩:=a6c d f i j h n
  refine ⟨g,m',e,a, ?_,b⟩
  rw [jf,a7 (by rw [c];simpa using c2)];omega
theorem Rz {m:bV} {B:Int} (h:Src B m) (hb:B+1000<Big): ∃l m',l0 m=some (⟨l⟩,m')/\OkC l/\l.length<=9/\cu l 2<=3/\Src (B+500) m':=by
 unfold l0
 obtain ⟨n,q,e1,n0,n1,_,s1⟩:=kh (n:=9) h om
 have n9:=n1 om
 rw [e1,obs]
 dsimp only
 rw [ai _ om om]
 obtain ⟨⟨l,i,b,c,a,s⟩,r,t⟩:=rg (step:=jt (1+n))
  (fun s=> ∃k:Nat,s.1.length=k/\s.2.1=(k:Int)/\(k:Int)<=1+n/\(∀(j:Nat) (d:j<s.1.length),sI s.1[j] (j:Int)=true)/\cu s.1 2<=3/\Src (B+3+40*k) ⟨s.2.2.1,s.2.2.2.1,s.2.2.2.2⟩) (fun s=>(1+n-s.2.1).toNat)
  (fun e=>(e.1.length:Int)=1+n/\(∀(j:Nat) (d:j<e.1.length),sI e.1[j] (j:Int)=true)/\cu e.1 2<=3/\Src (B+500) ⟨e.2.2.2.1,e.2.2.2.2.1,e.2.2.2.2.2⟩)
  (fun s=>by
   obtain ⟨l,i,c,a,sd⟩:=s
   rintro ⟨k,hl,hi,hk,u,v,f⟩
   dsimp only at hl hi u v f
   subst hi
   rw [a7m]
   by_cases c1:(k:Int)<1+n
   ·left
    rw [brd c1]
    have fin: ∀{op:Int} {m:bV} {C:Int},(1<=op/\op<=8)->(4<=op->1<=k)->Src C m->C<=B+3+40*k+10->
     ∃s',opM l (k:Int) (IntKind.wrap .i64 op) m=some (.inl s')/\(∃k:Nat,s'.1.length=k/\s'.2.1=(k:Int)/\(k:Int)<=1+n/\(∀(j:Nat) (d:j<s'.1.length),sI s'.1[j] (j:Int)=true)/\cu s'.1 2<=3/\Src (B+3+40*k) ⟨s'.2.2.1,s'.2.2.2.1,s'.2.2.2.2⟩)/\(1+n-s'.2.1).toNat<(1+n-(k:Int)).toNat:=by
     intro op m C h1 h4 f hC
     rw [ai op om om]
     obtain ⟨g,m',e,g0,r,t⟩:=c4u (l:=l) (k:=k) om om h1 h4 v f om
     refine ⟨_,e,⟨k+1,by simp [hl],rfl,by omega,fun j d=> ?_,r,t.mono om⟩,by dsimp only;omega⟩
     dsimp only at d ⊢
     rw [List.getElem_append]
     split
     ·rename_i o;exact u j o
     ·rename_i o
      have:j=k:=by simp at d;omega
      subst this
      simpa using g0
    obtain ⟨x,m2,e2,x0,x1,_,s2⟩:=kh (n:=8) f om
    have x8:=x1 om
    rw [e2,obs]
    dsimp only
    by_cases c0:(k:Int)=0
    ·rw [bre c0]
     obtain ⟨y,m3,w,y0,y1,_,p⟩:=kh (n:=3) s2 om
     have y3:=y1 om
     rw [w,obs]
     exact fin ⟨by dsimp only;omega,by dsimp only;omega⟩ (fun h=>by dsimp only at h;omega) p om
    ·rw [cn c0]
     obtain ⟨y,m3,w,p⟩:=zR (n:=3) s2 om
     rw [w,obs]
     dsimp only
     cases y
     ·exact fin ⟨by omega,by omega⟩ (fun _=>by omega) p om
     ·obtain ⟨z,m4,e4,z0,z1,_,s4⟩:=kh (n:=3) p om
      have z3:=z1 om
      rw [dj,e4,obs]
      exact fin ⟨by dsimp only;omega,by dsimp only;omega⟩ (fun h=>by dsimp only at h;omega) s4 om
   ·right
    rw [brn c1]
    exact ⟨_,rfl,by dsimp only;omega,u,v,f.mono om⟩)
  ([],0,q.code,q.at_,q.seed) ⟨0,rfl,rfl,by omega,fun j d=>by simp at d,by simp [cu],s1.mono om⟩
 rw [r,obs]
 obtain ⟨g3,g4,g5,g6⟩:=t
 dsimp only at g3 g4 g5 g6
 exact ⟨l,_,rfl,⟨by omega,by omega,g4,by omega⟩,by omega,g5,g6⟩
theorem XV {code:List UInt8} (h:code.length<=1048600): ∃l,uq code=some ⟨l⟩/\OkC l/\l.length<=9/\cu l 2<=3:=by
 unfold uq
 obtain ⟨m,e,a⟩:=Hr h
 obtain ⟨l,m',e2,b,c,d,_⟩:=Rz a dcd
 rw [e,obs,e2]
 exact ⟨l,rfl,b,c,d⟩
end
section
theorem Va {a b:List Int} {g:List aC} {n:Nat} (hn:n<=100) {m:bV} {B:Int} (h:Src B m) (hb:B+4000<Big):
 ∃l m',Loop (fk a b g) ([],(n:Int),m.code,m.at_,m.seed)=some (l,0,false,m'.code,m'.at_,m'.seed)/\l.length=n/\gY l/\Src (B+30*n) m':=by
 obtain ⟨⟨l,k,f,c,at_,sd⟩,v,g2⟩:=rg (step:=fk a b g)
  (fun s=>0<=s.2.1/\(s.1.length:Int)+s.2.1=n/\gY s.1/\Src (B+30*(n-s.2.1)) ⟨s.2.2.1,s.2.2.2.1,s.2.2.2.2⟩) (fun s=>s.2.1.toNat)
  (fun e=>e.2.1=0/\e.2.2.1=false/\e.1.length=n/\gY e.1/\Src (B+30*n) ⟨e.2.2.2.1,e.2.2.2.2.1,e.2.2.2.2.2⟩)
  (fun s=>by
   obtain ⟨l,k,c,at_,sd⟩:=s
   rintro ⟨k0,hl,i,j⟩
   dsimp only at k0 hl i j
   simp only [fk]
   by_cases c1:k>0
   ·left
    obtain ⟨x,m1,e1,x0,x1,_,s1⟩:=kh (n:=2) j om
    have x2:=x1 om
    obtain ⟨y,m2,e2,o⟩:=zR (n:=5) s1 om
    rw [brd c1,e1,obs]
    dsimp only
    rw [e2,obs,ai _ om om]
    dsimp only
    cases y
    ·rw [bu,aS (by simp;omega)]
     refine ⟨_,rfl,⟨by dsimp only;omega,by simp;omega,fun z d=> ?_,o.mono dmo⟩,by dsimp only;omega⟩
     rcases aJ.1 d with d|d
     ·exact i z d
     ·rw [bI] at d;subst d;exact ⟨x0,by omega⟩
    ·obtain ⟨w,m3,e3,ow,s3⟩:=Dl o om
     rw [dj,e3,obs]
     dsimp only
     rw [aS (by simp;omega)]
     refine ⟨_,rfl,⟨by dsimp only;omega,by simp;omega,fun z d=> ?_,s3.mono dmo⟩,by dsimp only;omega⟩
     rcases aJ.1 d with d|d
     ·exact i z d
     ·rw [bI] at d;subst d;exact ow
   ·right
    rw [brn c1]
    exact ⟨_,rfl,by dsimp only;omega,by dsimp only;rw [ae c1],by dsimp only;omega,i,j.mono om⟩)
  ([],(n:Int),m.code,m.at_,m.seed) ⟨by dsimp only;omega,by simp,(fun x hx=>by cases hx),h.mono sm⟩
 obtain ⟨p,q,r,t,u⟩:=g2
 dsimp only at p q r t u
 subst p q
 exact ⟨l,⟨c,at_,sd⟩,v,r,t,u⟩
theorem a8x {a b d e:List Int} {g g':List aC} (s:List Int×Int×List UInt8×Int×Int):jY a b g s=fk d e g' s:=rfl
theorem VJ {l:List aC} (f:l.length<=100) {m:bV} {B:Int} (h:Src B m) (i:B+10000<Big):
 ∃P I m',mf ⟨l⟩ m=some (P,I,m')/\gY P/\gY I/\P.length=cu l 2/\I.length=cu l 1/\Src (B+6000) m':=by
 have j:=iY l 2
 have k:=iY l 1
 unfold mf
 rw [JS (by show l.length<=_;omega),obs]
 dsimp only
 obtain ⟨P,o,e1,lP,oP,c⟩:=Va (a:=[]) (b:=[2,1]) (g:=l) (n:=cu l 2) om h om
 rw [e1,obs,JS (by show l.length<=_;omega),obs]
 dsimp only
 rw [show jY P [2,1] l=fk P [2,1] l from funext fun s=>a8x s]
 obtain ⟨I,d,e2,lI,oI,e⟩:=Va (a:=P) (b:=[2,1]) (g:=l) (n:=cu l 1) om c om
 rw [e2,obs]
 exact ⟨P,I,d,rfl,oP,oI,lP,lI,e.mono om⟩
theorem a0L {code:List UInt8} (h:code.length<=1048600) {l:List aC} (a:l.length<=100): ∃P I,ws code ⟨l⟩=some ⟨P,I⟩/\gY P/\gY I/\P.length=cu l 2/\I.length=cu l 1:=by
 unfold ws
 obtain ⟨m,e,b⟩:=Hr h
 obtain ⟨P,I,m',e2,c,d,f,i,_⟩:=VJ a b dcd
 rw [e,obs,e2]
 exact ⟨P,I,rfl,c,d,f,i⟩
end
section
theorem Vx {m:bV} {B:Int} (r:Src B m) (hB:B+1000<Big): ∃s m',mc m=some (s,m')/\Few s 4/\Src (B+500) m':=by
 unfold mc
 obtain ⟨y,m2,e2,p,t⟩:=a6m (l:=[[],[97],[108,97,98,101,108]]) r om dcd dcd
 have u:y.length<=1000:=by
  simp only [aW,List.mem_nil_iff,or_false] at p
  rcases p with rfl|rfl|rfl<;>simp
 rw [e2,obs,b47 (l:=y) om,obs]
 obtain ⟨b,m3,v,q⟩:=zR (n:=3) t om
 dsimp only
 rw [v,obs]
 cases b
 ·dsimp only
  obtain ⟨x,w,c,d,f,_,h⟩:=kh (n:=4) q om
  have x4:=f om
  rw [bu,c,obs]
  obtain ⟨e,j,o,a⟩:=b6o (c4:=0) (c5:=[]) (c6:=0) (i:=x) (k:=0) (s:=⟨[],0,H (b6a++y),0⟩) h ⟨a2v sm (fun x hx=>by cases hx),by simp,by simp⟩ d om om om
  dsimp only
  rw [j,obs,Zj (by show e.2.2.2.2.2.1.length<=_;have:=a.ok.len;dsimp only at this;omega),obs]
  exact ⟨_,_,rfl,a.mono om,o.mono om⟩
 ·dsimp only
  obtain ⟨z,w,c,z0,z1,_,h⟩:=kh (n:=5) q om
  have z5:=z1 om
  rw [dj,c,obs]
  dsimp only
  rw [ai _ om om]
  obtain ⟨L,m5,e5,L1,L2,s5⟩:=a5k (n:=1+z) h om om om
  rw [e5,obs]
  obtain ⟨x,m6,e6,d,f,_,s6⟩:=kh (n:=4) s5 om
  have x4:=f om
  dsimp only
  rw [e6,obs]
  obtain ⟨e,j,o,a⟩:=a5Q (c4:=0) (c5:=[]) (c6:=0) (i:=x) (k:=0) (s:=⟨L,0,H (b6a++y),0⟩) s6 ⟨a2v om L2,by simp,by simp⟩ d om om om
  dsimp only
  rw [j,obs,Zj (by show e.2.2.2.2.2.1.length<=_;have:=a.ok.len;dsimp only at this;omega),obs]
  exact ⟨_,_,rfl,a.mono om,o.mono om⟩
theorem Rr {m:bV} {B:Int} (h:Src B m) (j:B+1000<Big): ∃t m',kU m=some (t,m')/\setB t=true/\(t.Rate<=2/\t.Queries<=3/\t.Grind<=2)/\Src (B+9) m':=by
 unfold kU
 obtain ⟨x,k,e1,l,a,_,b⟩:=kh (n:=2) h om
 obtain ⟨y,o,e2,p,c,_,d⟩:=kh (n:=3) b om
 obtain ⟨z,q,e,z0,f,_,i⟩:=kh (n:=3) d om
 have r:=a om
 have s:=c om
 have u:=f om
 rw [e1,obs]
 dsimp only
 rw [e2,obs]
 dsimp only
 rw [e,obs]
 dsimp only
 rw [ai _ om om,ai _ om om]
 refine ⟨_,_,rfl, ?_,⟨by dsimp only;omega,by dsimp only;omega,by dsimp only;omega⟩,i.mono om⟩
 unfold setB
 rw [aj dmo,aj dmo,aj dmo];rfl
def c0k:List aC:=[⟨1,0,0,0⟩,⟨2,0,0,0⟩,⟨6,0,0,0⟩,⟨4,2,1,0⟩]
theorem b8K:OkC c0k:=⟨by decide,by decide,fun k a=>by
 have:k=0\/k=1\/k=2\/k=3:=by
  have:k<4:=a
  omega
 rcases this with rfl|rfl|rfl|rfl<;>rfl,by decide⟩
structure c3z (l:List aC) (P I:List Int):Prop where
 rc:a30 ⟨l⟩ P I
 fit:l.all (ly (rnM P I l l.length))=true
 n9:l.length<=9
 p3:cu l 2<=3
theorem a7I {m:bV} {B:Int} (h:Src B m) (hB:B+20000<Big): ∃l P I t s m',oX m=some (⟨l⟩,P,I,t,s,m')/\c3z l P I/\setB t=true/\(t.Rate<=2/\t.Queries<=3/\t.Grind<=2)/\Few s 4/\Src (B+10000) m':=by
 unfold oX
 obtain ⟨l,m1,e1,ok,q,p3,r⟩:=Rz h om
 obtain ⟨P,I,m2,e2,n,o,lP,lI,p⟩:=VJ (l:=l) om r om
 rw [e1,obs]
 dsimp only
 rw [e2,obs]
 dsimp only
 rw [YR (c:=⟨l⟩) ok n o lP lI,obs,WL (c:=⟨l⟩) ok (rY _ _ _ _),obs]
 cases u:l.all (ly (rnM P I l l.length))
 ·rw [lF,dj]
  obtain ⟨x,m3,v,ox,w⟩:=Dl p om
  obtain ⟨y,m4,e4,oy,s4⟩:=Dl w om
  obtain ⟨t,m5,b,d,t2,e⟩:=Rr s4 om
  obtain ⟨s,f,i,j,k⟩:=Vx e om
  rw [v,obs]
  dsimp only
  rw [e4,obs]
  dsimp only
  rw [b,obs]
  dsimp only
  rw [i,obs]
  refine ⟨c0k,[x],[y],t,s,f,rfl,⟨⟨b8K, ?_, ?_,rfl,rfl⟩,rfl,by decide,by decide⟩,d,t2,j,k.mono om⟩
  ·intro z a;rw [bI] at a;subst a;exact ox
  ·intro z a;rw [bI] at a;subst a;exact oy
 ·rw [aQ,bu]
  obtain ⟨t,m5,b,d,t2,e⟩:=Rr p om
  obtain ⟨s,f,i,j,k⟩:=Vx e om
  rw [b,obs]
  dsimp only
  rw [i,obs]
  exact ⟨l,P,I,t,s,f,rfl,⟨⟨ok,n,o,lP,lI⟩,u,q,p3⟩,d,t2,j,k.mono om⟩
theorem a0M {code:List UInt8} (h:code.length<=1048600): ∃l P I t s,Ao code=some ⟨⟨l⟩,P,I,t,s⟩/\c3z l P I/\setB t=true/\(t.Rate<=2/\t.Queries<=3/\t.Grind<=2)/\Few s 4:=by
 unfold Ao
 obtain ⟨m,e,a⟩:=Hr h
 obtain ⟨l,P,I,t,s,m',e2,b,c,d,f,_⟩:=a7I a dcd
 rw [e,obs,e2]
 exact ⟨l,P,I,t,s,rfl,b,c,d,f⟩
end
set_option maxRecDepth 20000
section
def pN:jF:=⟨[],[],⟨0,0⟩,⟨0,0⟩,⟨0,0⟩,[],⟨0,0⟩,⟨[],[],⟨0,0⟩,0,[]⟩⟩
noncomputable def pfR (s:bD) (t:Setting) (p z:List Int) (src:Source):jF×Int:=if (pO s t p z src).2.2=true then (zG s t p z src,0) else (pN,14)
theorem a1a {s:bD} {t:Setting} {p z:List Int} {src:Source} {k:Int} (h:Kg s t p src) (a:Few src k) (b:k<=700) (c:gY z) (lz:z.length=2^s.Cols.toNat):GS s t p z src=some (pfR s t p z src):=by
 unfold GS pfR
 rw [Oj (by have:=h.fw.1.1;omega),obs,a4c h a b c lz,obs]
 dsimp only
 cases (pO s t p z src).2.2
 ·rfl
 ·rfl
theorem b36 (s:bD) (t:Setting) (p z:List Int) (src:Source):(pfR s t p z src).2=0\/(pfR s t p z src).2=14:=by
 unfold pfR;split
 ·exact .inl rfl
 ·exact .inr rfl
theorem b3g {l:List aC} {P I:List Int} {t:Setting} {src:Source} {k:Int} (rc:a30 ⟨l⟩ P I) (a:setB t=true) (b:Few src k) (c:k<=700):Kg (s7 l) t P src:=by
 have n2:=iY l 2
 have hn:l.length<=15:=rc.ok.n2
 have lP:P.length=cu l 2:=rc.lP
 exact ⟨X4 rc.ok,a,by omega,rc.hP,by show (P.length:Int)=((cu l 2:Nat):Int);omega,b.mono om⟩
theorem Bw {l:List aC} {P I:List Int} {t:Setting} {src:Source} {k:Int} (rc:a30 ⟨l⟩ P I) (h:setB t=true) (d:Few src k) (i:k<=700):
 eV ⟨l⟩ t P I src=some (if l.all (ly (rnM P I l l.length))=true then pfR (s7 l) t P (QP l P (prM (rnM P I l l.length) l l.length)) src else (pN,15)):=by
 have hn:l.length<=15:=rc.ok.n2
 have n2:=iY l 2
 have lP:P.length=cu l 2:=rc.lP
 have j:=K5 rc.ok rc.hP rc.hI rc.lP rc.lI l.length (am _)
 have f:=Yy j (rY P I l l.length) l.length (am _)
 have b:=Qh (rnM P I l l.length) l
 obtain ⟨m,o,p,q⟩:=Q1 rc.ok lP b
 obtain ⟨n,e,r,s⟩:=b9B d om
 unfold eV
 rw [L3 (by show l.length<=_;omega),obs,b2e rc,m9 rfl,nV,obs,h,aQ,bu,XT d.1,obs,aQ,bu,e,obs,brn om,
  a06 rc.ok rc.hP rc.hI rc.lP rc.lI,obs]
 by_cases a:l.all (ly (rnM P I l l.length))=true
 ·rw [aa a,aa a]
  dsimp only
  rw [aQ,bu,OE rc.ok,obs,YZ rc.ok (rY P I l l.length),obs]
  dsimp only
  have c:jP (s7 l) P (prM (rnM P I l l.length) l l.length)=some (QP l P (prM (rnM P I l l.length) l l.length)):=OY (X4 rc.ok) m o
  rw [c,obs,a1a (b3g rc h d i) d i (a5A rc.hP f) (a0r rc.ok lP b),obs]
 ·rw [a7 a,a7 a];rfl
end
section
variable {s:bD} {t:Setting} {p z:List Int} {src:Source} {k:Int}
theorem a0x {R:List (List K)} {n:Nat} {m:Int} (a:(R.length:Int)=m) (b: ∀g∈R,g.length=n):qJ (kvv R) m (n:Int)=true:=by
 unfold qJ
 rw [tG,aj a,bm]
 refine an.2 fun x c=> ?_
 obtain ⟨g,d,rfl⟩:=bf.1 c
 unfold TM
 rw [bB,aj (by rw [b g d]),a0E.2 (Al g)];rfl
theorem b7w (h:(pO s t p z src).2.2=true): ∃n,n<65536/\(pO s t p z src).1=opO (s.Cols.toNat-1) t.Rate.toNat t.Queries.toNat n (pW s z) (pPt s t p z src) (pX5 s t p z src):=by
 rw [a2K] at h ⊢
 cases a:vA (opS (s.Cols.toNat-1) t.Rate.toNat (pW s z) (pPt s t p z src) (pX5 s t p z src)).State t.Grind.toNat with
 |none=>rw [Kn a] at h;cases h
 |some n=>
  rw [Kf a]
  exact ⟨n,(Ro a).1,rfl⟩
theorem XM (q:jF):okP q s t=(m8 s&&(setB t&&(h32 q.Root&&(qJ q.Gates s.Rows 4&&(vX q.VA&&(vX q.VB&&(vX q.VC&&(qJ q.Wires s.Cols 3&&(vX q.VW&&okO q.Open (s.Cols-1) t))))))))):=rfl
theorem b28:(zG s t p z src).Root=pRt s t z:=by rw [zG]
theorem c56:(zG s t p z src).Gates=kvv (pV1 s t p z src).1:=by rw [zG]
theorem c58:(zG s t p z src).VA=(pL s t p z src 1).1:=by rw [zG]
theorem c5M:(zG s t p z src).VB=(pL s t p z src 2).1:=by rw [zG]
theorem c5l:(zG s t p z src).VC=(pL s t p z src 3).1:=by rw [zG]
theorem c57:(zG s t p z src).Wires=kvv (pV2 s t p z src).1:=by rw [zG]
theorem c5b:(zG s t p z src).VW=(pVw s t p z src).1:=by rw [zG]
theorem c08:(zG s t p z src).Open=(pO s t p z src).1:=by rw [zG]
theorem W9 (b:m8 s=true) (c:setB t=true) (lz:z.length=2^s.Cols.toNat) (f:(pO s t p z src).2.2=true):okP (zG s t p z src) s t=true:=by
 obtain ⟨k,hc,_⟩:=fF b
 obtain ⟨tr,tq,tg⟩:=lQ c
 obtain ⟨n,hn,e⟩:=b7w f
 have a:=c49 (v:=s.Cols.toNat-1) (ρ:=t.Rate.toNat) (nq:=t.Queries.toNat) (n:=n) (st:=t) (t:=pW s z) (P:=pPt s t p z src) (s:=pX5 s t p z src) (a3H b lz) om om om c om om hn
 rw [<-e,show ((s.Cols.toNat-1:Nat):Int)=s.Cols-1 by omega] at a
 have l:=Lb (s:=s) (t:=t) (p:=p) (z:=z) (src:=src)
 have m:=LH (s:=s) (t:=t) (p:=p) (z:=z) (src:=src)
 have h:qJ (kvv (pV1 s t p z src).1) s.Rows ((4:Nat):Int)=true:=a0x om (fun g d=>Ht (kind:=2) (bh:=bh0) _ _ _ _ g d)
 have i:qJ (kvv (pV2 s t p z src).1) s.Cols ((3:Nat):Int)=true:=a0x om (fun g d=>Ht (kind:=1) (bh:=bh0) _ _ _ _ g d)
 have j:h32 (pRt s t z)=true:=aj (WT b c)
 have o: ∀x:K,vX x.1=true:=fun x=>ve.2 x.2
 rw [XM,b,c,b28,j,c56,show qJ (kvv (pV1 s t p z src).1) s.Rows 4=true from h,c58,o,c5M,o,c5l,o,c57,show qJ (kvv (pV2 s t p z src).1) s.Cols 3=true from i,c5b,o,c08,a];rfl
def pB (q:jF):List UInt8:=q.Root++q.Gates.flatMap (fun g=>g.flatMap e8)++[q.VA,q.VB,q.VC].flatMap e8++q.Wires.flatMap (fun g=>g.flatMap e8)++[q.VW].flatMap e8++oB q.Open
theorem b3R {q:jF} (h:okP q s t=true):q.Root.length=32/\(q.Gates.length<=5/\ ∀g∈q.Gates,g.length<=4)/\(q.Wires.length<=5/\ ∀g∈q.Wires,g.length<=4)/\BoO q.Open:=by
 unfold okP at h
 simp only [aB] at h
 obtain ⟨c,k,d,e,_,_,_,f,_,i⟩:=h
 obtain ⟨l,hc,_⟩:=fF c
 have rb: ∀{R:List (List Ext)} {m:Int} {n:Nat},m<=5->n<=4->qJ R m (n:Int)=true->R.length<=5/\ ∀g∈R,g.length<=4:=fun o hn h=>by
  unfold qJ at h
  rw [aB,aA] at h
  refine ⟨by omega,fun g j=> ?_⟩
  have:=an.1 h.2 g j
  unfold TM at this
  rw [aB,aA] at this
  omega
 have a:=rb (n:=4) om om e
 have b:=rb (n:=3) om om f
 refine ⟨gy d,a,b, ?_⟩
 exact (MK (v:=s.Cols.toNat-1) (by rw [show ((s.Cols.toNat-1:Nat):Int)=s.Cols-1 by omega];exact i)).bo
theorem c5w {o:bK} (h:BoO o):(oB o).length<=20000:=by
 have e:=GC (l:=o.Rounds) (f:=fun g:List Ext=>g.flatMap e8) (c:=24) (fun g a=>h.rnd a)
 have l2:=GC (l:=o.Roots) (f:=fun x:List UInt8=>x) (c:=32) (fun x b=>h.rh x b)
 have l3:=iW [o.Last]
 have l4:=GC (l:=o.Queries) (f:=qB) (c:=1632) (fun q d=>h.qry d)
 have i:=h.rn
 have j:=h.ro
 have k:=h.qn
 simp only [ab,ah] at l3
 have e2:(o.Roots.flatMap id).length<=o.Roots.length*32:=l2
 unfold oB
 simp only [a8,gc]
 omega
theorem BoO.sz {o:bK} (h:BoO o):SzO o:=by
 have e:=h.rn
 have f:=h.ro
 have i:=h.qn
 refine ⟨⟨by omega,fun g c=>by have:=h.rr g c;omega⟩,⟨by omega,fun x a=>by have:=h.rh x a;unfold SzT;omega⟩,by omega,fun q b=>⟨by have:=h.qp q b;omega,by have:=h.qt q b;omega,fun x a=>⟨by have:=(h.qq q b x a).1;omega,fun y d=>by have:=(h.qq q b x a).2 y d;unfold SzT;omega⟩⟩⟩
theorem a2N {q:jF} (h:okP q s t=true):SzP q:=by
 obtain ⟨e,⟨a,b⟩,⟨f,c⟩,d⟩:=b3R h
 exact ⟨by unfold SzT;omega,⟨by omega,fun g a=>by have:=b g a;omega⟩,⟨by omega,fun g a=>by have:=c g a;omega⟩,d.sz⟩
theorem b5K {α:Type} {l:List α} {j:Nat} (h:j<l.length):l[j]∈l:=b9 h
end
section
end
section
theorem Oy (x:Int):nK x=kF x:=K.ext (CD rfl rfl)
theorem c4Z (a b:Int):kF (aF a b)=kF a+kF b:=K.ext (CD (by show (a+b)%2130706433%2130706433=(a%2130706433+b%2130706433)%2130706433;omega) rfl)
theorem Sq (l:List Int) (j:Nat):(l.map nK).getD j 0=nK (l.getD j 0):=by
 by_cases h:j<l.length
 ·simp [h]
 ·simp [h];exact (Oy 0).symm
theorem b1F {z:List Int} (R:List K): ∀(l:List aN) (T:List Int),(∀e∈l,e.Row.toNat<T.length)->jg ((l.foldl (muS z) T).map nK) R=jg (T.map nK) R+sK R (z.map nK) l
 |[],T,_=>by rw [jh,sK];exact kg
 |x::l,T,h=>by
  rw [bQ,b1F R l _ fun y hy=>by rw [muS,aO];exact h y (by simp [hy]),sK]
  have e:(muS z T x).map nK=(T.map nK).set x.Row.toNat ((T.map nK).getD x.Row.toNat 0+kF x.Value*(z.map nK).getD x.Col.toNat 0):=by
   rw [muS,List.map_set,Sq,Sq,Oy,c4Z,QQ, <-Oy (T.getD _ _), <-Oy (z.getD _ _)]
  rw [e,QR _ _ _ _ (by rw [aw];exact h x sm)]
  generalize jg (T.map nK) R=a
  generalize (z.map nK).getD x.Col.toNat 0=b
  generalize R.getD x.Row.toNat 0=c
  generalize sK R (z.map nK) l=d
  clear e h
  exact kg
theorem c4N {z:List Int} (R:List K) {l:List aN} {n:Nat} (h: ∀e∈l,0<=e.Row/\e.Row<((2^n:Nat):Int)):jg ((muM l n z).map nK) R=sK R (z.map nK) l:=by
 rw [muM,b1F R l _ fun e a=>by have:=h e a;rw [aL];omega,vN,Oy,k0v',RT]
 exact kg
where
 k0v':kF 0=0:=rfl
theorem a6d: ∀(A B:List K) (c:K),eaK A B c=eaK B A c
 |[],[],c=>rfl
 |[],_::_,c=>rfl
 |_::_,[],c=>rfl
 |x::A,y::B,c=>by
  rw [eaK,eaK,a6d A B,show c*(x*y+(1-x)*(1-y))=c*(y*x+(1-y)*(1-x)) from kg]
theorem a1x: ∀(A B C D:List K),A.length=C.length->jg (A++B) (C++D)=jg A C+jg B D
 |[],B,[],D,_=>by
  show jg B D=0+jg B D
  exact kg
 |a::A,B,c::C,D,h=>by
  have:=a1x A B C D (by simpa using h)
  show a*c+jg (A++B) (C++D)=a*c+jg A C+jg B D
  rw [this]
  exact kg
theorem Nn (p:K): ∀(A E:List K),jg A (E.map fun x=>x*p)=jg A E*p
 |[],E=>by
  show (0:K)=0*p
  exact kg
 |_::_,[]=>by
  show (0:K)=0*p
  exact kg
 |a::A,e::E=>by
  have:=Nn p A E
  show a*(e*p)+jg A (E.map fun x=>x*p)=(a*e+jg A E)*p
  rw [this]
  exact kg
theorem b2l {Z low:List K} {top:K} (h:Z.length=2^low.length+2^low.length):
 jg Z (eqK (low++[top]))=jg (Z.take (2^low.length)) (eqK low)+top*(jg (Z.drop (2^low.length)) (eqK low)-jg (Z.take (2^low.length)) (eqK low)):=by
 have e:eqK (low++[top])=(eqK low).map (fun a=>a*(1-top))++(eqK low).map (fun a=>a*top):=by
  rw [eqK,gG];rfl
 conv=>lhs;rw [<-j0 (2^low.length) Z]
 rw [e,a1x _ _ _ _ (by rw [aD,aw,DF];omega),Nn,Nn]
 generalize jg (Z.take (2^low.length)) (eqK low)=a
 generalize jg (Z.drop (2^low.length)) (eqK low)=b
 clear h e
 exact kg
theorem UR {f:Nat->K}: ∀n,(∀k,k<n->f k=0)->sR n f=0
 |0,_=>rfl
 |n+1,h=>by rw [sR,UR n fun k a=>h k om,h n om];exact kg
theorem c6c {s:bD} (h:m8 s=true) (R Z:List K) (x y w:K):jg (btM s R x y w) Z=x*sK R Z s.A+(y*sK R Z s.B+w*sK R Z s.C):=by
 obtain ⟨mA,mB,mC⟩:=b1y h
 have cl: ∀{L:List aN} {RR:Int},OkM L RR ((2^s.Cols.toNat:Nat):Int)-> ∀e∈L,e.Col.toNat<2^s.Cols.toNat:=fun m e d=>by
  obtain ⟨_,hc,_⟩:=m.ent e d
  omega
 rw [btM,Xj _ _ _ _ _ (by rw [uP,uP,aL];exact cl mC),Xj _ _ _ _ _ (by rw [uP,aL];exact cl mB),Xj _ _ _ _ _ (by rw [aL];exact cl mA),RT]
 generalize sK R Z s.A=a
 generalize sK R Z s.B=b
 generalize sK R Z s.C=c
 clear mA mB mC cl h
 exact kg
theorem a6e (x:K):toK x.1=x:=K.ext (tQ x.2)
theorem c4l (v ρ nq n:Nat) (t P:List K) (s:Source):Sr (opO v ρ nq n t P s)=(opQ v ρ t P s).1:=by
 show (kvv (opQ v ρ t P s).1).map (fun g=>g.map toK)=_
 rw [kvv,fb]
 refine (bk fun g _=> ?_).trans (jR _)
 show (kv g).map toK=g
 rw [kv,fb]
 exact (bk fun x _=>a6e x).trans (jR _)
variable {s:bD} {t:Setting} {p z:List Int} {src:Source} {k:Int}
theorem b6I (a:S8 s z=true):wE 2 (pT1 s t p z src) (2^s.Rows.toNat)=0:=UR _ fun k b=>by
 have h:=ZO.1 a k b
 show cmK 2 (uX (pT1 s t p z src) k)=0
 rw [cmK,a7 dcd,vP,vP,vP,vP]
 show (eqK (K4 s t p z src)).getD k 0*(((muM s.A s.Rows.toNat z).map nK).getD k 0*((muM s.B s.Rows.toNat z).map nK).getD k 0-((muM s.C s.Rows.toNat z).map nK).getD k 0)=0
 rw [Sq,Sq,Sq,Oy,Oy,Oy, <-h,QQ]
 exact kg
theorem a3r (a:S8 s z=true):vg1 s t p (pRt s t z) (pV1 s t p z src).1 src=(0,(pV1 s t p z src).2.1,wE 2 (pV1 s t p z src).2.2.1 1,(pV1 s t p z src).2.2.2):=by
 have key:=a5F (kind:=2) (bh:=bh0) (bv:=bv0) s.Rows.toNat [] (pT1 s t p z src) (drS (pX1 s t p z src) s.Rows.toNat) a2j (fun _ _ _=>rfl)
 rw [b6I a,ah] at key
 exact key
theorem a5L (i:Nat):(pV1 s t p z src).2.2.1.getD i []=Fy (pV1 s t p z src).2.1 ((pT1 s t p z src).getD i []):=Tk (kind:=2) (bh:=bh0) i _ _ _ _
theorem a6v (i:Nat):(pV2 s t p z src).2.2.1.getD i []=Fy (pV2 s t p z src).2.1 ((pT2 s t p z src).getD i []):=Tk (kind:=1) (bh:=bh0) i _ _ _ _
theorem c1T:cmK 2 [eaK (K4 s t p z src) (pV1 s t p z src).2.1 1,pL s t p z src 1,pL s t p z src 2,pL s t p z src 3]=wE 2 (pV1 s t p z src).2.2.1 1:=by
 have h0:(p6 (pV1 s t p z src).2.2.1).getD 0 0=eaK (K4 s t p z src) (pV1 s t p z src).2.1 1:=by
  have a:=a3i (pV1 s t p z src).2.1 (K4 s t p z src) 1 (by rw [Lb.2,To])
  rw [CX,a5L,a6d, <-a]
  show (Fy (pV1 s t p z src).2.1 (eqK (K4 s t p z src))).getD 0 0=_
  generalize (Fy (pV1 s t p z src).2.1 (eqK (K4 s t p z src))).getD 0 0=y
  clear a
  exact kg
 rw [VQ, <-h0]
 conv=>rhs;rw [c5t (b0L (s:=s) (t:=t) (p:=p) (z:=z) (src:=src))]
 rfl
theorem a2t {j:Nat} {L:List aN} (c:m8 s=true) (a:(pT1 s t p z src).getD j []=(muM L s.Rows.toNat z).map nK) (b: ∀e∈L,0<=e.Row/\e.Row<((2^s.Rows.toNat:Nat):Int)):pL s t p z src j=sK (eqK (pV1 s t p z src).2.1) (z.map nK) L:=by
 rw [pL,CX,a5L,a, <-PS _ _ (by rw [aw,Lo,Lb.2]),c4N _ b]
theorem a8J (a:m8 s=true) (lz:z.length=2^s.Cols.toNat):vr (pX3 s t p z src) 0*pL s t p z src 1+(vr (pX3 s t p z src) 1*pL s t p z src 2+vr (pX3 s t p z src) 2*pL s t p z src 3)=wE 1 (pT2 s t p z src) (2^s.Cols.toNat):=by
 obtain ⟨mA,mB,mC⟩:=b1y a
 have rw_: ∀{L:List aN} {CC:Int},OkM L ((2^s.Rows.toNat:Nat):Int) CC-> ∀e∈L,0<=e.Row/\e.Row<((2^s.Rows.toNat:Nat):Int):=fun m e b=>by have:=(m.ent e b).1;omega
 rw [pT2,a5n (PV _ _ _ _ _) (by rw [aw,lz]),c6c a,a2t (j:=1) (L:=s.A) a rfl (rw_ mA),a2t (j:=2) (L:=s.B) a rfl (rw_ mB),a2t (j:=3) (L:=s.C) a rfl (rw_ mC)]
theorem c1B (b:m8 s=true) (a:S8 s z=true) (lz:z.length=2^s.Cols.toNat):vg2 s t p (pRt s t z) (pV1 s t p z src).1 (pV2 s t p z src).1 (pL s t p z src 1) (pL s t p z src 2) (pL s t p z src 3) src=(0,(pV2 s t p z src).2.1,wE 1 (pV2 s t p z src).2.2.1 1,(pV2 s t p z src).2.2.2):=by
 have key:=a5F (kind:=1) (bh:=bh0) (bv:=bv0) s.Cols.toNat [] (pT2 s t p z src) (drS (pX3 s t p z src) 3) (b3T lz) (fun _ _ _=>rfl)
 rw [<-a8J b lz,ah] at key
 have e:vx3 s t p (pRt s t z) (pV1 s t p z src).1 (pL s t p z src 1) (pL s t p z src 2) (pL s t p z src 3) src=pX3 s t p z src:=by
  rw [vx3,a3r a];rfl
 rw [vg2,e]
 exact key
theorem b30 (d:m8 s=true) {pr:List Int} (lp1:p.length+1<=gw s) (lp:pr.length<=gw s) (k:gY p) (l:z=yJ (gw s) (2^s.Cols.toNat) p pr) (lz:z.length=2^s.Cols.toNat) (e:gY z):
 a5y s p (pV1 s t p z src).2.1 (pV2 s t p z src).2.1 (vr (pX3 s t p z src) 0) (vr (pX3 s t p z src) 1) (vr (pX3 s t p z src) 2) (pVw s t p z src)=wE 1 (pV2 s t p z src).2.2.1 1:=by
 have m:=yd d
 obtain ⟨c1,c2,c3⟩:=AQ d
 have h:=LH (s:=s) (t:=t) (p:=p) (z:=z) (src:=src)
 have gp:=WK (t:=t) (p:=p) (z:=z) (src:=src) d
 have i:gw s=2^(pPt s t p z src).length:=by rw [gp];rfl
 have a:(pV2 s t p z src).2.1=pPt s t p z src++[(pV2 s t p z src).2.1.getD (s.Cols.toNat-1) 0]:=by
  conv=>lhs;rw [<-j0 (s.Cols.toNat-1) (pV2 s t p z src).2.1]
  rw [pPt]
  congr 1
  rw [jr om,iu om]
  simp [show s.Cols.toNat-1<(pV2 s t p z src).2.1.length by omega]
 have c:a7L s p (pPt s t p z src)=jg ((z.map nK).take (gw s)) (eqK (pPt s t p z src)):=by
  refine K.ext ?_
  have et:(yJ (gw s) (2^s.Cols.toNat) p []).take (gw s)=z.take (gw s):=by
   have b:((1::p)++List.replicate (gw s-1-p.length) (0:Int)).length=gw s:=by simp;omega
   rw [l,yJ,yJ,List.take_left' b,List.take_left' b]
  rw [Zl,b7y,et,Wt (fun x n=>e x (cm n)),Gb,Y3,List.map_take]
 have f:pVw s t p z src=jg ((z.map nK).drop (gw s)) (eqK (pPt s t p z src)):=rfl
 have j:=b2l (Z:=z.map nK) (low:=pPt s t p z src) (top:=(pV2 s t p z src).2.1.getD (s.Cols.toNat-1) 0) (by rw [aw,lz, <-i];omega)
 rw [<-a, <-i, <-c, <-f] at j
 rw [UF,show (pV2 s t p z src).2.1.take (s.Cols.toNat-1)=pPt s t p z src from rfl, <-j,VQ,cmK,aa rfl,CX,CX,a6v,a6v, <-PS _ _ (by rw [h.2];exact PV _ _ _ _ _), <-PS _ _ (by rw [h.2];show (z.map nK).length=_;rw [aw,lz])]
 rfl
theorem a9G (a:m8 s=true) (i:setB t=true) (j:Few src k) (l:k<=700) (lz:z.length=2^s.Cols.toNat) (c:(pO s t p z src).2.2=true):
 chO (s.Cols.toNat-1) t.Rate.toNat t.Queries.toNat t.Grind.toNat (pRt s t z) (pPt s t p z src) (pVw s t p z src) (pO s t p z src).1 (pX5 s t p z src)=0:=by
 obtain ⟨m,hc,_⟩:=fF a
 obtain ⟨tr,tq,tg⟩:=lQ i
 have h:=a56 (t:=t) (p:=p) (z:=z) j a om
 have lw:=a3H a lz
 have gp:=WK (t:=t) (p:=p) (z:=z) (src:=src) a
 rw [a2K] at c ⊢
 cases b:vA (opS (s.Cols.toNat-1) t.Rate.toNat (pW s z) (pPt s t p z src) (pX5 s t p z src)).State t.Grind.toNat with
 |none=>rw [Kn b] at c;cases c
 |some n=>
  rw [Kf b]
  have d:=b9n (nq:=t.Queries.toNat) (n:=n) lw gp om om om b h om om
  have e:=b82 (nq:=t.Queries.toNat) lw gp om om om b h om om
  have f:vfO (s.Cols.toNat-1) (opO (s.Cols.toNat-1) t.Rate.toNat t.Queries.toNat n (pW s z) (pPt s t p z src) (pX5 s t p z src)) (jg (pW s z) (eqK (pPt s t p z src))) (pX5 s t p z src)=(0,(opQ (s.Cols.toNat-1) t.Rate.toNat (pW s z) (pPt s t p z src) (pX5 s t p z src)).2.1,opL (s.Cols.toNat-1) t.Rate.toNat (pW s z) (pPt s t p z src) (pX5 s t p z src)*eaK (opQ (s.Cols.toNat-1) t.Rate.toNat (pW s z) (pPt s t p z src) (pX5 s t p z src)).2.1 (pPt s t p z src) 1,(opQ (s.Cols.toNat-1) t.Rate.toNat (pW s z) (pPt s t p z src) (pX5 s t p z src)).2.2.2):=by
   rw [vfO,c4l];exact d
  rw [chO,pVw,f,show toK (opO (s.Cols.toNat-1) t.Rate.toNat t.Queries.toNat n (pW s z) (pPt s t p z src) (pX5 s t p z src)).Last=opL (s.Cols.toNat-1) t.Rate.toNat (pW s z) (pPt s t p z src) (pX5 s t p z src) from a6e _]
  exact e
theorem b7b {pr:List Int} (h:Kg s t p src) (i:Few src k) (j:k<=700) (b:gY pr) (lp:pr.length<=gw s) (c:z=yJ (gw s) (2^s.Cols.toNat) p pr) (a:S8 s z=true) (l:(pO s t p z src).2.2=true):
 b8o s t p (pRt s t z) (pV1 s t p z src).1 (pV2 s t p z src).1 (pL s t p z src 1) (pL s t p z src 2) (pL s t p z src 3) (pVw s t p z src) (pO s t p z src).1 src=0:=by
 have m:=yd h.sy
 obtain ⟨_,f⟩:=PL h.sy
 have n:=h.pe
 have lp1:p.length+1<=gw s:=by omega
 have lz:z.length=2^s.Cols.toNat:=by rw [c];exact FV lp1 om om
 have d:gY z:=by rw [c];exact Yw h.pf b
 have e:vx3 s t p (pRt s t z) (pV1 s t p z src).1 (pL s t p z src 1) (pL s t p z src 2) (pL s t p z src 3) src=pX3 s t p z src:=by
  rw [vx3,a3r a];rfl
 unfold b8o
 rw [a3r a,c1B h.sy a lz,e]
 dsimp only
 rw [show (drL (vx1 s t p (pRt s t z) src) s.Rows.toNat).map toK=K4 s t p z src from rfl,a7 sm,a7 (mM (c1T (s:=s) (t:=t) (p:=p) (z:=z) (src:=src))),a7 sm,a7 (mM (b30 h.sy lp1 lp h.pf c lz d))]
 exact a9G h.sy h.se i j lz l
end
section
variable {v ρ:Nat} {t P:List K} {s:Source} {k:Int}
end
section
variable {s:bD} {t:Setting} {p z:List Int} {src:Source} {k:Int}
theorem c2t {s:bD} {t:Setting} {p:List Int} {src:Source} {k:Int} (h:Kg s t p src) (d:Few src k) (i:k<=700):stC s t p src=0:=by
 have e:=h.pl
 have f:=h.pe
 unfold stC
 have:=b4p (a:=src.At) (b:=src.Count) (c:=k) d.2 d.3
 rw [a7 om,h.sy,a7 sm,h.se,a7 sm,Xr h.pf,a7 sm,Tj.2 d.1,a7 sm,a7 om,a7 om]
theorem b0H (c:m8 s=true) (e:setB t=true) (lz:z.length=2^s.Cols.toNat) (f:(pO s t p z src).2.2=true):a1b s t (pRt s t z) (pV1 s t p z src).1 (pV2 s t p z src).1 (pO s t p z src).1:=by
 obtain ⟨h,hc,_⟩:=fF c
 have a:=W9 (p:=p) (src:=src) c e lz f
 rw [XM] at a
 simp only [aB] at a
 have b:=a.2.2.2.2.2.2.2.2.2
 rw [c08] at b
 exact ⟨WT c e,Lb.1,fun g d=>Ht (kind:=2) (bh:=bh0) _ _ _ _ g d,LH.1,fun g d=>Ht (kind:=1) (bh:=bh0) _ _ _ _ g d,MK (v:=s.Cols.toNat-1) (by rw [show ((s.Cols.toNat-1:Nat):Int)=s.Cols-1 by omega];exact b)⟩
theorem QL {pr:List Int} (h:Kg s t p src) (j:Few src k) (l:k<=700) (c:gY pr) (lp:pr.length<=gw s) (f:z=yJ (gw s) (2^s.Cols.toNat) p pr) (a:S8 s z=true) (d:(pO s t p z src).2.2=true):
 AG s t p (zG s t p z src) src=some (true,0):=by
 have m:=yd h.sy
 obtain ⟨_,i⟩:=PL h.sy
 obtain ⟨_,hc,q,lA,lB,lC⟩:=fF h.sy
 have n:=h.pe
 have lz:z.length=2^s.Cols.toNat:=by rw [f];exact FV om om om
 have b:=W9 (p:=p) (src:=src) h.sy h.se lz d
 obtain ⟨src',o⟩:=a1s (va:=pL s t p z src 1) (vb:=pL s t p z src 2) (vc:=pL s t p z src 3) (vw:=pVw s t p z src) h (b0H (p:=p) (src:=src) h.sy h.se lz d)
 unfold AG
 rw [DM (a2N b) om om om,obs,b,aQ,bu,Oj (by have:=h.fw.1.1;omega),obs]
 have e:mg s t p (zG s t p z src) src=some (0,src'):=by
  rw [zG,o,b7b h j l c lp f a d]
 rw [e];rfl
end
section
def hsA (m:Nat):Nat->Nat
 |0=>0
 |j+1=>hsA m j+(m-j)
theorem WB {m:Nat} (a:m<=8): ∀j,hsA m j<=8*j
 |0=>am 0
 |j+1=>by have:=WB a j;rw [hsA];omega
def szO (v:Nat) (t:Setting):Int:=24*v+32*((v:Int)-1)+8+4+t.Queries*(16*v+32*hsA (v+t.Rate.toNat-1) v)
variable {o:bK} {v:Nat} {t:Setting}
theorem szq (h:setB t=true) {X:Int} (h0:0<=X) (b:X<=2000):0<=t.Queries*X/\t.Queries*X<=16000:=by
 have a:=lQ h
 refine ⟨Int.mul_nonneg om h0, ?_⟩
 exact Int.le_trans (Int.mul_le_mul_of_nonneg_right a.2.1.2 h0) om
theorem ND (b:1<=v/\v<=6) (h:setB t=true):tf (v:Int) t=some (szO v t):=by
 have c:=lQ h
 unfold tf
 have key:=bq (step:=iE (v:Int) (v:Int) t.Rate t.Queries t.Grind) (fun j=>((hsA (v+t.Rate.toNat-1) j:Int),(j:Int))) v (e:=((hsA (v+t.Rate.toNat-1) v:Int),(v:Int),false)) (fun j d=> ?_) ?_
 ·have key':Loop (iE (v:Int) (v:Int) t.Rate t.Queries t.Grind) (0,0)=_:=key
  have a:=WB (m:=v+t.Rate.toNat-1) om v
  have f:=szq h (X:=16*v+32*hsA (v+t.Rate.toNat-1) v) om om
  rw [key',obs]
  dsimp only
  rw [ai (24*(v:Int)) om om,ai ((v:Int)-1) om om,ai (32*((v:Int)-1)) om om,ai (24*(v:Int)+32*((v:Int)-1)) om om,ai (24*(v:Int)+32*((v:Int)-1)+8) om om,ai (24*(v:Int)+32*((v:Int)-1)+8+4) om om,
   ai (16*(v:Int)) om om,ai (32*(hsA (v+t.Rate.toNat-1) v:Int)) om om,ai (16*(v:Int)+32*(hsA (v+t.Rate.toNat-1) v:Int)) om om,ai (t.Queries*(16*(v:Int)+32*(hsA (v+t.Rate.toNat-1) v:Int))) om om,ai _ om om];rfl
 ·have a:=WB (m:=v+t.Rate.toNat-1) om j
  simp only [iE]
  rw [brd om,ai ((v:Int)+t.Rate) om om,ai ((v:Int)+t.Rate-1) om om,ai ((v:Int)+t.Rate-1-(j:Int)) om om,ai ((hsA (v+t.Rate.toNat-1) j:Int)+_) om om,ai ((j:Int)+1) om om,hsA]
  rw [show (hsA (v+t.Rate.toNat-1) j:Int)+((v:Int)+t.Rate-1-(j:Int))=((hsA (v+t.Rate.toNat-1) j+(v+t.Rate.toNat-1-j):Nat):Int) by omega];rfl
 ·simp only [iE]
  rw [brn om,ae om]
theorem a5u {P:List (List (List UInt8))} {m:Nat} (h: ∀j,j<P.length->(P.getD j []).length=m-j/\ ∀x∈P.getD j [],x.length=32): ∀j,j<=P.length->(flB (P.take j)).length=32*hsA m j
 |0,_=>rfl
 |j+1,a=>by
  have d:=a5u h j om
  have b:=h j om
  rw [show P.getD j []=P[j]'a by simp [show j<P.length from a]] at b
  have e:=VK (l:=P[j]'a) (f:=id) (c:=32) b.2
  unfold flB at d ⊢
  rw [a5z a,a8,d,e,b.1,hsA];omega
theorem c46 (h:OkO o v t) {q:cw} (a:q∈o.Queries):(qB q).length=16*v+32*hsA (v+t.Rate.toNat-1) v:=by
 obtain ⟨b,d,e,c⟩:=wA (h.qq q a)
 have f:=lQ h.st
 have i:=h.v1
 have:=a5u (P:=q.Paths) (m:=v+t.Rate.toNat-1) (fun j k=>by
  have:=c j om
  exact ⟨by omega,this.2⟩) v om
 rw [aX om] at this
 unfold qB
 rw [a8,iW,this,b];omega
theorem c3W (h:OkO o v t):((oB o).length:Int)=szO v t:=by
 have j:=h.v1
 have hn:=h.qn
 have k:=lQ h.st
 have a:=VK (l:=o.Rounds) (f:=fun g:List Ext=>g.flatMap e8) (c:=24) (fun g b=>by rw [iW,(h.rr g b).1])
 have d:=VK (l:=o.Roots) (f:=id) (c:=32) h.rh
 have e:=VK (l:=o.Queries) (f:=qB) (c:=16*v+32*hsA (v+t.Rate.toNat-1) v) fun q i=>c46 h i
 unfold oB szO
 rw [a8,a8,a8,a8,a,d,e,iW,gc,h.rn,h.ro,ag, <-hn]
 rw [show ((o.Queries.length:Int))*(16*(v:Int)+32*(hsA (v+t.Rate.toNat-1) v:Int))=((o.Queries.length*(16*v+32*hsA (v+t.Rate.toNat-1) v):Nat):Int) by simp]
 omega
theorem CT {α:Type} {l:List α} {enc:α->List UInt8} {step:List α×Int×List UInt8->Option ((List α×Int×List UInt8)⊕(List α×Int×Bool×List UInt8))} (r:List UInt8)
 (b: ∀(j:Nat) (a:j<l.length) (rest:List UInt8),step (l.take j,(j:Int),enc l[j]++rest)=some (.inl (l.take j++[l[j]],((j+1:Nat):Int),rest))) (c:step (l,(l.length:Int),r)=some (.inr (l,(l.length:Int),false,r))):
 Loop step ([],0,l.flatMap enc++r)=some (l,(l.length:Int),false,r):=by
 have key:=bq (step:=step) (fun j=>(l.take j,(j:Int),(l.drop j).flatMap enc++r)) l.length (e:=(l,(l.length:Int),false,r)) (fun j a=> ?_) ?_
 ·exact key
 ·rw [jr a,dA,aP,b j a,cA a]
 ·rw [List.drop_length,bw];exact c
theorem WR {n:Int} {x r:List UInt8} (h:(x.length:Int)=n):iy n ⟨x++r⟩=some (x,⟨r⟩):=by
 subst h
 unfold iy
 dsimp only
 rw [kx om om (by rw [a8];omega),obs,kx om (by rw [a8];omega) om,obs]
 have e:(((x++r).length:Nat):Int).toNat-(x.length:Int).toNat=r.length:=by rw [a8];omega
 rw [e];simp
theorem Wz {x r:List UInt8} (h:x.length=32):iq ⟨x++r⟩=some (x,⟨r⟩):=by
 unfold iq
 rw [WR om,obs]
theorem L4 {n:Int} {l:List Ext} {r:List UInt8} (h:(l.length:Int)=n) (hn:n<=1000) (ok:j7 l):fu n ⟨l.flatMap e8++r⟩=some (l,⟨r⟩):=by
 unfold fu
 rw [ai _ om om,WR (by rw [iW];omega),obs,Ui (by rw [iW];omega),obs,c1L ok]
theorem Ng {n size:Int} {R:List (List Ext)} {r:List UInt8} (h:(R.length:Int)=n) (hn:n<=1000) (b:size<=1000) (c: ∀g∈R,(g.length:Int)=size/\j7 g):gn n size ⟨(R.flatMap fun g=>g.flatMap e8)++r⟩=some (R,⟨r⟩):=by
 subst h
 unfold gn
 have key:=CT (l:=R) (enc:=fun g=>g.flatMap e8) (step:=fB size (R.length:Int)) r (fun j d rest=>by
  have a:=c _ (gdm d)
  simp only [fB]
  rw [brd om,L4 a.1 b a.2,obs,aS (by rw [a8,aD,ag];omega),ai _ om om];rfl) (by
  simp only [fB]
  rw [brn om,ae om])
 dsimp only
 rw [key];rfl
theorem Uz {n:Int} (h:okF n):v8 (lG n)=some n:=by
 unfold lG
 rw [G5,X9 h]
theorem ZX (h:OkO o v t) (r:List UInt8):jn (v:Int) t ⟨oB o++r⟩=some (o,⟨r⟩):=by
 have y:=h.v1
 have hn:=h.qn
 have z:=lQ h.st
 have f:=h.no
 have k:=h.ro
 unfold jn oB
 rw [aP,aP,aP,aP]
 rw [Ng (by rw [h.rn]) om om (fun g d=>⟨by rw [(h.rr g d).1];rfl,(h.rr g d).2⟩),obs]
 dsimp only
 rw [ai ((v:Int)-1) om om,show (v:Int)-1=(o.Roots.length:Int) by omega]
 rw [CT (l:=o.Roots) (enc:=id) (step:=fc (v:Int) (o.Roots.length:Int) t.Rate t.Queries t.Grind 0 0 0 o.Rounds 0 0 0) _ (fun j a rest=>by
  simp only [fc,id]
  rw [brd om,Wz (h.rh _ (gdm a)),obs,aS (by rw [a8,aD,ag];omega),ai _ om om];rfl) (by
  simp only [fc]
  rw [brn om,ae om]),obs]
 dsimp only
 rw [L4 (n:=1) (l:=[o.Last]) rfl om (fun x e=>by rw [bI] at e;subst e;exact h.la),obs]
 dsimp only
 rw [show atL [o.Last] 0=some o.Last from rfl,obs,WR (by rw [gc];rfl),obs]
 dsimp only
 rw [Uz ⟨by omega,by omega⟩,obs, <-hn]
 rw [CT (l:=o.Queries) (enc:=qB) (step:=fa o.Roots (v:Int) (o.Queries.length:Int) t.Rate (o.Queries.length:Int) t.Grind 0 0 0 o.Rounds o.Last.A o.Last.B o.Nonce) r (fun j a rest=>by
  have p:=gdm a
  obtain ⟨h1,q,h3,s⟩:=wA (h.qq _ p)
  have u:=CT (l:=(o.Queries[j]).Paths) (enc:=fun x=>x.flatMap id) (step:=fi o.Roots (o.Queries.take j) (v:Int) (o.Queries.length:Int) (j:Int) (v:Int) t.Rate (o.Queries.length:Int) t.Grind 0 0 0 o.Rounds o.Last.A o.Last.B o.Nonce (o.Queries[j]).Pairs) rest (fun i hi rest2=>by
   have b:=s i om
   rw [show (o.Queries[j]).Paths.getD i []=(o.Queries[j]).Paths[i] by simp [hi]] at b
   have w:=CT (l:=(o.Queries[j]).Paths[i]) (enc:=id) (step:=fe o.Roots (o.Queries.take j) ((o.Queries[j]).Paths.take i) (v:Int) (o.Queries.length:Int) (j:Int) (v:Int) (i:Int) (((o.Queries[j]).Paths[i]).length:Int) t.Rate (o.Queries.length:Int) t.Grind 0 0 0 o.Rounds o.Last.A o.Last.B o.Nonce (o.Queries[j]).Pairs) rest2 (fun m c rest3=>by
    simp only [fe,id]
    rw [brd om,Wz (b.2 _ (gdm c)),obs,aS (by rw [a8,aD,ag];omega),ai _ om om];rfl) (by
    simp only [fe]
    rw [brn om,ae om])
   simp only [fi]
   rw [brd om,ai ((v:Int)+t.Rate) om om,ai ((v:Int)+t.Rate-1) om om,ai ((v:Int)+t.Rate-1-(i:Int)) om om, <-b.1,w,obs,aS (by rw [a8,aD,ag];omega),ai _ om om];rfl) (by
   simp only [fi]
   rw [brn om,ae om])
  simp only [fa]
  unfold qB flB
  rw [brd om,ai (2*(v:Int)) om om,aP,L4 om om q,obs]
  dsimp only
  rw [u,obs,aS (by rw [a8,aD,ag];omega),ai _ om om];rfl) (by
  simp only [fa]
  rw [brn om,ae om]),obs]
theorem b35 (a:1<=v/\v<=6) (h:setB t=true):0<=szO v t/\szO v t<=20000:=by
 have b:=lQ h
 have c:=WB (m:=v+t.Rate.toNat-1) om v
 have d:=szq h (X:=16*v+32*hsA (v+t.Rate.toNat-1) v) om om
 unfold szO;omega
end
section
def d4 (r:List UInt8):Int:=match r with
 |a::b::c::d::_=>be a b c d
 |_=>0
def tL (sz:Nat->Nat):Nat->Nat->Nat
 |0,_=>0
 |d+1,j=>sz j+tL sz d (j+1)
end
section
def pS (m j:Nat):Nat:=(m-j)*32
def nQ (v m:Nat):Nat:=8*(2*v)+tL (pS m) v 0
def nO (v m nq:Nat):Nat:=v*(8*3)+((v-1)*32+(8+(4+nq*nQ v m)))
theorem c6z (m:Nat): ∀d j,j+d<=m->tL (pS m) d j+hsA m j*32=hsA m (j+d)*32
 |0,j,_=>by simp [tL]
 |d+1,j,h=>by
  have:=c6z m d (j+1) om
  rw [tL,pS,show j+(d+1)=j+1+d by omega, <-this,hsA];omega
theorem c6t {m v:Nat} (h:v<=m):tL (pS m) v 0=32*hsA m v:=by
 have:=c6z m v 0 om
 rw [hsA,ce] at this;omega
theorem b3A {v:Nat} {t:Setting} (a:1<=v/\v<=6) (h:setB t=true):((nO v (v+t.Rate.toNat-1) t.Queries.toNat:Nat):Int)=szO v t:=by
 have b:=lQ h
 unfold nO nQ szO
 rw [c6t om]
 have e:((t.Queries.toNat*(8*(2*v)+32*hsA (v+t.Rate.toNat-1) v):Nat):Int)=t.Queries*(16*(v:Int)+32*(hsA (v+t.Rate.toNat-1) v:Int)):=by
  rw [np,fy om]
  congr 1;omega
 omega
section
variable {v ρ nq:Nat} {t:Setting}
end
end
section
section
variable {v ρ nq:Nat} {t:Setting}
end
end
section
def nP (s:bD) (t:Setting):Nat:=32+(s.Rows.toNat*(8*4)+(8+(8+(8+(s.Cols.toNat*(8*3)+(8+nO (s.Cols.toNat-1) (s.Cols.toNat-1+t.Rate.toNat-1) t.Queries.toNat))))))
section
variable {s:bD} {t:Setting}
theorem FL (c:m8 s=true) (a:setB t=true):uy s t=some ((nP s t:Nat):Int):=by
 obtain ⟨d,hc,_⟩:=fF c
 have b:1<=s.Cols.toNat-1/\s.Cols.toNat-1<=6:=by omega
 have e:=b3A b a
 have f:=b35 b a
 unfold uy
 rw [ai (s.Cols-1) om om,show s.Cols-1=((s.Cols.toNat-1:Nat):Int) by omega,ND b a,obs,
  ai (32*s.Rows) om om,ai (32+32*s.Rows) om om,ai (32+32*s.Rows+24) om om,ai (24*s.Cols) om om,ai (32+32*s.Rows+24+24*s.Cols) om om,ai (32+32*s.Rows+24+24*s.Cols+8) om om,ai _ om om]
 congr 1
 unfold nP
 omega
end
end
section
section
variable {s:bD} {t:Setting}
end
end
section
variable {s:bD} {t:Setting} {q:jF}
theorem Qe {R:List (List Ext)} {m n:Int} (h:qJ R m n=true):(R.length:Int)=m/\ ∀g∈R,(g.length:Int)=n/\j7 g:=by
 unfold qJ at h
 rw [aB,aA] at h
 refine ⟨h.1,fun g a=> ?_⟩
 have:=an.1 h.2 g a
 unfold TM at this
 rw [aB,aA] at this
 exact ⟨this.1,a0E.1 this.2⟩
structure c7h (s:bD) (t:Setting) (q:jF):Prop where
 rt:q.Root.length=32
 gl:(q.Gates.length:Int)=s.Rows
 g4: ∀g∈q.Gates,(g.length:Int)=4/\j7 g
 va:okE q.VA
 vb:okE q.VB
 vc:okE q.VC
 wl:(q.Wires.length:Int)=s.Cols
 w3: ∀g∈q.Wires,(g.length:Int)=3/\j7 g
 vw:okE q.VW
 op:OkO q.Open (s.Cols.toNat-1) t
 sy:m8 s=true
 se:setB t=true
theorem a3A (h:okP q s t=true):c7h s t q:=by
 rw [XM] at h
 simp only [aB] at h
 obtain ⟨a,b,c,d,e,f,hc,i,j,k⟩:=h
 obtain ⟨p,l,_⟩:=fF a
 obtain ⟨m,a2⟩:=Qe d
 obtain ⟨n,o⟩:=Qe i
 exact ⟨gy c,m,a2,ve.1 e,ve.1 f,ve.1 hc,n,o,ve.1 j,MK (v:=s.Cols.toNat-1) (by rw [show ((s.Cols.toNat-1:Nat):Int)=s.Cols-1 by omega];exact k),a,b⟩
theorem a5O {R:List (List Ext)} {n:Nat} (h: ∀g∈R,(g.length:Int)=n/\j7 g):(R.flatMap fun g=>g.flatMap e8).length=R.length*(8*n):=VK fun g a=>by
 have:=(h g a).1
 rw [iW];omega
theorem a2O (h:okP q s t=true):(pB q).length=nP s t:=by
 have p:=a3A h
 obtain ⟨c,hc,_⟩:=fF p.sy
 have a:1<=s.Cols.toNat-1/\s.Cols.toNat-1<=6:=by omega
 have b:=a5O (R:=q.Gates) (n:=4) p.g4
 have l2:=a5O (R:=q.Wires) (n:=3) p.w3
 have l3:=iW [q.VA,q.VB,q.VC]
 have l4:=iW [q.VW]
 have l5:=c3W p.op
 have l6:=b3A a p.se
 have d:=p.gl
 have e:=p.wl
 have f:=p.rt
 have e1:q.Gates.length=s.Rows.toNat:=by omega
 have e2:q.Wires.length=s.Cols.toNat:=by omega
 rw [e1] at b
 rw [e2] at l2
 simp only [ab,ah] at l3 l4
 unfold pB nP
 simp only [a8]
 omega
theorem c5p (c:m8 s=true) (a:setB t=true):33<=nP s t/\nP s t<=30000:=by
 obtain ⟨d,hc,_⟩:=fF c
 have b:1<=s.Cols.toNat-1/\s.Cols.toNat-1<=6:=by omega
 have l6:=b3A b a
 have e:=b35 b a
 unfold nP
 omega
theorem c0H (q:jF):pB q=q.Root++(q.Gates.flatMap (fun g=>g.flatMap e8)++([q.VA,q.VB,q.VC].flatMap e8++(q.Wires.flatMap (fun g=>g.flatMap e8)++([q.VW].flatMap e8++(oB q.Open++[]))))):=by
 simp only [pB,aP,bM]
theorem Na (h:okP q s t=true):yu (pB q) s t=some (q,true):=by
 have p:=a3A h
 obtain ⟨b,hc,_,lA,lB,lC⟩:=fF p.sy
 have l:=a2O h
 unfold yu
 rw [FL p.sy p.se,obs,m9 om,c0H,Wz p.rt,obs]
 dsimp only
 rw [Ng p.gl om om p.g4,obs]
 dsimp only
 rw [L4 (n:=3) (l:=[q.VA,q.VB,q.VC]) rfl om (by
  intro x a
  simp only [aW,List.not_mem_nil,or_false] at a
  rcases a with rfl|rfl|rfl
  ·exact p.va
  ·exact p.vb
  ·exact p.vc),obs]
 dsimp only
 rw [show atL [q.VA,q.VB,q.VC] 0=some q.VA from rfl,obs,show atL [q.VA,q.VB,q.VC] 1=some q.VB from rfl,obs,show atL [q.VA,q.VB,q.VC] 2=some q.VC from rfl,obs,Ng p.wl om om p.w3,obs]
 dsimp only
 rw [L4 (n:=1) (l:=[q.VW]) rfl om (by
  intro x a
  simp only [aW,List.not_mem_nil,or_false] at a
  subst a
  exact p.vw),obs]
 dsimp only
 rw [show atL [q.VW] 0=some q.VW from rfl,obs,ai (s.Cols-1) om om,show s.Cols-1=((s.Cols.toNat-1:Nat):Int) by omega,ZX p.op [],obs]
 dsimp only
 rw [DM (a2N h) om om om,obs,h]
theorem Z7 (h:okP q s t=true):tm q=some (pB q):=by
 obtain ⟨o,⟨d,a⟩,⟨p,b⟩,i⟩:=b3R h
 have e8l: ∀{g:List Ext},g.length<=4->(g.flatMap e8).length<=32:=fun {g} r=>by have:=iW g;omega
 unfold tm
 have k:=Ak (l:=q.Gates) (f:=fun g=>g.flatMap e8) (c:=32) (step:=jA q.Gates (q.Gates.length:Int) q.Root q.Gates q.VA.A q.VA.B q.VB.A q.VB.B q.VC.A q.VC.B q.Wires q.VW.A q.VW.B q.Open.Rounds q.Open.Roots q.Open.Last.A q.Open.Last.B q.Open.Nonce q.Open.Queries) q.Root (fun g d=>e8l (a g d)) om (fun j e acc m=>by
  have i:=e8l (a _ (b5K e))
  simp only [jA]
  rw [brd om,cJ e,obs,ij (by have:=a _ (b5K e);omega),obs,aS (by rw [a8];omega),ai _ om om];rfl) (fun acc=>by
  simp only [jA]
  rw [brn om,ae om])
 rw [aS om,k,obs]
 have u:=GC (l:=q.Gates) (f:=fun g:List Ext=>g.flatMap e8) (c:=32) (fun g d=>e8l (a g d))
 have l2:=iW [q.VA,q.VB,q.VC]
 have l3:=GC (l:=q.Wires) (f:=fun g:List Ext=>g.flatMap e8) (c:=32) (fun g d=>e8l (b g d))
 have l4:=iW [q.VW]
 have l5:=c5w i
 simp only [ab,ah] at l2 l4
 dsimp only
 rw [ij sm,obs,aS (by simp only [a8];omega)]
 have n:=Ak (l:=q.Wires) (f:=fun g=>g.flatMap e8) (c:=32) (step:=jK q.Wires (q.Wires.length:Int) q.Root q.Gates q.VA.A q.VA.B q.VB.A q.VB.B q.VC.A q.VC.B q.Wires q.VW.A q.VW.B q.Open.Rounds q.Open.Roots q.Open.Last.A q.Open.Last.B q.Open.Nonce q.Open.Queries) (q.Root++q.Gates.flatMap (fun g=>g.flatMap e8)++[q.VA,q.VB,q.VC].flatMap e8) (fun g d=>e8l (b g d)) (by simp only [a8];omega) (fun j e acc m=>by
  have i:=e8l (b _ (b5K e))
  simp only [jK]
  rw [brd om,cJ e,obs,ij (by have:=b _ (b5K e);omega),obs,aS (by rw [a8];omega),ai _ om om];rfl) (fun acc=>by
  simp only [jK]
  rw [brn om,ae om])
 rw [n,obs]
 dsimp only
 rw [ij sm,obs,aS (by simp only [a8];omega),YL i,obs,aS (by simp only [a8];omega),pB]
theorem Pl (h:okP q s t=true):ou q s t=some (pB q,0):=by
 have p:=a3A h
 obtain ⟨a,hc,_,lA,lB,lC⟩:=fF p.sy
 unfold ou
 rw [DM (a2N h) om om om,obs,h,aQ,bu,Z7 h,obs]
theorem RV (a:m8 s=true) (b:setB t=true):rB s t=some (((nP s t:Nat):Int),0):=by
 obtain ⟨c,hc,_,lA,lB,lC⟩:=fF a
 unfold rB
 rw [Cx om om om,obs,a,aQ,bu,nV,obs,b,aQ,bu,FL a b,obs]
variable {p z pr:List Int} {src:Source} {k:Int}
theorem LW (h:Kg s t p src) (d:Few src k) (e:k<=700) (c:gY pr) (lp:pr.length<=gw s) (f:z=yJ (gw s) (2^s.Cols.toNat) p pr) (a:S8 s z=true) (i:(pO s t p z src).2.2=true):
 mZ s t p (pB (zG s t p z src)) src=some (true,0):=by
 have m:=yd h.sy
 obtain ⟨_,j⟩:=PL h.sy
 obtain ⟨_,hc,r,lA,lB,lC⟩:=fF h.sy
 have n:=h.pe
 have o:=h.pl
 have q:=h.fw.1.1
 have lz:z.length=2^s.Cols.toNat:=by rw [f];exact FV om om om
 have b:=W9 (p:=p) (src:=src) h.sy h.se lz i
 have l:=a2O b
 have ln:=c5p h.sy h.se
 unfold mZ
 rw [brn om,Qu om om om om om,obs,c2t h d e,m9 rfl,Na b,obs]
 dsimp only
 rw [aQ,bu,QL h d e c lp f a i];rfl
end
set_option maxRecDepth 10000
section
noncomputable def tpC (r q g:Int):Option Int:=
 (Ia (mH 0 q r q g) 12 ((1:Int),(1:Int),(0:Int))).bind fun e=>
 (Ia (mw e.1 e.2.1 q e.2.2.1 e.2.2.2 r q g) 40 (0:Int)).bind fun e2=>some e2.1
theorem c6b {r q g v:Int} (h:tpC r q g=some v):fY ⟨r,q,g⟩=some (IntKind.wrap .i64 (v+g)):=by
 unfold tpC at h
 obtain ⟨e,a,h⟩:=bd h
 obtain ⟨e2,b,h⟩:=bd h
 cases h
 unfold fY
 rw [Lp a]
 simp only [obs]
 rw [Lp b];rfl
def tpV:Option Int->Bool
 |some v=>decide (0<=v)&&decide (v<=64)
 |none=>false
theorem c2d:([1,2]:List Int).all (fun r=>([1,2,3,4,5,6,7,8]:List Int).all fun q=>([0,1,2]:List Int).all fun g=>tpV (tpC r q g))=true:=by kernel_rfl
theorem c4A {r q g:Int} (e:1<=r/\r<=2) (f:1<=q/\q<=8) (h:0<=g/\g<=2): ∃v,fY ⟨r,q,g⟩=some v:=by
 have e1:r=1\/r=2:=by omega
 have e2:q=1\/q=2\/q=3\/q=4\/q=5\/q=6\/q=7\/q=8:=by omega
 have b:g=0\/g=1\/g=2:=by omega
 have c:=an.1 c2d r (by rcases e1 with rfl|rfl<;>simp)
 have d:=an.1 c q (by rcases e2 with rfl|rfl|rfl|rfl|rfl|rfl|rfl|rfl<;>simp)
 have a:=an.1 d g (by rcases b with rfl|rfl|rfl<;>simp)
 cases hc:tpC r q g with
 |none=>rw [hc] at a;cases a
 |some v=>exact ⟨_,c6b hc⟩
theorem b69 {b r g:Int} (o:0<=b/\b<=4) (h:1<=r/\r<=2) (i:0<=g/\g<=2):D7 b r g=some (⟨0,0,0⟩,16)\/ ∃q v,(1<=q/\q<=8)/\b<=v/\fY ⟨r,q,g⟩=some v/\D7 b r g=some (⟨r,q,g⟩,0):=by
 unfold D7
 rw [Kw,obs,aj om,aQ,bu,Kw,obs,aj om,aQ,bu,Kw,obs,aj om,aQ,bu]
 obtain ⟨e,j,k⟩:=rg (step:=vd b r g 0 0 0) (fun q=>1<=q/\q<=9) (fun q=>(9-q).toNat)
  (fun e=>(∃q v,e= .inl (q,q)/\(1<=q/\q<=8)/\b<=v/\fY ⟨r,q,g⟩=some v)\/ ∃x,e= .inr x) (fun q d=>by
   simp only [vd]
   by_cases c:q<=8
   ·obtain ⟨v,f⟩:=c4A (q:=q) h ⟨d.1,c⟩ i
    rw [brd c,f,obs]
    by_cases a:v>=b
    ·rw [brd a]
     exact .inr ⟨_,rfl,.inl ⟨q,v,rfl,⟨d.1,c⟩,a,f⟩⟩
    ·rw [brn a,ai _ om om]
     exact .inl ⟨_,rfl,by omega,by omega⟩
   ·rw [brn c]
    exact .inr ⟨_,rfl,.inr ⟨_,rfl⟩⟩) 1 om
 rw [j,obs]
 rcases k with ⟨q,v,rfl,l,m,n⟩|⟨x,rfl⟩
 ·exact .inr ⟨q,v,l,m,n,rfl⟩
 ·exact .inl rfl
theorem b8b {L:List Ext} (a:L.length=3) (ok:j7 L): ∃s,xU [116,111,112] L=some (s,0)/\Few s 4:=by
 unfold xU
 rw [tpLong sm,obs,bu,brn om,Df om,obs,a0E.2 ok,aQ,bu,brn sm,Kw,obs,aj om,aQ,bu]
 unfold dh Ez
 rw [aS om,obs,aS sm,xL sm,obs,obs]
 exact ⟨_,rfl,a2v (by show L.length<=64;omega) ok,by simp,by simp⟩
where
 tpLong {t:List UInt8} (h:t.length<=65536):Gv t=some false:=by
  unfold Gv
  rw [ae om]
theorem c4Q {l:List aC} {P I:List Int} {t:Setting} (j:c3z l P I) (h:setB t=true) (src:Source) (k:Few src 4):
 eV ⟨l⟩ t P I src=some (pN,14)\/ ∃f B,eV ⟨l⟩ t P I src=some (f,0)/\ou f (s7 l) t=some (B,0)/\rB (s7 l) t=some ((B.length:Int),0)/\mZ (s7 l) t P B src=some (true,0):=by
 have rc:=j.rc
 have ok:OkC l:=rc.ok
 have hn:=ok.n2
 have n2:=iY l 2
 have lP:P.length=cu l 2:=rc.lP
 have o:=K5 rc.ok rc.hP rc.hI rc.lP rc.lI l.length (am _)
 have m:=Yy o (rY P I l l.length) l.length (am _)
 have a:=Qh (rnM P I l l.length) l
 obtain ⟨r,q,u,v⟩:=Q1 ok lP a
 have b:=b8g ok rc.hP rc.hI rc.lP rc.lI j.fit
 have lz:=a0r ok lP a
 have n:=b3g rc h k om
 rw [Bw rc h k om,aa j.fit]
 unfold pfR
 by_cases i:(pO (s7 l) t P (QP l P (prM (rnM P I l l.length) l l.length)) src).2.2=true
 ·rw [aa i]
  have c:=W9 (s:=s7 l) (p:=P) (src:=src) (X4 ok) h lz i
  have d:=LW (s:=s7 l) (z:=QP l P (prM (rnM P I l l.length) l l.length)) n k om m q rfl b i
  have e:=a2O c
  exact .inr ⟨_,_,rfl,Pl c,by rw [RV (X4 ok) h,e],d⟩
 ·rw [a7 i]
  exact .inl rfl
theorem c5E {l:List aC} {P I:List Int} {t:Setting} (rc:a30 ⟨l⟩ P I) (e:setB t=true) (src:Source) (h:Few src 4):
 (∃v,mo ⟨l⟩ P I=some (v,0)/\ ∃f c,eV ⟨l⟩ t P I src=some (f,c)/\(c=0\/c=14))\/(mo ⟨l⟩ P I=some ([],15)/\eV ⟨l⟩ t P I src=some (pN,15)):=by
 have hn:l.length<=15:=rc.ok.n2
 have b:=Pu (c:=⟨l⟩) (P:=P) (I:=I) (by show l.length<=_;omega)
 have d:=Bw rc e h om
 have hc:=b36 (s7 l) t P (QP l P (prM (rnM P I l l.length) l l.length)) src
 generalize pfR (s7 l) t P (QP l P (prM (rnM P I l l.length) l l.length)) src=u at hc d
 obtain ⟨f,c⟩:=u
 have i:b65 ⟨l⟩ P I=if l.all (ly (rnM P I l l.length))=true then (rnM P I l l.length,0) else ([],15):=by unfold b65;rw [aa (b2e rc)]
 rw [i] at b
 generalize rnM P I l l.length=v at b d
 by_cases a:l.all (ly v)=true
 ·rw [aa a] at b d
  exact .inl ⟨v,b,f,c,d,hc⟩
 ·rw [a7 a] at b d
  exact .inr ⟨b,d⟩
theorem b2Z (x y:Option Bool):br ((14:Int) !=0) x y=x:=rfl
theorem a4Y {c:Int} (h:c=0\/c=14) (x y:Option Bool):br ((0:Int)==0) (br (c==0) (some true) (br (c==14) (some true) x)) y=some true:=by
 rcases h with rfl|rfl<;>rfl
theorem a6l (x:Option Bool):br ((15:Int)==0) x (br ((15:Int)==15) (some ((15:Int)==15)) (some false))=some true:=rfl
theorem c5n (x:Option Bool):br ((16:Int) !=0) (some ((16:Int)==16)) x=some true:=rfl
theorem law_FnTop (a b:List UInt8) (ha:bdL bdT a) (hb:bdL bdT b):PB a b=some true:=by
 unfold PB
 by_cases c1:(a.length:Int)>1048576
 ·rw [brd c1]
 rw [brn c1]
 by_cases c2:(b.length:Int)>1048576
 ·rw [brd c2]
 rw [brn c2]
 obtain ⟨l,P,I,t0,src0,e1,hp,_,_,m⟩:=a0M (code:=a) om
 have rc:=hp.rc
 have ok:OkC l:=rc.ok
 have hn:=ok.n2
 have n2:=iY l 2
 have lP:P.length=cu l 2:=rc.lP
 obtain ⟨x,e2,x0,x1⟩:=a4D (a:=b) (i:=0) (n:=5) om om om om
 obtain ⟨y,e3,y0,y1⟩:=a4D (a:=b) (i:=1) (n:=2) om om om om
 obtain ⟨z,e4,z0,z1⟩:=a4D (a:=b) (i:=2) (n:=3) om om om om
 obtain ⟨w,e5,w0,w1⟩:=a4D (a:=b) (i:=3) (n:=2) om om om om
 obtain ⟨L,e6,L1,L2⟩:=a7Y (code:=b) (n:=3) om om om
 obtain ⟨s1',e7,o⟩:=b8b (L:=L) om L2
 obtain ⟨l2,e8,ok2,l29,_⟩:=XV (code:=b) om
 obtain ⟨P2,I2,e9,s,t,lP2,lI2⟩:=a0L (code:=a) om (l:=l2) om
 rw [e1,obs,e2,obs,e3,obs,e4,obs,ai _ om om]
 rcases b69 (b:=x) (r:=1+y) (g:=z) om om om with u|⟨q,v,hq,hbv,e,u⟩
 ·rw [u,obs];exact c5n _
 ·rw [u,obs]
  have ht:setB ⟨1+y,q,z⟩=true:=by
   unfold setB
   rw [aj (by show 1<=1+y/\1+y<=3;omega),aj (by show 1<=q/\q<=8;omega),aj (by show 0<=z/\z<=12;omega)];rfl
  have p:um ⟨1+y,q,z⟩=some (v,0):=by
   unfold um
   rw [nV,obs,ht,aQ,bu,e,obs]
  have rc2:a30 ⟨l2⟩ P2 I2:=⟨ok2,s,t,lP2,lI2⟩
  have F:=c4Q hp ht
  have G:=c5E rc2 ht
  have d:=Ty (c:=⟨l⟩) (by show l.length<=_;omega)
  rw [aa (ZP ok)] at d
  dsimp only
  rw [m9 rfl,e5,obs]
  by_cases hw:w=1
  ·rw [bre hw,e6,obs,e7,obs]
   dsimp only
   rw [m9 rfl]
   rcases F s1' o with h|⟨f,B,h1,h2,h3,h4⟩
   ·rw [h,obs];exact b2Z _ _
   ·rw [h1,obs]
    dsimp only
    rw [m9 rfl,d,obs]
    dsimp only
    rw [h2,obs,h3,obs]
    dsimp only
    rw [h4,obs,p,obs]
    dsimp only
    rw [m9 rfl,m9 rfl,m9 rfl,m9 rfl,m9 rfl,aQ,bu,m9 rfl,obs,brn om,e8,obs,e9,obs]
    dsimp only
    rcases G s1' o with ⟨v2,j,f2,c,k,g3⟩|⟨j,k⟩
    ·rw [j,obs,k,obs];exact a4Y g3 _ _
    ·rw [j,obs,k,obs];exact a6l _
  ·rw [cn hw]
   rcases F src0 m with h|⟨f,B,h1,h2,h3,h4⟩
   ·rw [h,obs];exact b2Z _ _
   ·rw [h1,obs]
    dsimp only
    rw [m9 rfl,d,obs]
    dsimp only
    rw [h2,obs,h3,obs]
    dsimp only
    rw [h4,obs,p,obs]
    dsimp only
    rw [m9 rfl,m9 rfl,m9 rfl,m9 rfl,m9 rfl,aQ,bu,m9 rfl,obs,brn om,e8,obs,e9,obs]
    dsimp only
    rcases G src0 m with ⟨v2,j,f2,c,k,g3⟩|⟨j,k⟩
    ·rw [j,obs,k,obs];exact a4Y g3 _ _
    ·rw [j,obs,k,obs];exact a6l _
end
end Go.AI.Fn
