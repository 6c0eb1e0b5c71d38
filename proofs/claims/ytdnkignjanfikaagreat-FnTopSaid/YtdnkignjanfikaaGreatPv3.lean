/- Part. -/
import Derived.Test.YtdnkignjanfikaaGreatPv2
import Derived.KernelRfl
set_option linter.unusedVariables false
set_option linter.unusedSimpArgs false
namespace Go.AI.Fn
section
theorem MkR.mat {l:List aN} {row R C:Int} (h:MkR l row C) (q:row<=R-1) (c:l.length<=200):B5 l R C=true:=by
 refine b4u c fun t=> ?_
 rintro ⟨x,b,a⟩
 have d:x∈l:=al b
 obtain ⟨e,a2,a3,f,i,j⟩:=h.ent x d
 rcases a with a|⟨r,y,k,a⟩
 ·exact a ⟨⟨e,by omega⟩,⟨a3,f⟩,i,j⟩
 ·refine a ?_
  have m:=(eJ.1 b)
  have n:=(eJ.1 k)
  obtain ⟨o,e1⟩:=m
  obtain ⟨p,e2⟩:=n
  have:=o7.1 h.srt (t-1) t p o om
  rwa [e1,e2] at this
theorem WG {l:List aC} (ok:OkC l):lX (rP l)=true:=by
 obtain ⟨m,e,f⟩:=NU ok l.length (am _)
 have hn:=ok.n2
 have h:=NZ l
 have i:=c0Y (fdM l l.length).1
 have j:=a5Q (r:=(fdM l l.length).1) om
 have k:=a3X ok
 unfold lX
 have c1:(rP l).Rows=((rlM (fdM l l.length).1:Nat):Int):=rfl
 have c2:(rP l).Cols=((lgC l:Nat):Int):=rfl
 have c3:(rP l).Publics=((cu l 2:Nat):Int):=rfl
 have d:((lgC l:Nat):Int)-1=((lgC l-1:Nat):Int):=by omega
 rw [c1,c2,c3,d,MD om,MD om,MD om]
 have la:=m.la
 have lb:=m.lb
 have lc:=m.lc
 have mA:B5 (rP l).A ((2^rlM (fdM l l.length).1:Nat):Int) ((2^lgC l:Nat):Int)=true:=m.a.mat om (by show (fdM l l.length).2.1.length<=200;omega)
 have mB:B5 (rP l).B ((2^rlM (fdM l l.length).1:Nat):Int) ((2^lgC l:Nat):Int)=true:=m.b.mat om (by show (fdM l l.length).2.2.1.length<=200;omega)
 have mC:B5 (rP l).C ((2^rlM (fdM l l.length).1:Nat):Int) ((2^lgC l:Nat):Int)=true:=m.c.mat om (by show (fdM l l.length).2.2.2.length<=200;omega)
 rw [mA,mB,mC,aj om,aj om,aj om];rfl
theorem KC (l:List aC):(rP l).Rows.toNat=rlM (fdM l l.length).1:=rfl
theorem Wo {L:List aN} {z:List Int} {n:Nat} (hn:n<=20) (d:OkM L ((2^n:Nat):Int) (z.length:Int)) (i:hK z):uy L (n:Int) z=some (muM L n z):=by
 have o:=d.len
 have f:2^n<=2^20:=Nat.pow_le_pow_right om hn
 have a:(2:Nat)^20=1048576:=by decide
 have h0:(0:Int)<=((2^n:Nat):Int):=vM _
 have p:((2^n:Nat):Int)<=1048576:=by rw [a] at f;exact Int.ofNat_le.2 f
 unfold uy
 rw [brd om,MD om,a0O h0 (Int.le_refl _) om,aY]
 have key:=bq (step:=pm z L (L.length:Int)) (fun j=>((L.take j).foldl (muS z) (List.replicate (2^n) 0),(j:Int))) L.length (e:=(muM L n z,(L.length:Int),false)) (fun j b=> ?_) ?_
 ·have:(((L.take 0).foldl (muS z) (List.replicate (2^n) 0),((0:Nat):Int)):List Int×Int)=(List.replicate (2^n) 0,0):=rfl
  rw [<-this,key];rfl
 ·obtain ⟨⟨h,a2⟩,⟨k,q⟩,v1,v2⟩:=d.ent L[j] (b9 b)
  have l:=WW z (L.take j) (List.replicate (2^n) 0)
  rw [aL] at l
  have c:hK ((L.take j).foldl (muS z) (List.replicate (2^n) 0)):=a3h z _ _ (by
   intro x m
   rw [List.eq_of_mem_replicate m]
   exact ⟨by omega,by omega⟩)
  simp only [pm]
  rw [brd om,cJ b,obs,cB b,gG,bP,jd]
  generalize (L.take j).foldl (muS z) (List.replicate (2^n) 0)=T at*
  generalize L[j]=x at*
  rw [brd h,brd om,lR om,obs,Yr k om,obs,ml ⟨by omega,by omega⟩ (ky i om),obs,v8 (ky c om) (w7 _ _),obs,brd h,brd om,obs,ai _ om om,muS];rfl
 ·simp only [pm]
  rw [brn om,ae om,bw];rfl
def WV (s:bD) (z:List Int) (k:Nat):Bool:=mF ((muM s.A s.Rows.toNat z).getD k 0) ((muM s.B s.Rows.toNat z).getD k 0)==(muM s.C s.Rows.toNat z).getD k 0
def QL (s:bD) (z:List Int):Bool:=(List.range (2^s.Rows.toNat)).all (WV s z)
theorem b51 {s:bD} (h:lX s=true):OkM s.A ((2^s.Rows.toNat:Nat):Int) ((2^s.Cols.toNat:Nat):Int)/\OkM s.B ((2^s.Rows.toNat:Nat):Int) ((2^s.Cols.toNat:Nat):Int)/\OkM s.C ((2^s.Rows.toNat:Nat):Int) ((2^s.Cols.toNat:Nat):Int):=by
 obtain ⟨d,e,_⟩:=fE h
 unfold lX at h
 simp only [aB,aA] at h
 obtain ⟨_,_,_,a,b,c⟩:=h
 have e1:ct .i64 1 s.Rows=((2^s.Rows.toNat:Nat):Int):=by
  have:s.Rows=(s.Rows.toNat:Int):=by omega
  conv=>lhs;rw [this]
  exact MD om
 have e2:ct .i64 1 s.Cols=((2^s.Cols.toNat:Nat):Int):=by
  have:s.Cols=(s.Cols.toNat:Int):=by omega
  conv=>lhs;rw [this]
  exact MD om
 rw [e1,e2] at a b c
 exact ⟨HP a,HP b,HP c⟩
theorem a0c {s:bD} {z:List Int}:QL s z=true↔ ∀k,k<2^s.Rows.toNat->mF ((muM s.A s.Rows.toNat z).getD k 0) ((muM s.B s.Rows.toNat z).getD k 0)=(muM s.C s.Rows.toNat z).getD k 0:=by
 unfold QL WV
 rw [an]
 constructor
 ·intro h k a;simpa using h k (bS.2 a)
 ·intro h k a;simpa using h k (bS.1 a)
theorem b60 {l:List aC} {z:List Int} (ok:OkC l) (o:hK z) (z0:z.getD 0 0=1):
 QL (rP l) z=true↔ ∀(i:Nat) (hi:i<l.length),eqG (zc z (Ej l l[i].A.toNat)) (zc z (Ej l l[i].B.toNat)) (zc z (Ej l i)) l[i]:=by
 obtain ⟨m,q,s⟩:=NU ok l.length (am _)
 obtain ⟨p,rw3⟩:=b5w ok o z0 l.length (am _)
 have hn:=ok.n2
 have t:=a5Q (r:=(fdM l l.length).1) om
 have gA: ∀k,k<2^(rP l).Rows.toNat->(muM (rP l).A (rP l).Rows.toNat z).getD k 0=rV z k (fdM l l.length).2.1:=fun k f=>Yn fun e d=>by
  have n:=rw3.a e d
  obtain ⟨j,_⟩:=m.a.ent e d
  refine ⟨j, ?_⟩
  rw [KC];omega
 have gB: ∀k,k<2^(rP l).Rows.toNat->(muM (rP l).B (rP l).Rows.toNat z).getD k 0=rV z k (fdM l l.length).2.2.1:=fun k f=>Yn fun e d=>by
  have n:=rw3.b e d
  obtain ⟨j,_⟩:=m.b.ent e d
  refine ⟨j, ?_⟩
  rw [KC];omega
 have gC: ∀k,k<2^(rP l).Rows.toNat->(muM (rP l).C (rP l).Rows.toNat z).getD k 0=rV z k (fdM l l.length).2.2.2:=fun k f=>Yn fun e d=>by
  have n:=rw3.c e d
  obtain ⟨j,_⟩:=m.c.ent e d
  refine ⟨j, ?_⟩
  rw [KC];omega
 have step:QL (rP l) z=true↔a96 z (fdM l l.length).1 (fdM l l.length).2.1 (fdM l l.length).2.2.1 (fdM l l.length).2.2.2:=by
  rw [a0c]
  constructor
  ·intro h k u v
   have f:k.toNat<2^(rP l).Rows.toNat:=by rw [KC];omega
   have:=h k.toNat f
   rw [gA _ f,gB _ f,gC _ f] at this
   rwa [show (k.toNat:Int)=k by omega] at this
  ·intro h k f
   rw [gA _ f,gB _ f,gC _ f]
   by_cases c:(k:Int)<(fdM l l.length).1
   ·exact h k om c
   ·rw [M0 (fun e d=>by have:=rw3.a e d;omega),M0 (fun e d=>by have:=rw3.b e d;omega),M0 (fun e d=>by have:=rw3.c e d;omega)];rfl
 rw [step,p]
 exact ⟨fun h i hi=>h i hi hi,fun h i hi _=>h i hi⟩
end
set_option maxRecDepth 20000
section
def nK (x:Int):K:=toK (eN x)
theorem Y7 {l:List Int} (h:hK l):l.map eN=kv (l.map nK):=by
 rw [kv,fg]
 exact bn fun x a=>(tZ (b5p (h x a))).symm
section
variable (s:bD) (t:Setting) (p z:List Int) (src:Source)
noncomputable def pW:List K:=(z.map nK).drop (gt s)
noncomputable def pRt:List UInt8:=wrK (s.Cols.toNat-1+t.Rate.toNat-1) (opW (s.Cols.toNat-1) t.Rate.toNat (pW s z))
noncomputable def pX1:Source:=vx1 s t p (pRt s t z) src
noncomputable def JJ:List K:=(drL (pX1 s t p z src) s.Rows.toNat).map toK
noncomputable def pT1:List (List K):=[eqK (JJ s t p z src),(muM s.A s.Rows.toNat z).map nK,(muM s.B s.Rows.toNat z).map nK,(muM s.C s.Rows.toNat z).map nK]
noncomputable def pV1:List (List K)×List K×List (List K)×Source:=pvM 2 bh0 s.Rows.toNat [] (pT1 s t p z src) (drS (pX1 s t p z src) s.Rows.toNat)
noncomputable def pL (j:Nat):K:=(p5 (pV1 s t p z src).2.2.1).getD j 0
noncomputable def pX3:Source:=rsM (pV1 s t p z src).2.2.2 [pL s t p z src 1,pL s t p z src 2,pL s t p z src 3]
noncomputable def pT2:List (List K):=[btM s (eqK (pV1 s t p z src).2.1) (vr (pX3 s t p z src) 0) (vr (pX3 s t p z src) 1) (vr (pX3 s t p z src) 2),z.map nK]
noncomputable def pV2:List (List K)×List K×List (List K)×Source:=pvM 1 bh0 s.Cols.toNat [] (pT2 s t p z src) (drS (pX3 s t p z src) 3)
noncomputable def pPt:List K:=(pV2 s t p z src).2.1.take (s.Cols.toNat-1)
noncomputable def pVw:K:=ja (pW s z) (eqK (pPt s t p z src))
noncomputable def pX5:Source:=rsM (pV2 s t p z src).2.2.2 [pVw s t p z src]
noncomputable def pO:bJ×Source×Bool:=Mw (s.Cols.toNat-1) t.Rate.toNat t.Queries.toNat t.Grind.toNat (pW s z) (pPt s t p z src) (pX5 s t p z src)
theorem a2U:pO s t p z src=Mw (s.Cols.toNat-1) t.Rate.toNat t.Queries.toNat t.Grind.toNat (pW s z) (pPt s t p z src) (pX5 s t p z src):=rfl
noncomputable def zL:jy:=⟨pRt s t z,kvv (pV1 s t p z src).1,(pL s t p z src 1).1,(pL s t p z src 2).1,(pL s t p z src 3).1,kvv (pV2 s t p z src).1,(pVw s t p z src).1,(pO s t p z src).1⟩
end
variable {s:bD} {t:Setting} {p z:List Int} {src:Source} {k:Int}
theorem a3K (h:lX s=true) (lz:z.length=2^s.Cols.toNat):(pW s z).length=2^(s.Cols.toNat-1):=by
 have:=xH h
 rw [pW,bQ,aw,lz,this]
 show 2*gt s-gt s=gt s
 omega
theorem Sb:(JJ s t p z src).length=s.Rows.toNat:=by rw [JJ,aw,xC]
theorem a2S:OkT 2 (2^s.Rows.toNat) (pT1 s t p z src):=⟨.inr rfl,rfl,fun i hi=>by
 have:i=0\/i=1\/i=2\/i=3:=by
  have:i<4:=hi
  omega
 rcases this with rfl|rfl|rfl|rfl
 ·show (eqK (JJ s t p z src)).length=_;rw [EI,Sb]
 ·show ((muM s.A s.Rows.toNat z).map nK).length=_;rw [aw,Lt]
 ·show ((muM s.B s.Rows.toNat z).map nK).length=_;rw [aw,Lt]
 ·show ((muM s.C s.Rows.toNat z).map nK).length=_;rw [aw,Lt]⟩
theorem b1U (lz:z.length=2^s.Cols.toNat):OkT 1 (2^s.Cols.toNat) (pT2 s t p z src):=⟨.inl rfl,rfl,fun i hi=>by
 have:i=0\/i=1:=by
  have:i<2:=hi
  omega
 rcases this with rfl|rfl
 ·show (btM s _ _ _ _).length=_;rw [PQ]
 ·show (z.map nK).length=_;rw [aw,lz]⟩
theorem a5F (h:Few src k):Few (pX1 s t p z src) (k+2):=((h.take _).take _).mono om
theorem a5H (h:Few src k) (a:lX s=true) (b:k<=900000):Few (drS (pX1 s t p z src) s.Rows.toNat) (k+7):=by
 obtain ⟨c,_⟩:=fE a
 exact (E7 (a5F h) om _ om).mono om
theorem a4z (h:Few src k) (a:lX s=true) (b:k<=900000):Few (pV1 s t p z src).2.2.2 (k+22):=by
 obtain ⟨c,_⟩:=fE a
 exact (X5 b45 s.Rows.toNat [] _ _ _ (a5H h a b) om).mono om
theorem a4J (h:Few src k) (a:lX s=true) (b:k<=900000):Few (pX3 s t p z src) (k+23):=(Few.take (a4z h a b) _).mono om
theorem a52 (h:Few src k) (a:lX s=true) (b:k<=900000):Few (drS (pX3 s t p z src) 3) (k+26):=(E7 (a4J h a b) om 3 om).mono om
theorem a5x (h:Few src k) (a:lX s=true) (b:k<=900000):Few (pV2 s t p z src).2.2.2 (k+41):=by
 obtain ⟨_,hc,_⟩:=fE a
 exact (X5 b45 s.Cols.toNat [] _ _ _ (a52 h a b) om).mono om
theorem a4w (h:Few src k) (a:lX s=true) (b:k<=900000):Few (pX5 s t p z src) (k+42):=(Few.take (a5x h a b) _).mono om
theorem Ll:(pV1 s t p z src).1.length=s.Rows.toNat/\(pV1 s t p z src).2.1.length=s.Rows.toNat:=NE _ _ _ _
theorem KK:(pV2 s t p z src).1.length=s.Cols.toNat/\(pV2 s t p z src).2.1.length=s.Cols.toNat:=NE _ _ _ _
theorem XT (h:lX s=true):(pPt s t p z src).length=s.Cols.toNat-1:=by rw [pPt,aD,KK.2];omega
theorem b1b:(p5 (pV1 s t p z src).2.2.1).length=4:=by
 rw [CN]
 exact (R0 s.Rows.toNat [] _ _ a2S).len
theorem X4 (h:lX s=true) (a:setB t=true):(pRt s t z).length=32:=by
 obtain ⟨_,hc,_⟩:=fE h
 obtain ⟨b,_,_⟩:=lM a
 exact PS _ _
theorem c3D (s:bD):ez s=some (s.A,s.B,s.C):=rfl
theorem a33 (h:JC s t p src) (a:Few src k) (hk:k<=700) (w:hK z) (lz:z.length=2^s.Cols.toNat):
 rk s t p z src=some (zL s t p z src,(pO s t p z src).2.2,(pO s t p z src).2.1):=by
 obtain ⟨hr,hc,hpb,_⟩:=fE h.sy
 obtain ⟨tr,tq,tg⟩:=lM h.se
 obtain ⟨c1,c2,c3⟩:=AR h.sy
 obtain ⟨mA,mB,mC⟩:=b51 h.sy
 have hth:=xH h.sy
 have h5:=Cp s.Cols.toNat om
 have h5r:=Cp s.Rows.toNat om
 have hpl:=h.pl
 have hst:=T7 s t p
 have hrt:=X4 (z:=z) h.sy h.se
 have lw:=a3K (z:=z) h.sy lz
 have eR:(s.Rows.toNat:Int)=s.Rows:=by omega
 have eT:(t.Rate.toNat:Int)=t.Rate:=by omega
 obtain ⟨q,hq⟩: ∃q,s.Cols.toNat-1+t.Rate.toNat=q+1:=⟨s.Cols.toNat-1+t.Rate.toNat-1,by omega⟩
 have f1:=a5F (s:=s) (t:=t) (p:=p) (z:=z) a
 have f2:=a5H (t:=t) (p:=p) (z:=z) a h.sy om
 have f3:=a4J (t:=t) (p:=p) (z:=z) a h.sy om
 have f4:=a52 (t:=t) (p:=p) (z:=z) a h.sy om
 have f5:=a4z (t:=t) (p:=p) (z:=z) a h.sy om
 have f6:=a5x (t:=t) (p:=p) (z:=z) a h.sy om
 have f7:=a4w (t:=t) (p:=p) (z:=z) a h.sy om
 have g1:=Ll (s:=s) (t:=t) (p:=p) (z:=z) (src:=src)
 have g2:=KK (s:=s) (t:=t) (p:=p) (z:=z) (src:=src)
 have gp:=XT (t:=t) (p:=p) (z:=z) (src:=src) h.sy
 have gl:=b1b (s:=s) (t:=t) (p:=p) (z:=z) (src:=src)
 have d:rF z ((gt s:Nat):Int) (z.length:Int)=some (z.drop (gt s)):=by
  rw [ke om om om]
  simp only [aY,Option.some.injEq]
  refine aX ?_
  rw [bQ];omega
 have hzd:hK (z.drop (gt s)):=fun x hx=>w x (bZ hx)
 have hpw:(z.drop (gt s)).map eN=kv (pW s z):=by rw [Y7 hzd,pW,List.map_drop]
 have e:=wR f1 om (n:=s.Rows.toNat) om
 rw [eR] at e
 have f:=MZ f1 om (n:=s.Rows.toNat) om
 have het:mg (drL (pX1 s t p z src) s.Rows.toNat)=some (kv (eqK (JJ s t p z src))):=by
  have:=sr (l:=kv (JJ s t p z src)) (An _) (by rw [bB,Sb];omega)
  rw [Gt] at this
  rwa [JJ,b0Y f] at this
 have b: ∀L:List aN,AU (muM L s.Rows.toNat z)=some (kv ((muM L s.Rows.toNat z).map nK)):=fun L=>by
  rw [HE (by rw [Lt];omega),Y7 (c1x L _ z)]
 rw [<-lz] at mA mB mC
 have c: ∀L,OkM L ((2^s.Rows.toNat:Nat):Int) (z.length:Int)->uy L s.Rows z=some (muM L s.Rows.toNat z):=fun L hm=>by
  rw [<-eR];exact Wo om hm w
 have hs1:dh 2 [kv (eqK (JJ s t p z src)),kv ((muM s.A s.Rows.toNat z).map nK),kv ((muM s.B s.Rows.toNat z).map nK),kv ((muM s.C s.Rows.toNat z).map nK)] (drS (pX1 s t p z src) s.Rows.toNat)=
  some (kvv (pV1 s t p z src).1,kv (pV1 s t p z src).2.1,kv (p5 (pV1 s t p z src).2.2.1),(pV1 s t p z src).2.2.2):=
  II (kind:=2) (v:=s.Rows.toNat) [] (T:=pT1 s t p z src) a2S f2 om om
 have ha1:atL (kv (p5 (pV1 s t p z src).2.2.1)) 1=some (pL s t p z src 1).1:=atK (j:=1) rfl om
 have ha2:atL (kv (p5 (pV1 s t p z src).2.2.1)) 2=some (pL s t p z src 2).1:=atK (j:=2) rfl om
 have ha3:atL (kv (p5 (pV1 s t p z src).2.2.1)) 3=some (pL s t p z src 3).1:=atK (j:=3) rfl om
 have hab:bM [(pL s t p z src 1).1,(pL s t p z src 2).1,(pL s t p z src 3).1] (pV1 s t p z src).2.2.2=some (pX3 s t p z src):=Az (g:=[pL s t p z src 1,pL s t p z src 2,pL s t p z src 3]) f5.1 sm
 have i:=wR f3 om (n:=3) om
 rw [show ((3:Nat):Int)=3 from rfl,c4C f3 om] at i
 have hbt:=Fv h.sy (p:=(pV1 s t p z src).2.1) (R:=eqK (pV1 s t p z src).2.1) (x:=vr (pX3 s t p z src) 0) (y:=vr (pX3 s t p z src) 1) (z:=vr (pX3 s t p z src) 2) g1.2 (Gt _)
 have hs2:dh 1 [kv (btM s (eqK (pV1 s t p z src).2.1) (vr (pX3 s t p z src) 0) (vr (pX3 s t p z src) 1) (vr (pX3 s t p z src) 2)),kv (z.map nK)] (drS (pX3 s t p z src) 3)=
  some (kvv (pV2 s t p z src).1,kv (pV2 s t p z src).2.1,kv (p5 (pV2 s t p z src).2.2.1),(pV2 s t p z src).2.2.2):=
  II (kind:=1) (v:=s.Cols.toNat) [] (T:=pT2 s t p z src) (b1U lz) f4 om om
 have hsb:rF (kv (pV2 s t p z src).2.1) 0 (s.Cols-1)=some (kv (pPt s t p z src)):=by
  rw [ke om om (by rw [bB];omega),show (s.Cols-1).toNat-(0:Int).toNat=s.Cols.toNat-1 by omega]
  simp only [Int.toNat_zero,hJ,pPt,kv,List.map_take]
 have hep:mg (kv (pPt s t p z src))=some (kv (eqK (pPt s t p z src))):=by
  have:=sr (l:=kv (pPt s t p z src)) (An _) (by rw [bB];omega)
  rwa [Gt] at this
 have o:GF (kv (pW s z)) (kv (eqK (pPt s t p z src)))=some (pVw s t p z src).1:=by
  rw [KM (An _) (An _) (by rw [bB,bB,EI,gp,lw];exact am _) (by rw [bB,lw];have:=Cp (s.Cols.toNat-1) om;omega),Wc];rfl
 have r:bM [(pVw s t p z src).1] (pV2 s t p z src).2.2.2=some (pX5 s t p z src):=Az (g:=[pVw s t p z src]) f6.1 sm
 have u:=a6K (v:=s.Cols.toNat-1) (ρ:=t.Rate.toNat) (nq:=t.Queries.toNat) (bits:=t.Grind.toNat) (t:=pW s z) (P:=pPt s t p z src) (s:=pX5 s t p z src) (st:=t) lw gp om om om om om eT.symm om om f7 om
 rw [<-a2U s t p z src] at u
 unfold rk
 rw [Nv h.sy,obs,d,obs,HE (by rw [bQ];omega),obs,hpw,Hb h,obs,mi h.fw.1.3 om,obs,
  Sf lw om,obs, <-eT,LA (m:=s.Cols.toNat-1) (t:=t.Rate.toNat) om (by rw [vq];exact lw),obs,H5 (k:=q) om (by rw [<-hq];exact Er lw),obs,Rb q _ om,obs]
 rw [show wrK q (Enc (s.Cols.toNat-1) t.Rate.toNat (cfK (s.Cols.toNat-1) (pW s z)))=pRt s t z by rw [pRt,hq,cX];rfl]
 rw [aS om,mi (h.fw.take _).1.3 om,obs,show tkM (tkM src (Nn s t p)) (pRt s t z)=pX1 s t p z src from rfl,e,obs]
 dsimp only
 rw [het,obs,c3D,obs]
 dsimp only
 rw [c _ mA,obs,b,obs,aS sm,c _ mB,obs,b,obs,aS sm,c _ mC,obs,b,obs,aS sm]
 simp only [i5,bA]
 rw [hs1,obs]
 dsimp only
 rw [ha1,obs,ha2,obs,ha3,obs]
 rw [hab,obs,i,obs]
 dsimp only
 rw [brd (by simp [bB])]
 show (Option.bind (some ((vr (pX3 s t p z src) 0).1,(vr (pX3 s t p z src) 1).1,(vr (pX3 s t p z src) 2).1)) _)=_
 rw [obs]
 dsimp only
 rw [hbt,obs,HE om,Y7 w,obs,hs2,obs]
 dsimp only
 rw [ai _ om om,hsb,obs,hep,obs,o,obs,r,obs,u,obs,zL]
end
section
variable {s:bD} {t:Setting} {p z:List Int} {src:Source} {k:Int}
theorem c4t {l:List K} (h:l.length=4):l=[l.getD 0 0,l.getD 1 0,l.getD 2 0,l.getD 3 0]:=by
 match l,h with
 |[a,b,c,d],_=>rfl
end
section
theorem c4w {h n:Nat} {P pr:List Int}:(yI h n P pr).getD 0 0=1:=rfl
theorem b5J {h n i:Nat} {P pr:List Int} (hi:i<P.length):(yI h n P pr).getD (i+1) 0=P.getD i 0:=by
 rw [yI,List.getD_eq_getElem?_getD,bc (by simp;omega),bc (by simp;omega),i6, <-List.getD_eq_getElem?_getD]
theorem b0H {h n i:Nat} {P pr:List Int} (b:P.length+1<=h) (hi:i<pr.length):(yI h n P pr).getD (h+i) 0=pr.getD i 0:=by
 have a:((1::P)++List.replicate (h-1-P.length) (0:Int)).length=h:=by simp;omega
 rw [yI,List.getD_eq_getElem?_getD,bt om,a,bc om,Nat.add_sub_cancel_left, <-List.getD_eq_getElem?_getD]
def SF (l:List aC) (P pr:List Int):List Int:=yI (2^(lgC l-1)) (2^lgC l) P pr
theorem PD {l:List aC} (ok:OkC l) {P pr:List Int} (lP:P.length=cu l 2) (lp:pr.length+cu l 2=l.length):P.length+1<=2^(lgC l-1)/\pr.length<=2^(lgC l-1)/\2^lgC l=2^(lgC l-1)+2^(lgC l-1)/\2^lgC l<=32:=by
 have a:=a3X ok
 have b:=NZ l
 have c:=Qi (n:=lgC l) om
 have d:=Cp (lgC l) om
 omega
theorem b0L {l:List aC} (ok:OkC l) {P pr:List Int} (lP:P.length=cu l 2) (lp:pr.length+cu l 2=l.length) {j:Nat} (a:j<l.length):
 zc (SF l P pr) (Ej l j)=if l[j].Op=2 then P.getD (cu (l.take j) 2) 0 else pr.getD (j-cu (l.take j) 2) 0:=by
 obtain ⟨c,d,e,f⟩:=PD ok lP lp
 have l2:cu (l.take j) 2<=j:=by have:=iW (l.take j) 2;rw [aD] at this;omega
 unfold zc Ej
 rw [show l.getD j ⟨0,0,0,0⟩=l[j] by simp [a]]
 by_cases h:l[j].Op=2
 ·have:=mK a h
  rw [aa h,aa h,show ((cu (l.take j) 2:Int)+1).toNat=cu (l.take j) 2+1 by omega]
  exact b5J om
 ·have b:=Nh l (j+1) 2
  rw [cB a,j9,a7 (by simpa using h)] at b
  rw [a7 h,a7 h,show (((2^(lgC l-1):Nat):Int)+((j:Int)-(cu (l.take j) 2:Int))).toNat=2^(lgC l-1)+(j-cu (l.take j) 2) by omega]
  exact b0H om om
theorem a4K {v:List Int} {l:List aC} {j:Nat} (a:j<l.length) (h:l[j].Op≠2): ∀n,j<n->n<=l.length->(prM v l n).getD (j-cu (l.take j) 2) 0=v.getD j 0
 |0,h0,_=>by omega
 |n+1,h0,hn=>by
  have i:=Hw v l n om
  have c:=Hw v l j om
  by_cases e:j=n
  ·subst e
   have d:l.getD j ⟨0,0,0,0⟩=l[j]:=by simp [a]
   rw [prM,d,a7 h,List.getD_eq_getElem?_getD,bt om,show j-cu (l.take j) 2-(prM v l j).length=0 by omega];rfl
  ·have ih:=a4K (v:=v) a h n om om
   have k:=Hw v l (j+1) om
   have b:j-cu (l.take j) 2<(prM v l n).length:=by
    have f:=Nh (l.take n) (j+1) 2
    rw [List.take_take,dp om,cB a,j9,a7 (by simpa using h),aD] at f
    have l2:cu (l.take j) 2<=j:=by have:=iW (l.take j) 2;rw [aD] at this;omega
    omega
   rw [prM,List.getD_eq_getElem?_getD,bc b, <-List.getD_eq_getElem?_getD,ih]
theorem QA (v:List Int) (l:List aC):(prM v l l.length).length+cu l 2=l.length:=by
 have:=Hw v l l.length (am _)
 rwa [bw] at this
theorem b0l (P I:List Int) (l:List aC) {j n:Nat} (c:j<n) (a:j<l.length):(rnM P I l n).getD j 0=gvM P I (rnM P I l j) (cu (l.take j) 2) (cu (l.take j) 1) l[j]:=by
 have b:l.getD j ⟨0,0,0,0⟩=l[j]:=by simp [a]
 rw [LZ P I l (j:=j+1) om om,rnM,b,List.getD_eq_getElem?_getD,bt (by rw [rL];omega),rL,kU];rfl
theorem Yd {l:List aC} (ok:OkC l) {P I:List Int} (lP:P.length=cu l 2) {j:Nat} (a:j<l.length):
 zc (SF l P (prM (rnM P I l l.length) l l.length)) (Ej l j)=(rnM P I l l.length).getD j 0:=by
 rw [b0L ok lP (QA _ _) a]
 by_cases h:l[j].Op=2
 ·rw [aa h,b0l P I l a a]
  unfold gvM
  rw [a7 om,aa h]
 ·rw [a7 h,a4K a h _ a (am _)]
theorem c5N {P I:List Int} {l:List aC} {j:Nat} (ok:OkC l) (r:hK P) (s:hK I) (lP:P.length=cu l 2) (lI:I.length=cu l 1) (o:j<l.length) (d:ll (rnM P I l l.length) l[j]=true):
 eqG ((rnM P I l l.length).getD l[j].A.toNat 0) ((rnM P I l l.length).getD l[j].B.toNat 0) ((rnM P I l l.length).getD j 0) l[j]:=by
 obtain ⟨x,t,u,y⟩:=xD (ok.g j o)
 have v:=JA ok r s lP lI l.length (am _)
 have p:=rL P I l l.length
 rw [b0l P I l (n:=l.length) o o]
 have ga: ∀i:Nat,i<j->(rnM P I l j).getD i 0=(rnM P I l l.length).getD i 0:=fun i hi=>(LZ P I l hi om).symm
 unfold eqG gvM
 by_cases f:l[j].Op=1\/l[j].Op=2
 ·rw [aa f];trivial
 rw [a7 f,a7 (show ¬l[j].Op=1 by omega),a7 (show ¬l[j].Op=2 by omega)]
 by_cases c:l[j].Op=3
 ·rw [a7 om,a7 om,a7 om,aa c,aa c]
 have a:=t om
 rw [ga l[j].A.toNat om]
 by_cases w:l[j].Op=8
 ·rw [a7 om,a7 om,a7 om,a7 c,a7 om,a7 c,a7 om,a7 om,a7 om]
  refine ⟨?_,rfl⟩
  unfold ll at d
  rw [cm om,bre w,bk,aA] at d
  have h0:=(Mk v l[j].A.toNat).1
  have:(rnM P I l l.length).getD l[j].A.toNat 0=0\/(rnM P I l l.length).getD l[j].A.toNat 0=1:=by omega
  rcases this with e|e<;>rw [e]<;>rfl
 have b:=u om om
 rw [ga l[j].B.toNat om]
 by_cases k:l[j].Op=6
 ·rw [aa k,a7 c,a7 om,a7 om,aa k]
 rw [a7 k]
 by_cases h:l[j].Op=4
 ·rw [aa h,a7 c,aa h]
 rw [a7 h]
 by_cases m:l[j].Op=5
 ·rw [aa m,a7 c,a7 h,aa m]
 have q:l[j].Op=7:=by omega
 rw [a7 m,a7 c,aa q,a7 c,a7 h,a7 m,a7 k]
 unfold ll at d
 rw [bre q,cm om,dO,beq_iff_eq] at d
 exact ⟨d.symm,rfl⟩
theorem a5R {l:List aC} {P pr:List Int} (a:hK P) (b:hK pr):hK (SF l P pr):=Wf a b
theorem ZO {l:List aC} (ok:OkC l) {P pr:List Int} (lP:P.length=cu l 2) (lp:pr.length+cu l 2=l.length):(SF l P pr).length=2^lgC l:=by
 obtain ⟨a,b,c,d⟩:=PD ok lP lp
 exact H7 a om om
theorem b7j {l:List aC} (ok:OkC l) {P I:List Int} (d:hK P) (f:hK I) (lP:P.length=cu l 2) (lI:I.length=cu l 1) (j:l.all (ll (rnM P I l l.length))=true):
 QL (rP l) (SF l P (prM (rnM P I l l.length) l l.length))=true:=by
 have k:=JA ok d f lP lI l.length (am _)
 have e:=W8 k (rL P I l l.length) l.length (am _)
 rw [b60 ok (a5R d e) c4w]
 intro i hi
 obtain ⟨q,m,n,r⟩:=xD (ok.g i hi)
 have:=c5N ok d f lP lI hi (an.1 j _ (b9 hi))
 rw [Yd ok lP hi]
 by_cases h:4<=l[i].Op
 ·have a:=m h
  rw [Yd ok lP (by omega:l[i].A.toNat<l.length)]
  by_cases o:l[i].Op<=7
  ·have b:=n h o
   rw [Yd ok lP (by omega:l[i].B.toNat<l.length)]
   exact this
  ·unfold eqG at this ⊢
   rw [a7 om,a7 om,a7 om,a7 om,a7 om,a7 om] at this ⊢
   exact this
 ·unfold eqG at this ⊢
  by_cases c:l[i].Op=1\/l[i].Op=2
  ·rw [aa c];trivial
  ·have p:l[i].Op=3:=by omega
   rw [a7 c,a7 om,a7 om,a7 om,aa p] at this ⊢
   exact this
theorem a0N {c:Circuit} {v:List Int} (ok:OkC c.Gates) (f:v.length=c.Gates.length):o0 c v=some (prM v c.Gates c.Gates.length):=by
 have hn:=ok.n2
 unfold o0
 have key:=bq (step:=hZ v c.Gates (c.Gates.length:Int) c.Gates) (fun j=>(prM v c.Gates j,(j:Int))) c.Gates.length (e:=(prM v c.Gates c.Gates.length,(c.Gates.length:Int),false)) (fun j b=> ?_) ?_
 ·have:((prM v c.Gates 0,((0:Nat):Int)):List Int×Int)=([],0):=rfl
  rw [<-this,key];rfl
 ·have d:c.Gates.getD j ⟨0,0,0,0⟩=c.Gates[j]:=by simp [b]
  have h:=Hw v c.Gates j om
  simp only [hZ]
  rw [brd om,cJ b,obs,prM,d,ai _ om om]
  by_cases a:c.Gates[j].Op=2
  ·rw [m9 a,aa a,bL];rfl
  ·rw [brb a,a7 a,Da om,obs,aS (by simp;omega)];rfl
 ·simp only [hZ]
  rw [brn om,ae om]
end
set_option maxRecDepth 10000
section
abbrev DrS:Type:=(List aC)×Int×(List UInt8)×Int×Int
abbrev DrE:Type:=(List aC)×Int×Bool×(List UInt8)×Int×Int
noncomputable def ON (l:List aC) (t2:Int) (g:aC) (m:bV):Option (DrS⊕DrE):=
 br (bj (l++[g]).length 32) (some (.inl (l++[g],IntKind.wrap .i64 (t2+1),m.code,m.at_,m.seed))) none
noncomputable def a1Y (l:List aC) (t2 op a b:Int) (m:bV):Option (DrS⊕DrE):=
 br (op==3) ((b5 m).bind fun r_13=>(au 3 r_13.2).bind fun r_14=>
  br (decide (0<=r_14.1)) (br (decide (r_14.1.toNat<([0,1,r_13.1]:List Int).length)) ((([0,1,r_13.1]:List Int)[r_14.1.toNat]?).bind fun x=>
   ON l t2 ⟨op,a,b,x⟩ r_14.2) none) none) (ON l t2 ⟨op,a,b,0⟩ m)
noncomputable def a4Z (l:List aC) (t2 op:Int) (m:bV):Option (DrS⊕DrE):=
 (je op).bind fun r_9=>br (r_9==2)
  ((au t2 m).bind fun a=>(au t2 a.2).bind fun b=>
    br (op==7) ((cp 5 b.2).bind fun c=>br (!c.1) (a1Y l t2 op a.1 a.1 c.2) (a1Y l t2 op a.1 b.1 c.2)) (a1Y l t2 op a.1 b.1 b.2))
  (br (r_9==1) ((au t2 m).bind fun a=>a1Y l t2 op a.1 0 a.2) (a1Y l t2 op 0 0 m))
noncomputable def a1Q (l:List aC) (t2:Int) (m:bV):Option (DrS⊕DrE):=
 (je 1).bind fun r_9=>br (r_9==2)
  ((au t2 m).bind fun a=>(au t2 a.2).bind fun b=>ON l t2 ⟨1,a.1,b.1,0⟩ b.2)
  (br (r_9==1) ((au t2 m).bind fun a=>ON l t2 ⟨1,a.1,0,0⟩ a.2) (ON l t2 ⟨1,0,0,0⟩ m))
noncomputable def opM (l:List aC) (t2 op:Int) (m:bV):Option (DrS⊕DrE):=
 br (op==2) ((mO ⟨l⟩ 2).bind fun r_4=>br (r_4==3) (a1Q l t2 m) (a4Z l t2 op m)) (a4Z l t2 op m)
theorem a9x (t t2:Int) (l:List aC) (c:List UInt8) (c2 c3:Int):jn t (l,t2,c,c2,c3)=
 br (decide (t2<t)) ((au 8 ⟨c,c2,c3⟩).bind fun r_2=>
  br (t2==0) ((au 3 r_2.2).bind fun r_3=>opM l t2 (IntKind.wrap .i64 (1+r_3.1)) r_3.2)
   ((cp 3 r_2.2).bind fun r_3=>br r_3.1 ((au 3 r_3.2).bind fun r_4=>opM l t2 (IntKind.wrap .i64 (1+r_4.1)) r_4.2) (opM l t2 (IntKind.wrap .i64 (1+r_2.1)) r_3.2)))
  (some (.inr (l,t2,decide (t2<t),c,c2,c3))):=rfl
def Psh (l:List aC) (k:Nat) (op B:Int) (o:Option (DrS⊕DrE)):Prop:=
 ∃g m,o=some (.inl (l++[g],((k+1:Nat):Int),m.code,m.at_,m.seed))/\sB g (k:Int)=true/\g.Op=op/\Src B m
theorem VV {l:List aC} {k:Nat} {g:aC} {m:bV} {B:Int} (b:l.length<=100) (c:k<=100) (a:sB g (k:Int)=true) (h:Src B m):Psh l k g.Op B (ON l (k:Int) g m):=by
 unfold ON
 rw [aS (by simp;omega),ai _ om om]
 exact ⟨g,m,by rw [show (k:Int)+1=((k+1:Nat):Int) by omega],a,rfl,h⟩
theorem Yb {g:aC} {k:Int} (i:1<=g.Op/\g.Op<=8) (d:if 4<=g.Op then 0<=g.A/\g.A<=k-1 else g.A=0) (e:if 4<=g.Op/\g.Op<=7 then 0<=g.B/\g.B<=k-1 else g.B=0) (f:if g.Op=3 then okF g.K else g.K=0):sB g k=true:=by
 unfold sB
 rw [aj i,bk]
 have j:decide (Dt g.Op>0)=decide (4<=g.Op):=by
  unfold Dt
  split
  ·rw [aj om,aj om]
  ·split
   ·rw [aj om,aj om]
   ·rw [ae om,ae om]
 have l:decide (Dt g.Op>1)=decide (4<=g.Op/\g.Op<=7):=by
  unfold Dt
  split
  ·rename_i h;rw [aj om,aj h]
  ·rename_i h
   split
   ·rw [ae om,ae h]
   ·rw [ae om,ae h]
 rw [j,l]
 have a:br (decide (4<=g.Op)) (decide (0<=g.A/\g.A<=k-1)) (g.A==0)=true:=by
  by_cases h:4<=g.Op
  ·rw [aa h] at d;rw [brd h,aj d]
  ·rw [a7 h] at d;rw [brn h,d];rfl
 have b:br (decide (4<=g.Op/\g.Op<=7)) (decide (0<=g.B/\g.B<=k-1)) (g.B==0)=true:=by
  by_cases h:4<=g.Op/\g.Op<=7
  ·rw [aa h] at e;rw [brd h,aj e]
  ·rw [a7 h] at e;rw [brn h,e];rfl
 have c:br (g.Op==3) (Ey g.K) (g.K==0)=true:=by
  by_cases h:g.Op=3
  ·rw [aa h] at f;rw [bre h,H4.2 f]
  ·rw [a7 h] at f;rw [cm h,f];rfl
 rw [a,b,c];rfl
theorem QN {l:List aC} {k:Nat} {op a b:Int} {m:bV} {B:Int} (d:l.length<=100) (e:k<=100) (f:1<=op/\op<=8) (i:if 4<=op then 0<=a/\a<=(k:Int)-1 else a=0) (j:if 4<=op/\op<=7 then 0<=b/\b<=(k:Int)-1 else b=0)
 (h:Src B m) (u:B+21<Big):Psh l k op (B+21) (a1Y l (k:Int) op a b m):=by
 unfold a1Y
 by_cases c:op=3
 ·rw [bre c]
  obtain ⟨x,v,e1,ox,o⟩:=CZ h om
  obtain ⟨y,w,e2,p,q,_,r⟩:=ku (n:=3) o om
  have y3:=q om
  rw [e1,obs,e2,obs]
  dsimp only
  rw [brd p,brd (by simp;omega)]
  have s: ∃z,([0,1,x]:List Int)[y.toNat]? =some z/\okF z:=by
   have:y=0\/y=1\/y=2:=by omega
   rcases this with rfl|rfl|rfl
   ·exact ⟨0,rfl,by omega,by omega⟩
   ·exact ⟨1,rfl,by omega,by omega⟩
   ·exact ⟨x,rfl,ox⟩
  obtain ⟨z,t,oz⟩:=s
  rw [t,obs]
  exact VV d e (Yb f i j (by rw [aa c];exact oz)) (r.mono om)
 ·rw [cm c]
  exact VV d e (Yb f i j (by rw [a7 c])) (h.mono om)
theorem a5s {l:List aC} {k:Nat} {op:Int} {m:bV} {B:Int} (d:l.length<=100) (f:k<=100) (i:1<=op/\op<=8) (p:4<=op->1<=k) (h:Src B m) (hb:B+30<Big):Psh l k op (B+30) (a4Z l (k:Int) op m):=by
 unfold a4Z
 rw [VD,obs]
 have up: ∀{C:Int} {o:Option (DrS⊕DrE)},C<=B+30->Psh l k op C o->Psh l k op (B+30) o:=fun hc ⟨g,m,e,v,w,q⟩=>⟨g,m,e,v,w,q.mono hc⟩
 have nx: ∀{C:Int} {m:bV},1<=k->Src C m->C+3<Big-> ∃x m',au (k:Int) m=some (x,m')/\(0<=x/\x<=(k:Int)-1)/\Src (C+3) m':=fun y q hc=>by
  obtain ⟨x,m',e,z,x1,x2,s⟩:=ku (n:=(k:Int)) q hc
  refine ⟨x,m',e,⟨z, ?_⟩,s⟩
  by_cases h2:1<(k:Int)
  ·have:=x1 h2;omega
  ·have:=x2 om;omega
 unfold Dt
 by_cases c1:4<=op/\op<=7
 ·rw [aa c1,bre rfl]
  obtain ⟨a,m1,e1,c,r⟩:=nx (p om) h om
  obtain ⟨b,m2,e2,j,t⟩:=nx (p om) r om
  rw [e1,obs,e2,obs]
  dsimp only
  by_cases c7:op=7
  ·rw [bre c7]
   obtain ⟨x,m3,e3,u⟩:=zZ (n:=5) t om
   rw [e3,obs]
   dsimp only
   cases x
   ·exact up om (QN d f i (by rw [aa om];exact c) (by rw [aa c1];exact c) u om)
   ·exact up om (QN d f i (by rw [aa om];exact c) (by rw [aa c1];exact j) u om)
  ·rw [cm c7]
   exact up om (QN d f i (by rw [aa om];exact c) (by rw [aa c1];exact j) t om)
 ·rw [a7 c1]
  by_cases c8:op=8
  ·rw [aa c8,cm om,bre rfl]
   obtain ⟨a,m1,e1,c,r⟩:=nx (p om) h om
   rw [e1,obs]
   exact up om (QN d f i (by rw [aa om];exact c) (by rw [a7 c1]) r om)
  ·rw [a7 c8,cm om,cm om]
   exact up om (QN d f i (by rw [a7 om]) (by rw [a7 c1]) h om)
theorem b0q {l:List aC} {k:Nat} {m:bV} {B:Int} (a:l.length<=100) (b:k<=100) (h:Src B m):Psh l k 1 B (a1Q l (k:Int) m):=by
 unfold a1Q
 rw [VD,obs]
 show Psh l k 1 B (ON l (k:Int) ⟨1,0,0,0⟩ m)
 exact VV a b (Yb (g:=⟨1,0,0,0⟩) sm sm sm sm) h
theorem c5K {l:List aC} {k:Nat} {op:Int} {m:bV} {B:Int} (d:l.length<=100) (f:k<=100) (i:1<=op/\op<=8) (j:4<=op->1<=k) (o:cu l 2<=3) (h:Src B m) (n:B+30<Big):
 ∃g m',opM l (k:Int) op m=some (.inl (l++[g],((k+1:Nat):Int),m'.code,m'.at_,m'.seed))/\sB g (k:Int)=true/\cu (l++[g]) 2<=3/\Src (B+30) m':=by
 unfold opM
 by_cases c2:op=2
 ·rw [bre c2,JM (by show l.length<=_;omega),obs]
  by_cases c3:(cu l 2:Int)=3
  ·rw [bre c3]
   obtain ⟨g,m',e,a,c,b⟩:=b0q d f h
   refine ⟨g,m',e,a, ?_,b.mono om⟩
   rw [j9,a7 (by rw [c];decide)];omega
  ·rw [cm c3]
   obtain ⟨g,m',e,a,c,b⟩:=a5s d f i j h n
   refine ⟨g,m',e,a, ?_,b⟩
   rw [j9];split<;>omega
 ·rw [cm c2]
  obtain ⟨g,m',e,a,c,b⟩:=a5s d f i j h n
  refine ⟨g,m',e,a, ?_,b⟩
  rw [j9,a7 (by rw [c];simpa using c2)];omega
theorem SH {m:bV} {B:Int} (h:Src B m) (hb:B+1000<Big): ∃l m',kI m=some (⟨l⟩,m')/\OkC l/\l.length<=9/\cu l 2<=3/\Src (B+500) m':=by
 unfold kI
 obtain ⟨n,q,e1,n0,n1,_,s1⟩:=ku (n:=9) h om
 have n9:=n1 om
 rw [e1,obs]
 dsimp only
 rw [ai _ om om]
 obtain ⟨⟨l,i,b,c,a,s⟩,r,t⟩:=rg (step:=jn (1+n))
  (fun s=> ∃k:Nat,s.1.length=k/\s.2.1=(k:Int)/\(k:Int)<=1+n/\(∀(j:Nat) (d:j<s.1.length),sB s.1[j] (j:Int)=true)/\cu s.1 2<=3/\Src (B+3+40*k) ⟨s.2.2.1,s.2.2.2.1,s.2.2.2.2⟩) (fun s=>(1+n-s.2.1).toNat)
  (fun e=>(e.1.length:Int)=1+n/\(∀(j:Nat) (d:j<e.1.length),sB e.1[j] (j:Int)=true)/\cu e.1 2<=3/\Src (B+500) ⟨e.2.2.2.1,e.2.2.2.2.1,e.2.2.2.2.2⟩)
  (fun s=>by
   obtain ⟨l,i,c,a,sd⟩:=s
   rintro ⟨k,hl,hi,hk,u,v,f⟩
   dsimp only at hl hi u v f
   subst hi
   rw [a9x]
   by_cases c1:(k:Int)<1+n
   ·left
    rw [brd c1]
    have fin: ∀{op:Int} {m:bV} {C:Int},(1<=op/\op<=8)->(4<=op->1<=k)->Src C m->C<=B+3+40*k+10->
     ∃s',opM l (k:Int) (IntKind.wrap .i64 op) m=some (.inl s')/\(∃k:Nat,s'.1.length=k/\s'.2.1=(k:Int)/\(k:Int)<=1+n/\(∀(j:Nat) (d:j<s'.1.length),sB s'.1[j] (j:Int)=true)/\cu s'.1 2<=3/\Src (B+3+40*k) ⟨s'.2.2.1,s'.2.2.2.1,s'.2.2.2.2⟩)/\(1+n-s'.2.1).toNat<(1+n-(k:Int)).toNat:=by
     intro op m C h1 h4 f hC
     rw [ai op om om]
     obtain ⟨g,m',e,g0,r,t⟩:=c5K (l:=l) (k:=k) om om h1 h4 v f om
     refine ⟨_,e,⟨k+1,by simp [hl],rfl,by omega,fun j d=> ?_,r,t.mono om⟩,by dsimp only;omega⟩
     dsimp only at d ⊢
     rw [List.getElem_append]
     split
     ·rename_i o;exact u j o
     ·rename_i o
      have:j=k:=by simp at d;omega
      subst this
      simpa using g0
    obtain ⟨x,m2,e2,x0,x1,_,s2⟩:=ku (n:=8) f om
    have x8:=x1 om
    rw [e2,obs]
    dsimp only
    by_cases c0:(k:Int)=0
    ·rw [bre c0]
     obtain ⟨y,m3,w,y0,y1,_,p⟩:=ku (n:=3) s2 om
     have y3:=y1 om
     rw [w,obs]
     exact fin ⟨by dsimp only;omega,by dsimp only;omega⟩ (fun h=>by dsimp only at h;omega) p om
    ·rw [cm c0]
     obtain ⟨y,m3,w,p⟩:=zZ (n:=3) s2 om
     rw [w,obs]
     dsimp only
     cases y
     ·exact fin ⟨by omega,by omega⟩ (fun _=>by omega) p om
     ·obtain ⟨z,m4,e4,z0,z1,_,s4⟩:=ku (n:=3) p om
      have z3:=z1 om
      rw [dj,e4,obs]
      exact fin ⟨by dsimp only;omega,by dsimp only;omega⟩ (fun h=>by dsimp only at h;omega) s4 om
   ·right
    rw [brn c1]
    exact ⟨_,rfl,by dsimp only;omega,u,v,f.mono om⟩)
  ([],0,q.code,q.at_,q.seed) ⟨0,rfl,rfl,by omega,fun j d=>by simp at d,by simp [cu],s1.mono om⟩
 rw [r,obs]
 obtain ⟨g3,g4,g5,g6⟩:=t
 dsimp only at g3 g4 g5 g6
 exact ⟨l,_,rfl,⟨by omega,by omega,g4,by omega⟩,by omega,g5,g6⟩
theorem Xq {code:List UInt8} (h:code.length<=1048600): ∃l,um code=some ⟨l⟩/\OkC l/\l.length<=9/\cu l 2<=3:=by
 unfold um
 obtain ⟨m,e,a⟩:=Hm h
 obtain ⟨l,m',e2,b,c,d,_⟩:=SH a dcd
 rw [e,obs,e2]
 exact ⟨l,rfl,b,c,d⟩
end
section
theorem VE {a b:List Int} {g:List aC} {n:Nat} (hn:n<=100) {m:bV} {B:Int} (h:Src B m) (hb:B+4000<Big):
 ∃l m',Loop (fk a b g) ([],(n:Int),m.code,m.at_,m.seed)=some (l,0,false,m'.code,m'.at_,m'.seed)/\l.length=n/\hK l/\Src (B+30*n) m':=by
 obtain ⟨⟨l,k,f,c,at_,sd⟩,v,g2⟩:=rg (step:=fk a b g)
  (fun s=>0<=s.2.1/\(s.1.length:Int)+s.2.1=n/\hK s.1/\Src (B+30*(n-s.2.1)) ⟨s.2.2.1,s.2.2.2.1,s.2.2.2.2⟩) (fun s=>s.2.1.toNat)
  (fun e=>e.2.1=0/\e.2.2.1=false/\e.1.length=n/\hK e.1/\Src (B+30*n) ⟨e.2.2.2.1,e.2.2.2.2.1,e.2.2.2.2.2⟩)
  (fun s=>by
   obtain ⟨l,k,c,at_,sd⟩:=s
   rintro ⟨k0,hl,i,j⟩
   dsimp only at k0 hl i j
   simp only [fk]
   by_cases c1:k>0
   ·left
    obtain ⟨x,m1,e1,x0,x1,_,s1⟩:=ku (n:=2) j om
    have x2:=x1 om
    obtain ⟨y,m2,e2,o⟩:=zZ (n:=5) s1 om
    rw [brd c1,e1,obs]
    dsimp only
    rw [e2,obs,ai _ om om]
    dsimp only
    cases y
    ·rw [bu,aS (by simp;omega)]
     refine ⟨_,rfl,⟨by dsimp only;omega,by simp;omega,fun z d=> ?_,o.mono dmo⟩,by dsimp only;omega⟩
     rcases aJ.1 d with d|d
     ·exact i z d
     ·rw [bI] at d;subst d;exact ⟨x0,by omega⟩
    ·obtain ⟨w,m3,e3,ow,s3⟩:=CZ o om
     rw [dj,e3,obs]
     dsimp only
     rw [aS (by simp;omega)]
     refine ⟨_,rfl,⟨by dsimp only;omega,by simp;omega,fun z d=> ?_,s3.mono dmo⟩,by dsimp only;omega⟩
     rcases aJ.1 d with d|d
     ·exact i z d
     ·rw [bI] at d;subst d;exact ow
   ·right
    rw [brn c1]
    exact ⟨_,rfl,by dsimp only;omega,by dsimp only;rw [ae c1],by dsimp only;omega,i,j.mono om⟩)
  ([],(n:Int),m.code,m.at_,m.seed) ⟨by dsimp only;omega,by simp,(fun x hx=>by cases hx),h.mono sm⟩
 obtain ⟨p,q,r,t,u⟩:=g2
 dsimp only at p q r t u
 subst p q
 exact ⟨l,⟨c,at_,sd⟩,v,r,t,u⟩
theorem a7E {a b d e:List Int} {g g':List aC} (s:List Int×Int×List UInt8×Int×Int):k9 a b g s=fk d e g' s:=rfl
theorem V6 {l:List aC} (f:l.length<=100) {m:bV} {B:Int} (h:Src B m) (i:B+10000<Big):
 ∃P I m',mf ⟨l⟩ m=some (P,I,m')/\hK P/\hK I/\P.length=cu l 2/\I.length=cu l 1/\Src (B+6000) m':=by
 have j:=iW l 2
 have k:=iW l 1
 unfold mf
 rw [JM (by show l.length<=_;omega),obs]
 dsimp only
 obtain ⟨P,o,e1,lP,oP,c⟩:=VE (a:=[]) (b:=[2,1]) (g:=l) (n:=cu l 2) om h om
 rw [e1,obs,JM (by show l.length<=_;omega),obs]
 dsimp only
 rw [show k9 P [2,1] l=fk P [2,1] l from funext fun s=>a7E s]
 obtain ⟨I,d,e2,lI,oI,e⟩:=VE (a:=P) (b:=[2,1]) (g:=l) (n:=cu l 1) om c om
 rw [e2,obs]
 exact ⟨P,I,d,rfl,oP,oI,lP,lI,e.mono om⟩
theorem Zg {code:List UInt8} (h:code.length<=1048600) {l:List aC} (a:l.length<=100): ∃P I,wJ code ⟨l⟩=some ⟨P,I⟩/\hK P/\hK I/\P.length=cu l 2/\I.length=cu l 1:=by
 unfold wJ
 obtain ⟨m,e,b⟩:=Hm h
 obtain ⟨P,I,m',e2,c,d,f,i,_⟩:=V6 a b dcd
 rw [e,obs,e2]
 exact ⟨P,I,rfl,c,d,f,i⟩
end
section
theorem US {m:bV} {B:Int} (r:Src B m) (hB:B+1000<Big): ∃s m',ma m=some (s,m')/\Few s 4/\Src (B+500) m':=by
 unfold ma
 obtain ⟨y,m2,e2,p,t⟩:=a6o (l:=[[],[97],[108,97,98,101,108]]) r om dcd dcd
 have u:y.length<=1000:=by
  simp only [aW,List.mem_nil_iff,or_false] at p
  rcases p with rfl|rfl|rfl<;>simp
 rw [e2,obs,b4N (l:=y) om,obs]
 obtain ⟨b,m3,v,q⟩:=zZ (n:=3) t om
 dsimp only
 rw [v,obs]
 cases b
 ·dsimp only
  obtain ⟨x,w,c,d,f,_,h⟩:=ku (n:=4) q om
  have x4:=f om
  rw [bu,c,obs]
  obtain ⟨e,j,o,a⟩:=b9o (c4:=0) (c5:=[]) (c6:=0) (i:=x) (k:=0) (s:=⟨[],0,H (b8h++y),0⟩) h ⟨a3W sm (fun x hx=>by cases hx),by simp,by simp⟩ d om om om
  dsimp only
  rw [j,obs,ZM (by show e.2.2.2.2.2.1.length<=_;have:=a.ok.len;dsimp only at this;omega),obs]
  exact ⟨_,_,rfl,a.mono om,o.mono om⟩
 ·dsimp only
  obtain ⟨z,w,c,z0,z1,_,h⟩:=ku (n:=5) q om
  have z5:=z1 om
  rw [dj,c,obs]
  dsimp only
  rw [ai _ om om]
  obtain ⟨L,m5,e5,L1,L2,s5⟩:=a4Q (n:=1+z) h om om om
  rw [e5,obs]
  obtain ⟨x,m6,e6,d,f,_,s6⟩:=ku (n:=4) s5 om
  have x4:=f om
  dsimp only
  rw [e6,obs]
  obtain ⟨e,j,o,a⟩:=a4C (c4:=0) (c5:=[]) (c6:=0) (i:=x) (k:=0) (s:=⟨L,0,H (b8h++y),0⟩) s6 ⟨a3W om L2,by simp,by simp⟩ d om om om
  dsimp only
  rw [j,obs,ZM (by show e.2.2.2.2.2.1.length<=_;have:=a.ok.len;dsimp only at this;omega),obs]
  exact ⟨_,_,rfl,a.mono om,o.mono om⟩
theorem Rk {m:bV} {B:Int} (h:Src B m) (j:B+1000<Big): ∃t m',lf m=some (t,m')/\setB t=true/\(t.Rate<=2/\t.Queries<=3/\t.Grind<=2)/\Src (B+9) m':=by
 unfold lf
 obtain ⟨x,k,e1,l,a,_,b⟩:=ku (n:=2) h om
 obtain ⟨y,o,e2,p,c,_,d⟩:=ku (n:=3) b om
 obtain ⟨z,q,e,z0,f,_,i⟩:=ku (n:=3) d om
 have r:=a om
 have s:=c om
 have u:=f om
 rw [e1,obs]
 dsimp only
 rw [e2,obs]
 dsimp only
 rw [e,obs]
 dsimp only
 rw [ai _ om om,ai _ om om]
 refine ⟨_,_,rfl, ?_,⟨by dsimp only;omega,by dsimp only;omega,by dsimp only;omega⟩,i.mono om⟩
 unfold setB
 rw [aj dmo,aj dmo,aj dmo];rfl
def c0v:List aC:=[⟨1,0,0,0⟩,⟨2,0,0,0⟩,⟨6,0,0,0⟩,⟨4,2,1,0⟩]
theorem b6x:OkC c0v:=⟨by decide,by decide,fun k a=>by
 have:k=0\/k=1\/k=2\/k=3:=by
  have:k<4:=a
  omega
 rcases this with rfl|rfl|rfl|rfl<;>rfl,by decide⟩
structure c1U (l:List aC) (P I:List Int):Prop where
 rc:a2c ⟨l⟩ P I
 fit:l.all (ll (rnM P I l l.length))=true
 n9:l.length<=9
 p3:cu l 2<=3
theorem a8u {m:bV} {B:Int} (h:Src B m) (hB:B+20000<Big): ∃l P I t s m',oZ m=some (⟨l⟩,P,I,t,s,m')/\c1U l P I/\setB t=true/\(t.Rate<=2/\t.Queries<=3/\t.Grind<=2)/\Few s 4/\Src (B+10000) m':=by
 unfold oZ
 obtain ⟨l,m1,e1,ok,q,p3,r⟩:=SH h om
 obtain ⟨P,I,m2,e2,n,o,lP,lI,p⟩:=V6 (l:=l) om r om
 rw [e1,obs]
 dsimp only
 rw [e2,obs]
 dsimp only
 rw [Zd (c:=⟨l⟩) ok n o lP lI,obs,WX (c:=⟨l⟩) ok (rL _ _ _ _),obs]
 cases u:l.all (ll (rnM P I l l.length))
 ·rw [lF,dj]
  obtain ⟨x,m3,v,ox,w⟩:=CZ p om
  obtain ⟨y,m4,e4,oy,s4⟩:=CZ w om
  obtain ⟨t,m5,b,d,t2,e⟩:=Rk s4 om
  obtain ⟨s,f,i,j,k⟩:=US e om
  rw [v,obs]
  dsimp only
  rw [e4,obs]
  dsimp only
  rw [b,obs]
  dsimp only
  rw [i,obs]
  refine ⟨c0v,[x],[y],t,s,f,rfl,⟨⟨b6x, ?_, ?_,rfl,rfl⟩,rfl,by decide,by decide⟩,d,t2,j,k.mono om⟩
  ·intro z a;rw [bI] at a;subst a;exact ox
  ·intro z a;rw [bI] at a;subst a;exact oy
 ·rw [aQ,bu]
  obtain ⟨t,m5,b,d,t2,e⟩:=Rk p om
  obtain ⟨s,f,i,j,k⟩:=US e om
  rw [b,obs]
  dsimp only
  rw [i,obs]
  exact ⟨l,P,I,t,s,f,rfl,⟨⟨ok,n,o,lP,lI⟩,u,q,p3⟩,d,t2,j,k.mono om⟩
theorem a0o {code:List UInt8} (h:code.length<=1048600): ∃l P I t s,AT code=some ⟨⟨l⟩,P,I,t,s⟩/\c1U l P I/\setB t=true/\(t.Rate<=2/\t.Queries<=3/\t.Grind<=2)/\Few s 4:=by
 unfold AT
 obtain ⟨m,e,a⟩:=Hm h
 obtain ⟨l,P,I,t,s,m',e2,b,c,d,f,_⟩:=a8u a dcd
 rw [e,obs,e2]
 exact ⟨l,P,I,t,s,rfl,b,c,d,f⟩
end
set_option maxRecDepth 20000
section
def pN:jy:=⟨[],[],⟨0,0⟩,⟨0,0⟩,⟨0,0⟩,[],⟨0,0⟩,⟨[],[],⟨0,0⟩,0,[]⟩⟩
noncomputable def pfR (s:bD) (t:Setting) (p z:List Int) (src:Source):jy×Int:=if (pO s t p z src).2.2=true then (zL s t p z src,0) else (pN,14)
theorem a0j {s:bD} {t:Setting} {p z:List Int} {src:Source} {k:Int} (h:JC s t p src) (a:Few src k) (b:k<=700) (c:hK z) (lz:z.length=2^s.Cols.toNat):G4 s t p z src=some (pfR s t p z src):=by
 unfold G4 pfR
 rw [Oz (by have:=h.fw.1.1;omega),obs,a33 h a b c lz,obs]
 dsimp only
 cases (pO s t p z src).2.2
 ·rfl
 ·rfl
theorem b3G (s:bD) (t:Setting) (p z:List Int) (src:Source):(pfR s t p z src).2=0\/(pfR s t p z src).2=14:=by
 unfold pfR;split
 ·exact .inl rfl
 ·exact .inr rfl
theorem b1x {l:List aC} {P I:List Int} {t:Setting} {src:Source} {k:Int} (rc:a2c ⟨l⟩ P I) (a:setB t=true) (b:Few src k) (c:k<=700):JC (rP l) t P src:=by
 have n2:=iW l 2
 have hn:l.length<=15:=rc.ok.n2
 have lP:P.length=cu l 2:=rc.lP
 exact ⟨WG rc.ok,a,by omega,rc.hP,by show (P.length:Int)=((cu l 2:Nat):Int);omega,b.mono om⟩
theorem Bf {l:List aC} {P I:List Int} {t:Setting} {src:Source} {k:Int} (rc:a2c ⟨l⟩ P I) (h:setB t=true) (d:Few src k) (i:k<=700):
 eU ⟨l⟩ t P I src=some (if l.all (ll (rnM P I l l.length))=true then pfR (rP l) t P (SF l P (prM (rnM P I l l.length) l l.length)) src else (pN,15)):=by
 have hn:l.length<=15:=rc.ok.n2
 have n2:=iW l 2
 have lP:P.length=cu l 2:=rc.lP
 have j:=JA rc.ok rc.hP rc.hI rc.lP rc.lI l.length (am _)
 have f:=W8 j (rL P I l l.length) l.length (am _)
 have b:=QA (rnM P I l l.length) l
 obtain ⟨m,o,p,q⟩:=PD rc.ok lP b
 obtain ⟨n,e,r,s⟩:=b6k d om
 unfold eU
 rw [LL (by show l.length<=_;omega),obs,b1q rc,m9 rfl,nN,obs,h,aQ,bu,Wm d.1,obs,aQ,bu,e,obs,brn om,
  Zc rc.ok rc.hP rc.hI rc.lP rc.lI,obs]
 by_cases a:l.all (ll (rnM P I l l.length))=true
 ·rw [aa a,aa a]
  dsimp only
  rw [aQ,bu,OY rc.ok,obs,a0N rc.ok (rL P I l l.length),obs]
  dsimp only
  have c:jP (rP l) P (prM (rnM P I l l.length) l l.length)=some (SF l P (prM (rnM P I l l.length) l l.length)):=OE (WG rc.ok) m o
  rw [c,obs,a0j (b1x rc h d i) d i (a5R rc.hP f) (ZO rc.ok lP b),obs]
 ·rw [a7 a,a7 a];rfl
end
section
variable {s:bD} {t:Setting} {p z:List Int} {src:Source} {k:Int}
theorem Zq {R:List (List K)} {n:Nat} {m:Int} (a:(R.length:Int)=m) (b: ∀g∈R,g.length=n):qP (kvv R) m (n:Int)=true:=by
 unfold qP
 rw [tW,aj a,bk]
 refine an.2 fun x c=> ?_
 obtain ⟨g,d,rfl⟩:=bf.1 c
 unfold UD
 rw [bB,aj (by rw [b g d]),ZI.2 (An g)];rfl
theorem b7f (h:(pO s t p z src).2.2=true): ∃n,n<65536/\(pO s t p z src).1=opO (s.Cols.toNat-1) t.Rate.toNat t.Queries.toNat n (pW s z) (pPt s t p z src) (pX5 s t p z src):=by
 rw [a2U] at h ⊢
 cases a:vi (opS (s.Cols.toNat-1) t.Rate.toNat (pW s z) (pPt s t p z src) (pX5 s t p z src)).State t.Grind.toNat with
 |none=>rw [JP a] at h;cases h
 |some n=>
  rw [Kk a]
  exact ⟨n,(Qy a).1,rfl⟩
theorem Xv (q:jy):okP q s t=(lX s&&(setB t&&(h32 q.Root&&(qP q.Gates s.Rows 4&&(vY q.VA&&(vY q.VB&&(vY q.VC&&(qP q.Wires s.Cols 3&&(vY q.VW&&okO q.Open (s.Cols-1) t))))))))):=rfl
theorem b56:(zL s t p z src).Root=pRt s t z:=by rw [zL]
theorem c62:(zL s t p z src).Gates=kvv (pV1 s t p z src).1:=by rw [zL]
theorem c4O:(zL s t p z src).VA=(pL s t p z src 1).1:=by rw [zL]
theorem c69:(zL s t p z src).VB=(pL s t p z src 2).1:=by rw [zL]
theorem c6n:(zL s t p z src).VC=(pL s t p z src 3).1:=by rw [zL]
theorem c6f:(zL s t p z src).Wires=kvv (pV2 s t p z src).1:=by rw [zL]
theorem c6o:(zL s t p z src).VW=(pVw s t p z src).1:=by rw [zL]
theorem c0k:(zL s t p z src).Open=(pO s t p z src).1:=by rw [zL]
theorem XD (b:lX s=true) (c:setB t=true) (lz:z.length=2^s.Cols.toNat) (f:(pO s t p z src).2.2=true):okP (zL s t p z src) s t=true:=by
 obtain ⟨k,hc,_⟩:=fE b
 obtain ⟨tr,tq,tg⟩:=lM c
 obtain ⟨n,hn,e⟩:=b7f f
 have a:=c1P (v:=s.Cols.toNat-1) (ρ:=t.Rate.toNat) (nq:=t.Queries.toNat) (n:=n) (st:=t) (t:=pW s z) (P:=pPt s t p z src) (s:=pX5 s t p z src) (a3K b lz) om om om c om om hn
 rw [<-e,show ((s.Cols.toNat-1:Nat):Int)=s.Cols-1 by omega] at a
 have l:=Ll (s:=s) (t:=t) (p:=p) (z:=z) (src:=src)
 have m:=KK (s:=s) (t:=t) (p:=p) (z:=z) (src:=src)
 have h:qP (kvv (pV1 s t p z src).1) s.Rows ((4:Nat):Int)=true:=Zq om (fun g d=>Ht (kind:=2) (bh:=bh0) _ _ _ _ g d)
 have i:qP (kvv (pV2 s t p z src).1) s.Cols ((3:Nat):Int)=true:=Zq om (fun g d=>Ht (kind:=1) (bh:=bh0) _ _ _ _ g d)
 have j:h32 (pRt s t z)=true:=aj (X4 b c)
 have o: ∀x:K,vY x.1=true:=fun x=>uP.2 x.2
 rw [Xv,b,c,b56,j,c62,show qP (kvv (pV1 s t p z src).1) s.Rows 4=true from h,c4O,o,c69,o,c6n,o,c6f,show qP (kvv (pV2 s t p z src).1) s.Cols 3=true from i,c6o,o,c0k,a];rfl
def pB (q:jy):List UInt8:=q.Root++q.Gates.flatMap (fun g=>g.flatMap e8)++[q.VA,q.VB,q.VC].flatMap e8++q.Wires.flatMap (fun g=>g.flatMap e8)++[q.VW].flatMap e8++oB q.Open
theorem b3P {q:jy} (h:okP q s t=true):q.Root.length=32/\(q.Gates.length<=5/\ ∀g∈q.Gates,g.length<=4)/\(q.Wires.length<=5/\ ∀g∈q.Wires,g.length<=4)/\BoO q.Open:=by
 unfold okP at h
 simp only [aB] at h
 obtain ⟨c,k,d,e,_,_,_,f,_,i⟩:=h
 obtain ⟨l,hc,_⟩:=fE c
 have rb: ∀{R:List (List Ext)} {m:Int} {n:Nat},m<=5->n<=4->qP R m (n:Int)=true->R.length<=5/\ ∀g∈R,g.length<=4:=fun o hn h=>by
  unfold qP at h
  rw [aB,aA] at h
  refine ⟨by omega,fun g j=> ?_⟩
  have:=an.1 h.2 g j
  unfold UD at this
  rw [aB,aA] at this
  omega
 have a:=rb (n:=4) om om e
 have b:=rb (n:=3) om om f
 refine ⟨gz d,a,b, ?_⟩
 exact (Nk (v:=s.Cols.toNat-1) (by rw [show ((s.Cols.toNat-1:Nat):Int)=s.Cols-1 by omega];exact i)).bo
theorem c5l {o:bJ} (h:BoO o):(oB o).length<=20000:=by
 have e:=GD (l:=o.Rounds) (f:=fun g:List Ext=>g.flatMap e8) (c:=24) (fun g a=>h.rnd a)
 have l2:=GD (l:=o.Roots) (f:=fun x:List UInt8=>x) (c:=32) (fun x b=>h.rh x b)
 have l3:=j2 [o.Last]
 have l4:=GD (l:=o.Queries) (f:=qB) (c:=1632) (fun q d=>h.qry d)
 have i:=h.rn
 have j:=h.ro
 have k:=h.qn
 simp only [ab,ah] at l3
 have e2:(o.Roots.flatMap id).length<=o.Roots.length*32:=l2
 unfold oB
 simp only [a8,gg]
 omega
theorem BoO.sz {o:bJ} (h:BoO o):SzO o:=by
 have e:=h.rn
 have f:=h.ro
 have i:=h.qn
 refine ⟨⟨by omega,fun g c=>by have:=h.rr g c;omega⟩,⟨by omega,fun x a=>by have:=h.rh x a;unfold SzT;omega⟩,by omega,fun q b=>⟨by have:=h.qp q b;omega,by have:=h.qt q b;omega,fun x a=>⟨by have:=(h.qq q b x a).1;omega,fun y d=>by have:=(h.qq q b x a).2 y d;unfold SzT;omega⟩⟩⟩
theorem a3I {q:jy} (h:okP q s t=true):SzP q:=by
 obtain ⟨e,⟨a,b⟩,⟨f,c⟩,d⟩:=b3P h
 exact ⟨by unfold SzT;omega,⟨by omega,fun g a=>by have:=b g a;omega⟩,⟨by omega,fun g a=>by have:=c g a;omega⟩,d.sz⟩
theorem b7K {α:Type} {l:List α} {j:Nat} (h:j<l.length):l[j]∈l:=b9 h
end
section
end
section
theorem OZ (x:Int):nK x=kF x:=K.ext (CF rfl rfl)
theorem c5E (a b:Int):kF (aF a b)=kF a+kF b:=K.ext (CF (by show (a+b)%2130706433%2130706433=(a%2130706433+b%2130706433)%2130706433;omega) rfl)
theorem QM (l:List Int) (j:Nat):(l.map nK).getD j 0=nK (l.getD j 0):=by
 by_cases h:j<l.length
 ·simp [h]
 ·simp [h];exact (OZ 0).symm
theorem b4f {z:List Int} (R:List K): ∀(l:List aN) (T:List Int),(∀e∈l,e.Row.toNat<T.length)->ja ((l.foldl (muS z) T).map nK) R=ja (T.map nK) R+sK R (z.map nK) l
 |[],T,_=>by rw [jd,sK];exact kg
 |x::l,T,h=>by
  rw [bP,b4f R l _ fun y hy=>by rw [muS,aO];exact h y (by simp [hy]),sK]
  have e:(muS z T x).map nK=(T.map nK).set x.Row.toNat ((T.map nK).getD x.Row.toNat 0+kF x.Value*(z.map nK).getD x.Col.toNat 0):=by
   rw [muS,List.map_set,QM,QM,OZ,c5E,QH, <-OZ (T.getD _ _), <-OZ (z.getD _ _)]
  rw [e,Tt _ _ _ _ (by rw [aw];exact h x sm)]
  generalize ja (T.map nK) R=a
  generalize (z.map nK).getD x.Col.toNat 0=b
  generalize R.getD x.Row.toNat 0=c
  generalize sK R (z.map nK) l=d
  clear e h
  exact kg
theorem c4S {z:List Int} (R:List K) {l:List aN} {n:Nat} (h: ∀e∈l,0<=e.Row/\e.Row<((2^n:Nat):Int)):ja ((muM l n z).map nK) R=sK R (z.map nK) l:=by
 rw [muM,b4f R l _ fun e a=>by have:=h e a;rw [aL];omega,vN,OZ,k0v',Re]
 exact kg
where
 k0v':kF 0=0:=rfl
theorem a5t: ∀(A B:List K) (c:K),eaK A B c=eaK B A c
 |[],[],c=>rfl
 |[],_::_,c=>rfl
 |_::_,[],c=>rfl
 |x::A,y::B,c=>by
  rw [eaK,eaK,a5t A B,show c*(x*y+(1-x)*(1-y))=c*(y*x+(1-y)*(1-x)) from kg]
theorem ZA: ∀(A B C D:List K),A.length=C.length->ja (A++B) (C++D)=ja A C+ja B D
 |[],B,[],D,_=>by
  show ja B D=0+ja B D
  exact kg
 |a::A,B,c::C,D,h=>by
  have:=ZA A B C D (by simpa using h)
  show a*c+ja (A++B) (C++D)=a*c+ja A C+ja B D
  rw [this]
  exact kg
theorem NN (p:K): ∀(A E:List K),ja A (E.map fun x=>x*p)=ja A E*p
 |[],E=>by
  show (0:K)=0*p
  exact kg
 |_::_,[]=>by
  show (0:K)=0*p
  exact kg
 |a::A,e::E=>by
  have:=NN p A E
  show a*(e*p)+ja A (E.map fun x=>x*p)=(a*e+ja A E)*p
  rw [this]
  exact kg
theorem b4G {Z low:List K} {top:K} (h:Z.length=2^low.length+2^low.length):
 ja Z (eqK (low++[top]))=ja (Z.take (2^low.length)) (eqK low)+top*(ja (Z.drop (2^low.length)) (eqK low)-ja (Z.take (2^low.length)) (eqK low)):=by
 have e:eqK (low++[top])=(eqK low).map (fun a=>a*(1-top))++(eqK low).map (fun a=>a*top):=by
  rw [eqK,gG];rfl
 conv=>lhs;rw [<-iX (2^low.length) Z]
 rw [e,ZA _ _ _ _ (by rw [aD,aw,EI];omega),NN,NN]
 generalize ja (Z.take (2^low.length)) (eqK low)=a
 generalize ja (Z.drop (2^low.length)) (eqK low)=b
 clear h e
 exact kg
theorem Vv {f:Nat->K}: ∀n,(∀k,k<n->f k=0)->sO n f=0
 |0,_=>rfl
 |n+1,h=>by rw [sO,Vv n fun k a=>h k om,h n om];exact kg
theorem c5D {s:bD} (h:lX s=true) (R Z:List K) (x y w:K):ja (btM s R x y w) Z=x*sK R Z s.A+(y*sK R Z s.B+w*sK R Z s.C):=by
 obtain ⟨mA,mB,mC⟩:=b51 h
 have cl: ∀{L:List aN} {RR:Int},OkM L RR ((2^s.Cols.toNat:Nat):Int)-> ∀e∈L,e.Col.toNat<2^s.Cols.toNat:=fun m e d=>by
  obtain ⟨_,hc,_⟩:=m.ent e d
  omega
 rw [btM,XC _ _ _ _ _ (by rw [vn,vn,aL];exact cl mC),XC _ _ _ _ _ (by rw [vn,aL];exact cl mB),XC _ _ _ _ _ (by rw [aL];exact cl mA),Re]
 generalize sK R Z s.A=a
 generalize sK R Z s.B=b
 generalize sK R Z s.C=c
 clear mA mB mC cl h
 exact kg
theorem a5M (x:K):toK x.1=x:=K.ext (tZ x.2)
theorem c1I (v ρ nq n:Nat) (t P:List K) (s:Source):Q3 (opO v ρ nq n t P s)=(opQ v ρ t P s).1:=by
 show (kvv (opQ v ρ t P s).1).map (fun g=>g.map toK)=_
 rw [kvv,fg]
 refine (bn fun g _=> ?_).trans (jO _)
 show (kv g).map toK=g
 rw [kv,fg]
 exact (bn fun x _=>a5M x).trans (jO _)
variable {s:bD} {t:Setting} {p z:List Int} {src:Source} {k:Int}
theorem b8i (a:QL s z=true):wU 2 (pT1 s t p z src) (2^s.Rows.toNat)=0:=Vv _ fun k b=>by
 have h:=a0c.1 a k b
 show cmK 2 (vp (pT1 s t p z src) k)=0
 rw [cmK,a7 dcd,uQ,uQ,uQ,uQ]
 show (eqK (JJ s t p z src)).getD k 0*(((muM s.A s.Rows.toNat z).map nK).getD k 0*((muM s.B s.Rows.toNat z).map nK).getD k 0-((muM s.C s.Rows.toNat z).map nK).getD k 0)=0
 rw [QM,QM,QM,OZ,OZ,OZ, <-h,QH]
 exact kg
theorem a4u (a:QL s z=true):vg1 s t p (pRt s t z) (pV1 s t p z src).1 src=(0,(pV1 s t p z src).2.1,wU 2 (pV1 s t p z src).2.2.1 1,(pV1 s t p z src).2.2.2):=by
 have key:=a6h (kind:=2) (bh:=bh0) (bv:=bv0) s.Rows.toNat [] (pT1 s t p z src) (drS (pX1 s t p z src) s.Rows.toNat) a2S (fun _ _ _=>rfl)
 rw [b8i a,ah] at key
 exact key
theorem a4P (i:Nat):(pV1 s t p z src).2.2.1.getD i []=FA (pV1 s t p z src).2.1 ((pT1 s t p z src).getD i []):=Ql (kind:=2) (bh:=bh0) i _ _ _ _
theorem a5c (i:Nat):(pV2 s t p z src).2.2.1.getD i []=FA (pV2 s t p z src).2.1 ((pT2 s t p z src).getD i []):=Ql (kind:=1) (bh:=bh0) i _ _ _ _
theorem c0Q:cmK 2 [eaK (JJ s t p z src) (pV1 s t p z src).2.1 1,pL s t p z src 1,pL s t p z src 2,pL s t p z src 3]=wU 2 (pV1 s t p z src).2.2.1 1:=by
 have h0:(p5 (pV1 s t p z src).2.2.1).getD 0 0=eaK (JJ s t p z src) (pV1 s t p z src).2.1 1:=by
  have a:=a2s (pV1 s t p z src).2.1 (JJ s t p z src) 1 (by rw [Ll.2,Sb])
  rw [Ds,a4P,a5t, <-a]
  show (FA (pV1 s t p z src).2.1 (eqK (JJ s t p z src))).getD 0 0=_
  generalize (FA (pV1 s t p z src).2.1 (eqK (JJ s t p z src))).getD 0 0=y
  clear a
  exact kg
 rw [WI, <-h0]
 conv=>rhs;rw [c4t (b1b (s:=s) (t:=t) (p:=p) (z:=z) (src:=src))]
 rfl
theorem a36 {j:Nat} {L:List aN} (c:lX s=true) (a:(pT1 s t p z src).getD j []=(muM L s.Rows.toNat z).map nK) (b: ∀e∈L,0<=e.Row/\e.Row<((2^s.Rows.toNat:Nat):Int)):pL s t p z src j=sK (eqK (pV1 s t p z src).2.1) (z.map nK) L:=by
 rw [pL,Ds,a4P,a, <-PH _ _ (by rw [aw,Lt,Ll.2]),c4S _ b]
theorem a9z (a:lX s=true) (lz:z.length=2^s.Cols.toNat):vr (pX3 s t p z src) 0*pL s t p z src 1+(vr (pX3 s t p z src) 1*pL s t p z src 2+vr (pX3 s t p z src) 2*pL s t p z src 3)=wU 1 (pT2 s t p z src) (2^s.Cols.toNat):=by
 obtain ⟨mA,mB,mC⟩:=b51 a
 have rw_: ∀{L:List aN} {CC:Int},OkM L ((2^s.Rows.toNat:Nat):Int) CC-> ∀e∈L,0<=e.Row/\e.Row<((2^s.Rows.toNat:Nat):Int):=fun m e b=>by have:=(m.ent e b).1;omega
 rw [pT2,a5K (PQ _ _ _ _ _) (by rw [aw,lz]),c5D a,a36 (j:=1) (L:=s.A) a rfl (rw_ mA),a36 (j:=2) (L:=s.B) a rfl (rw_ mB),a36 (j:=3) (L:=s.C) a rfl (rw_ mC)]
theorem c0T (b:lX s=true) (a:QL s z=true) (lz:z.length=2^s.Cols.toNat):vg2 s t p (pRt s t z) (pV1 s t p z src).1 (pV2 s t p z src).1 (pL s t p z src 1) (pL s t p z src 2) (pL s t p z src 3) src=(0,(pV2 s t p z src).2.1,wU 1 (pV2 s t p z src).2.2.1 1,(pV2 s t p z src).2.2.2):=by
 have key:=a6h (kind:=1) (bh:=bh0) (bv:=bv0) s.Cols.toNat [] (pT2 s t p z src) (drS (pX3 s t p z src) 3) (b1U lz) (fun _ _ _=>rfl)
 rw [<-a9z b lz,ah] at key
 have e:vx3 s t p (pRt s t z) (pV1 s t p z src).1 (pL s t p z src 1) (pL s t p z src 2) (pL s t p z src 3) src=pX3 s t p z src:=by
  rw [vx3,a4u a];rfl
 rw [vg2,e]
 exact key
theorem b3s (d:lX s=true) {pr:List Int} (lp1:p.length+1<=gt s) (lp:pr.length<=gt s) (k:hK p) (l:z=yI (gt s) (2^s.Cols.toNat) p pr) (lz:z.length=2^s.Cols.toNat) (e:hK z):
 a6i s p (pV1 s t p z src).2.1 (pV2 s t p z src).2.1 (vr (pX3 s t p z src) 0) (vr (pX3 s t p z src) 1) (vr (pX3 s t p z src) 2) (pVw s t p z src)=wU 1 (pV2 s t p z src).2.2.1 1:=by
 have m:=xH d
 obtain ⟨c1,c2,c3⟩:=AR d
 have h:=KK (s:=s) (t:=t) (p:=p) (z:=z) (src:=src)
 have gp:=XT (t:=t) (p:=p) (z:=z) (src:=src) d
 have i:gt s=2^(pPt s t p z src).length:=by rw [gp];rfl
 have a:(pV2 s t p z src).2.1=pPt s t p z src++[(pV2 s t p z src).2.1.getD (s.Cols.toNat-1) 0]:=by
  conv=>lhs;rw [<-iX (s.Cols.toNat-1) (pV2 s t p z src).2.1]
  rw [pPt]
  congr 1
  rw [jr om,iD om]
  simp [show s.Cols.toNat-1<(pV2 s t p z src).2.1.length by omega]
 have c:a8z s p (pPt s t p z src)=ja ((z.map nK).take (gt s)) (eqK (pPt s t p z src)):=by
  refine K.ext ?_
  have et:(yI (gt s) (2^s.Cols.toNat) p []).take (gt s)=z.take (gt s):=by
   have b:((1::p)++List.replicate (gt s-1-p.length) (0:Int)).length=gt s:=by simp;omega
   rw [l,yI,yI,List.take_left' b,List.take_left' b]
  rw [a03,b9d,et,Y7 (fun x n=>e x (cn n)),Gt,Wc,List.map_take]
 have f:pVw s t p z src=ja ((z.map nK).drop (gt s)) (eqK (pPt s t p z src)):=rfl
 have j:=b4G (Z:=z.map nK) (low:=pPt s t p z src) (top:=(pV2 s t p z src).2.1.getD (s.Cols.toNat-1) 0) (by rw [aw,lz, <-i];omega)
 rw [<-a, <-i, <-c, <-f] at j
 rw [V9,show (pV2 s t p z src).2.1.take (s.Cols.toNat-1)=pPt s t p z src from rfl, <-j,WI,cmK,aa rfl,Ds,Ds,a5c,a5c, <-PH _ _ (by rw [h.2];exact PQ _ _ _ _ _), <-PH _ _ (by rw [h.2];show (z.map nK).length=_;rw [aw,lz])]
 rfl
theorem b42 (a:lX s=true) (i:setB t=true) (j:Few src k) (l:k<=700) (lz:z.length=2^s.Cols.toNat) (c:(pO s t p z src).2.2=true):
 chO (s.Cols.toNat-1) t.Rate.toNat t.Queries.toNat t.Grind.toNat (pRt s t z) (pPt s t p z src) (pVw s t p z src) (pO s t p z src).1 (pX5 s t p z src)=0:=by
 obtain ⟨m,hc,_⟩:=fE a
 obtain ⟨tr,tq,tg⟩:=lM i
 have h:=a4w (t:=t) (p:=p) (z:=z) j a om
 have lw:=a3K a lz
 have gp:=XT (t:=t) (p:=p) (z:=z) (src:=src) a
 rw [a2U] at c ⊢
 cases b:vi (opS (s.Cols.toNat-1) t.Rate.toNat (pW s z) (pPt s t p z src) (pX5 s t p z src)).State t.Grind.toNat with
 |none=>rw [JP b] at c;cases c
 |some n=>
  rw [Kk b]
  have d:=b6m (nq:=t.Queries.toNat) (n:=n) lw gp om om om b h om om
  have e:=b7L (nq:=t.Queries.toNat) lw gp om om om b h om om
  have f:vfO (s.Cols.toNat-1) (opO (s.Cols.toNat-1) t.Rate.toNat t.Queries.toNat n (pW s z) (pPt s t p z src) (pX5 s t p z src)) (ja (pW s z) (eqK (pPt s t p z src))) (pX5 s t p z src)=(0,(opQ (s.Cols.toNat-1) t.Rate.toNat (pW s z) (pPt s t p z src) (pX5 s t p z src)).2.1,opL (s.Cols.toNat-1) t.Rate.toNat (pW s z) (pPt s t p z src) (pX5 s t p z src)*eaK (opQ (s.Cols.toNat-1) t.Rate.toNat (pW s z) (pPt s t p z src) (pX5 s t p z src)).2.1 (pPt s t p z src) 1,(opQ (s.Cols.toNat-1) t.Rate.toNat (pW s z) (pPt s t p z src) (pX5 s t p z src)).2.2.2):=by
   rw [vfO,c1I];exact d
  rw [chO,pVw,f,show toK (opO (s.Cols.toNat-1) t.Rate.toNat t.Queries.toNat n (pW s z) (pPt s t p z src) (pX5 s t p z src)).Last=opL (s.Cols.toNat-1) t.Rate.toNat (pW s z) (pPt s t p z src) (pX5 s t p z src) from a5M _]
  exact e
theorem b6s {pr:List Int} (h:JC s t p src) (i:Few src k) (j:k<=700) (b:hK pr) (lp:pr.length<=gt s) (c:z=yI (gt s) (2^s.Cols.toNat) p pr) (a:QL s z=true) (l:(pO s t p z src).2.2=true):
 b6d s t p (pRt s t z) (pV1 s t p z src).1 (pV2 s t p z src).1 (pL s t p z src 1) (pL s t p z src 2) (pL s t p z src 3) (pVw s t p z src) (pO s t p z src).1 src=0:=by
 have m:=xH h.sy
 obtain ⟨_,f⟩:=PV h.sy
 have n:=h.pe
 have lp1:p.length+1<=gt s:=by omega
 have lz:z.length=2^s.Cols.toNat:=by rw [c];exact H7 lp1 om om
 have d:hK z:=by rw [c];exact Wf h.pf b
 have e:vx3 s t p (pRt s t z) (pV1 s t p z src).1 (pL s t p z src 1) (pL s t p z src 2) (pL s t p z src 3) src=pX3 s t p z src:=by
  rw [vx3,a4u a];rfl
 unfold b6d
 rw [a4u a,c0T h.sy a lz,e]
 dsimp only
 rw [show (drL (vx1 s t p (pRt s t z) src) s.Rows.toNat).map toK=JJ s t p z src from rfl,a7 sm,a7 (mG (c0Q (s:=s) (t:=t) (p:=p) (z:=z) (src:=src))),a7 sm,a7 (mG (b3s h.sy lp1 lp h.pf c lz d))]
 exact b42 h.sy h.se i j lz l
end
section
variable {v ρ:Nat} {t P:List K} {s:Source} {k:Int}
end
section
variable {s:bD} {t:Setting} {p z:List Int} {src:Source} {k:Int}
theorem c2k {s:bD} {t:Setting} {p:List Int} {src:Source} {k:Int} (h:JC s t p src) (d:Few src k) (i:k<=700):stC s t p src=0:=by
 have e:=h.pl
 have f:=h.pe
 unfold stC
 have:=b59 (a:=src.At) (b:=src.Count) (c:=k) d.2 d.3
 rw [a7 om,h.sy,a7 sm,h.se,a7 sm,WJ h.pf,a7 sm,Qa.2 d.1,a7 sm,a7 om,a7 om]
theorem a9U (c:lX s=true) (e:setB t=true) (lz:z.length=2^s.Cols.toNat) (f:(pO s t p z src).2.2=true):a0s s t (pRt s t z) (pV1 s t p z src).1 (pV2 s t p z src).1 (pO s t p z src).1:=by
 obtain ⟨h,hc,_⟩:=fE c
 have a:=XD (p:=p) (src:=src) c e lz f
 rw [Xv] at a
 simp only [aB] at a
 have b:=a.2.2.2.2.2.2.2.2.2
 rw [c0k] at b
 exact ⟨X4 c e,Ll.1,fun g d=>Ht (kind:=2) (bh:=bh0) _ _ _ _ g d,KK.1,fun g d=>Ht (kind:=1) (bh:=bh0) _ _ _ _ g d,Nk (v:=s.Cols.toNat-1) (by rw [show ((s.Cols.toNat-1:Nat):Int)=s.Cols-1 by omega];exact b)⟩
theorem Ru {pr:List Int} (h:JC s t p src) (j:Few src k) (l:k<=700) (c:hK pr) (lp:pr.length<=gt s) (f:z=yI (gt s) (2^s.Cols.toNat) p pr) (a:QL s z=true) (d:(pO s t p z src).2.2=true):
 B0 s t p (zL s t p z src) src=some (true,0):=by
 have m:=xH h.sy
 obtain ⟨_,i⟩:=PV h.sy
 obtain ⟨_,hc,q,lA,lB,lC⟩:=fE h.sy
 have n:=h.pe
 have lz:z.length=2^s.Cols.toNat:=by rw [f];exact H7 om om om
 have b:=XD (p:=p) (src:=src) h.sy h.se lz d
 obtain ⟨src',o⟩:=a0W (va:=pL s t p z src 1) (vb:=pL s t p z src 2) (vc:=pL s t p z src 3) (vw:=pVw s t p z src) h (a9U (p:=p) (src:=src) h.sy h.se lz d)
 unfold B0
 rw [DW (a3I b) om om om,obs,b,aQ,bu,Oz (by have:=h.fw.1.1;omega),obs]
 have e:md s t p (zL s t p z src) src=some (0,src'):=by
  rw [zL,o,b6s h j l c lp f a d]
 rw [e];rfl
end
section
def hsA (m:Nat):Nat->Nat
 |0=>0
 |j+1=>hsA m j+(m-j)
theorem Yf {m:Nat} (a:m<=8): ∀j,hsA m j<=8*j
 |0=>am 0
 |j+1=>by have:=Yf a j;rw [hsA];omega
def szO (v:Nat) (t:Setting):Int:=24*v+32*((v:Int)-1)+8+4+t.Queries*(16*v+32*hsA (v+t.Rate.toNat-1) v)
variable {o:bJ} {v:Nat} {t:Setting}
theorem szq (h:setB t=true) {X:Int} (h0:0<=X) (b:X<=2000):0<=t.Queries*X/\t.Queries*X<=16000:=by
 have a:=lM h
 refine ⟨Int.mul_nonneg om h0, ?_⟩
 exact Int.le_trans (Int.mul_le_mul_of_nonneg_right a.2.1.2 h0) om
theorem Nu (b:1<=v/\v<=6) (h:setB t=true):tc (v:Int) t=some (szO v t):=by
 have c:=lM h
 unfold tc
 have key:=bq (step:=is (v:Int) (v:Int) t.Rate t.Queries t.Grind) (fun j=>((hsA (v+t.Rate.toNat-1) j:Int),(j:Int))) v (e:=((hsA (v+t.Rate.toNat-1) v:Int),(v:Int),false)) (fun j d=> ?_) ?_
 ·have key':Loop (is (v:Int) (v:Int) t.Rate t.Queries t.Grind) (0,0)=_:=key
  have a:=Yf (m:=v+t.Rate.toNat-1) om v
  have f:=szq h (X:=16*v+32*hsA (v+t.Rate.toNat-1) v) om om
  rw [key',obs]
  dsimp only
  rw [ai (24*(v:Int)) om om,ai ((v:Int)-1) om om,ai (32*((v:Int)-1)) om om,ai (24*(v:Int)+32*((v:Int)-1)) om om,ai (24*(v:Int)+32*((v:Int)-1)+8) om om,ai (24*(v:Int)+32*((v:Int)-1)+8+4) om om,
   ai (16*(v:Int)) om om,ai (32*(hsA (v+t.Rate.toNat-1) v:Int)) om om,ai (16*(v:Int)+32*(hsA (v+t.Rate.toNat-1) v:Int)) om om,ai (t.Queries*(16*(v:Int)+32*(hsA (v+t.Rate.toNat-1) v:Int))) om om,ai _ om om];rfl
 ·have a:=Yf (m:=v+t.Rate.toNat-1) om j
  simp only [is]
  rw [brd om,ai ((v:Int)+t.Rate) om om,ai ((v:Int)+t.Rate-1) om om,ai ((v:Int)+t.Rate-1-(j:Int)) om om,ai ((hsA (v+t.Rate.toNat-1) j:Int)+_) om om,ai ((j:Int)+1) om om,hsA]
  rw [show (hsA (v+t.Rate.toNat-1) j:Int)+((v:Int)+t.Rate-1-(j:Int))=((hsA (v+t.Rate.toNat-1) j+(v+t.Rate.toNat-1-j):Nat):Int) by omega];rfl
 ·simp only [is]
  rw [brn om,ae om]
theorem a54 {P:List (List (List UInt8))} {m:Nat} (h: ∀j,j<P.length->(P.getD j []).length=m-j/\ ∀x∈P.getD j [],x.length=32): ∀j,j<=P.length->(flB (P.take j)).length=32*hsA m j
 |0,_=>rfl
 |j+1,a=>by
  have d:=a54 h j om
  have b:=h j om
  rw [show P.getD j []=P[j]'a by simp [show j<P.length from a]] at b
  have e:=V7 (l:=P[j]'a) (f:=id) (c:=32) b.2
  unfold flB at d ⊢
  rw [a6c a,a8,d,e,b.1,hsA];omega
theorem c1z (h:OkO o v t) {q:cx} (a:q∈o.Queries):(qB q).length=16*v+32*hsA (v+t.Rate.toNat-1) v:=by
 obtain ⟨b,d,e,c⟩:=wz (h.qq q a)
 have f:=lM h.st
 have i:=h.v1
 have:=a54 (P:=q.Paths) (m:=v+t.Rate.toNat-1) (fun j k=>by
  have:=c j om
  exact ⟨by omega,this.2⟩) v om
 rw [aX om] at this
 unfold qB
 rw [a8,j2,this,b];omega
theorem c2W (h:OkO o v t):((oB o).length:Int)=szO v t:=by
 have j:=h.v1
 have hn:=h.qn
 have k:=lM h.st
 have a:=V7 (l:=o.Rounds) (f:=fun g:List Ext=>g.flatMap e8) (c:=24) (fun g b=>by rw [j2,(h.rr g b).1])
 have d:=V7 (l:=o.Roots) (f:=id) (c:=32) h.rh
 have e:=V7 (l:=o.Queries) (f:=qB) (c:=16*v+32*hsA (v+t.Rate.toNat-1) v) fun q i=>c1z h i
 unfold oB szO
 rw [a8,a8,a8,a8,a,d,e,j2,gg,h.rn,h.ro,ag, <-hn]
 rw [show ((o.Queries.length:Int))*(16*(v:Int)+32*(hsA (v+t.Rate.toNat-1) v:Int))=((o.Queries.length*(16*v+32*hsA (v+t.Rate.toNat-1) v):Nat):Int) by simp]
 omega
theorem Dl {α:Type} {l:List α} {enc:α->List UInt8} {step:List α×Int×List UInt8->Option ((List α×Int×List UInt8)⊕(List α×Int×Bool×List UInt8))} (r:List UInt8)
 (b: ∀(j:Nat) (a:j<l.length) (rest:List UInt8),step (l.take j,(j:Int),enc l[j]++rest)=some (.inl (l.take j++[l[j]],((j+1:Nat):Int),rest))) (c:step (l,(l.length:Int),r)=some (.inr (l,(l.length:Int),false,r))):
 Loop step ([],0,l.flatMap enc++r)=some (l,(l.length:Int),false,r):=by
 have key:=bq (step:=step) (fun j=>(l.take j,(j:Int),(l.drop j).flatMap enc++r)) l.length (e:=(l,(l.length:Int),false,r)) (fun j a=> ?_) ?_
 ·exact key
 ·rw [jr a,dA,aP,b j a,cB a]
 ·rw [List.drop_length,bw];exact c
theorem VL {n:Int} {x r:List UInt8} (h:(x.length:Int)=n):ip n ⟨x++r⟩=some (x,⟨r⟩):=by
 subst h
 unfold ip
 dsimp only
 rw [ke om om (by rw [a8];omega),obs,ke om (by rw [a8];omega) om,obs]
 have e:(((x++r).length:Nat):Int).toNat-(x.length:Int).toNat=r.length:=by rw [a8];omega
 rw [e];simp
theorem Y1 {x r:List UInt8} (h:x.length=32):iE ⟨x++r⟩=some (x,⟨r⟩):=by
 unfold iE
 rw [VL om,obs]
theorem My {n:Int} {l:List Ext} {r:List UInt8} (h:(l.length:Int)=n) (hn:n<=1000) (ok:j6 l):fu n ⟨l.flatMap e8++r⟩=some (l,⟨r⟩):=by
 unfold fu
 rw [ai _ om om,VL (by rw [j2];omega),obs,Uo (by rw [j2];omega),obs,c2y ok]
theorem NJ {n size:Int} {R:List (List Ext)} {r:List UInt8} (h:(R.length:Int)=n) (hn:n<=1000) (b:size<=1000) (c: ∀g∈R,(g.length:Int)=size/\j6 g):gk n size ⟨(R.flatMap fun g=>g.flatMap e8)++r⟩=some (R,⟨r⟩):=by
 subst h
 unfold gk
 have key:=Dl (l:=R) (enc:=fun g=>g.flatMap e8) (step:=fB size (R.length:Int)) r (fun j d rest=>by
  have a:=c _ (gdm d)
  simp only [fB]
  rw [brd om,My a.1 b a.2,obs,aS (by rw [a8,aD,ag];omega),ai _ om om];rfl) (by
  simp only [fB]
  rw [brn om,ae om])
 dsimp only
 rw [key];rfl
theorem TR {n:Int} (h:okF n):vy (lD n)=some n:=by
 unfold lD
 rw [FJ,Wh h]
theorem YL (h:OkO o v t) (r:List UInt8):js (v:Int) t ⟨oB o++r⟩=some (o,⟨r⟩):=by
 have y:=h.v1
 have hn:=h.qn
 have z:=lM h.st
 have f:=h.no
 have k:=h.ro
 unfold js oB
 rw [aP,aP,aP,aP]
 rw [NJ (by rw [h.rn]) om om (fun g d=>⟨by rw [(h.rr g d).1];rfl,(h.rr g d).2⟩),obs]
 dsimp only
 rw [ai ((v:Int)-1) om om,show (v:Int)-1=(o.Roots.length:Int) by omega]
 rw [Dl (l:=o.Roots) (enc:=id) (step:=ff (v:Int) (o.Roots.length:Int) t.Rate t.Queries t.Grind 0 0 0 o.Rounds 0 0 0) _ (fun j a rest=>by
  simp only [ff,id]
  rw [brd om,Y1 (h.rh _ (gdm a)),obs,aS (by rw [a8,aD,ag];omega),ai _ om om];rfl) (by
  simp only [ff]
  rw [brn om,ae om]),obs]
 dsimp only
 rw [My (n:=1) (l:=[o.Last]) rfl om (fun x e=>by rw [bI] at e;subst e;exact h.la),obs]
 dsimp only
 rw [show atL [o.Last] 0=some o.Last from rfl,obs,VL (by rw [gg];rfl),obs]
 dsimp only
 rw [TR ⟨by omega,by omega⟩,obs, <-hn]
 rw [Dl (l:=o.Queries) (enc:=qB) (step:=fa o.Roots (v:Int) (o.Queries.length:Int) t.Rate (o.Queries.length:Int) t.Grind 0 0 0 o.Rounds o.Last.A o.Last.B o.Nonce) r (fun j a rest=>by
  have p:=gdm a
  obtain ⟨h1,q,h3,s⟩:=wz (h.qq _ p)
  have u:=Dl (l:=(o.Queries[j]).Paths) (enc:=fun x=>x.flatMap id) (step:=fb o.Roots (o.Queries.take j) (v:Int) (o.Queries.length:Int) (j:Int) (v:Int) t.Rate (o.Queries.length:Int) t.Grind 0 0 0 o.Rounds o.Last.A o.Last.B o.Nonce (o.Queries[j]).Pairs) rest (fun i hi rest2=>by
   have b:=s i om
   rw [show (o.Queries[j]).Paths.getD i []=(o.Queries[j]).Paths[i] by simp [hi]] at b
   have w:=Dl (l:=(o.Queries[j]).Paths[i]) (enc:=id) (step:=fi o.Roots (o.Queries.take j) ((o.Queries[j]).Paths.take i) (v:Int) (o.Queries.length:Int) (j:Int) (v:Int) (i:Int) (((o.Queries[j]).Paths[i]).length:Int) t.Rate (o.Queries.length:Int) t.Grind 0 0 0 o.Rounds o.Last.A o.Last.B o.Nonce (o.Queries[j]).Pairs) rest2 (fun m c rest3=>by
    simp only [fi,id]
    rw [brd om,Y1 (b.2 _ (gdm c)),obs,aS (by rw [a8,aD,ag];omega),ai _ om om];rfl) (by
    simp only [fi]
    rw [brn om,ae om])
   simp only [fb]
   rw [brd om,ai ((v:Int)+t.Rate) om om,ai ((v:Int)+t.Rate-1) om om,ai ((v:Int)+t.Rate-1-(i:Int)) om om, <-b.1,w,obs,aS (by rw [a8,aD,ag];omega),ai _ om om];rfl) (by
   simp only [fb]
   rw [brn om,ae om])
  simp only [fa]
  unfold qB flB
  rw [brd om,ai (2*(v:Int)) om om,aP,My om om q,obs]
  dsimp only
  rw [u,obs,aS (by rw [a8,aD,ag];omega),ai _ om om];rfl) (by
  simp only [fa]
  rw [brn om,ae om]),obs]
theorem a9G (a:1<=v/\v<=6) (h:setB t=true):0<=szO v t/\szO v t<=20000:=by
 have b:=lM h
 have c:=Yf (m:=v+t.Rate.toNat-1) om v
 have d:=szq h (X:=16*v+32*hsA (v+t.Rate.toNat-1) v) om om
 unfold szO;omega
end
section
def d4 (r:List UInt8):Int:=match r with
 |a::b::c::d::_=>be a b c d
 |_=>0
def tL (sz:Nat->Nat):Nat->Nat->Nat
 |0,_=>0
 |d+1,j=>sz j+tL sz d (j+1)
end
section
def pS (m j:Nat):Nat:=(m-j)*32
def nQ (v m:Nat):Nat:=8*(2*v)+tL (pS m) v 0
def nO (v m nq:Nat):Nat:=v*(8*3)+((v-1)*32+(8+(4+nq*nQ v m)))
theorem c50 (m:Nat): ∀d j,j+d<=m->tL (pS m) d j+hsA m j*32=hsA m (j+d)*32
 |0,j,_=>by simp [tL]
 |d+1,j,h=>by
  have:=c50 m d (j+1) om
  rw [tL,pS,show j+(d+1)=j+1+d by omega, <-this,hsA];omega
theorem c6v {m v:Nat} (h:v<=m):tL (pS m) v 0=32*hsA m v:=by
 have:=c50 m v 0 om
 rw [hsA,ce] at this;omega
theorem b1i {v:Nat} {t:Setting} (a:1<=v/\v<=6) (h:setB t=true):((nO v (v+t.Rate.toNat-1) t.Queries.toNat:Nat):Int)=szO v t:=by
 have b:=lM h
 unfold nO nQ szO
 rw [c6v om]
 have e:((t.Queries.toNat*(8*(2*v)+32*hsA (v+t.Rate.toNat-1) v):Nat):Int)=t.Queries*(16*(v:Int)+32*(hsA (v+t.Rate.toNat-1) v:Int)):=by
  rw [nu,fD om]
  congr 1;omega
 omega
section
variable {v ρ nq:Nat} {t:Setting}
end
end
section
section
variable {v ρ nq:Nat} {t:Setting}
end
end
section
def nP (s:bD) (t:Setting):Nat:=32+(s.Rows.toNat*(8*4)+(8+(8+(8+(s.Cols.toNat*(8*3)+(8+nO (s.Cols.toNat-1) (s.Cols.toNat-1+t.Rate.toNat-1) t.Queries.toNat))))))
section
variable {s:bD} {t:Setting}
theorem Gp (c:lX s=true) (a:setB t=true):uv s t=some ((nP s t:Nat):Int):=by
 obtain ⟨d,hc,_⟩:=fE c
 have b:1<=s.Cols.toNat-1/\s.Cols.toNat-1<=6:=by omega
 have e:=b1i b a
 have f:=a9G b a
 unfold uv
 rw [ai (s.Cols-1) om om,show s.Cols-1=((s.Cols.toNat-1:Nat):Int) by omega,Nu b a,obs,
  ai (32*s.Rows) om om,ai (32+32*s.Rows) om om,ai (32+32*s.Rows+24) om om,ai (24*s.Cols) om om,ai (32+32*s.Rows+24+24*s.Cols) om om,ai (32+32*s.Rows+24+24*s.Cols+8) om om,ai _ om om]
 congr 1
 unfold nP
 omega
end
end
section
section
variable {s:bD} {t:Setting}
end
end
section
variable {s:bD} {t:Setting} {q:jy}
theorem RY {R:List (List Ext)} {m n:Int} (h:qP R m n=true):(R.length:Int)=m/\ ∀g∈R,(g.length:Int)=n/\j6 g:=by
 unfold qP at h
 rw [aB,aA] at h
 refine ⟨h.1,fun g a=> ?_⟩
 have:=an.1 h.2 g a
 unfold UD at this
 rw [aB,aA] at this
 exact ⟨this.1,ZI.1 this.2⟩
structure c7c (s:bD) (t:Setting) (q:jy):Prop where
 rt:q.Root.length=32
 gl:(q.Gates.length:Int)=s.Rows
 g4: ∀g∈q.Gates,(g.length:Int)=4/\j6 g
 va:okE q.VA
 vb:okE q.VB
 vc:okE q.VC
 wl:(q.Wires.length:Int)=s.Cols
 w3: ∀g∈q.Wires,(g.length:Int)=3/\j6 g
 vw:okE q.VW
 op:OkO q.Open (s.Cols.toNat-1) t
 sy:lX s=true
 se:setB t=true
theorem a3k (h:okP q s t=true):c7c s t q:=by
 rw [Xv] at h
 simp only [aB] at h
 obtain ⟨a,b,c,d,e,f,hc,i,j,k⟩:=h
 obtain ⟨p,l,_⟩:=fE a
 obtain ⟨m,a2⟩:=RY d
 obtain ⟨n,o⟩:=RY i
 exact ⟨gz c,m,a2,uP.1 e,uP.1 f,uP.1 hc,n,o,uP.1 j,Nk (v:=s.Cols.toNat-1) (by rw [show ((s.Cols.toNat-1:Nat):Int)=s.Cols-1 by omega];exact k),a,b⟩
theorem a6m {R:List (List Ext)} {n:Nat} (h: ∀g∈R,(g.length:Int)=n/\j6 g):(R.flatMap fun g=>g.flatMap e8).length=R.length*(8*n):=V7 fun g a=>by
 have:=(h g a).1
 rw [j2];omega
theorem a3B (h:okP q s t=true):(pB q).length=nP s t:=by
 have p:=a3k h
 obtain ⟨c,hc,_⟩:=fE p.sy
 have a:1<=s.Cols.toNat-1/\s.Cols.toNat-1<=6:=by omega
 have b:=a6m (R:=q.Gates) (n:=4) p.g4
 have l2:=a6m (R:=q.Wires) (n:=3) p.w3
 have l3:=j2 [q.VA,q.VB,q.VC]
 have l4:=j2 [q.VW]
 have l5:=c2W p.op
 have l6:=b1i a p.se
 have d:=p.gl
 have e:=p.wl
 have f:=p.rt
 have e1:q.Gates.length=s.Rows.toNat:=by omega
 have e2:q.Wires.length=s.Cols.toNat:=by omega
 rw [e1] at b
 rw [e2] at l2
 simp only [ab,ah] at l3 l4
 unfold pB nP
 simp only [a8]
 omega
theorem c6q (c:lX s=true) (a:setB t=true):33<=nP s t/\nP s t<=30000:=by
 obtain ⟨d,hc,_⟩:=fE c
 have b:1<=s.Cols.toNat-1/\s.Cols.toNat-1<=6:=by omega
 have l6:=b1i b a
 have e:=a9G b a
 unfold nP
 omega
theorem c1d (q:jy):pB q=q.Root++(q.Gates.flatMap (fun g=>g.flatMap e8)++([q.VA,q.VB,q.VC].flatMap e8++(q.Wires.flatMap (fun g=>g.flatMap e8)++([q.VW].flatMap e8++(oB q.Open++[]))))):=by
 simp only [pB,aP,bL]
theorem Nj (h:okP q s t=true):y9 (pB q) s t=some (q,true):=by
 have p:=a3k h
 obtain ⟨b,hc,_,lA,lB,lC⟩:=fE p.sy
 have l:=a3B h
 unfold y9
 rw [Gp p.sy p.se,obs,m9 om,c1d,Y1 p.rt,obs]
 dsimp only
 rw [NJ p.gl om om p.g4,obs]
 dsimp only
 rw [My (n:=3) (l:=[q.VA,q.VB,q.VC]) rfl om (by
  intro x a
  simp only [aW,List.not_mem_nil,or_false] at a
  rcases a with rfl|rfl|rfl
  ·exact p.va
  ·exact p.vb
  ·exact p.vc),obs]
 dsimp only
 rw [show atL [q.VA,q.VB,q.VC] 0=some q.VA from rfl,obs,show atL [q.VA,q.VB,q.VC] 1=some q.VB from rfl,obs,show atL [q.VA,q.VB,q.VC] 2=some q.VC from rfl,obs,NJ p.wl om om p.w3,obs]
 dsimp only
 rw [My (n:=1) (l:=[q.VW]) rfl om (by
  intro x a
  simp only [aW,List.not_mem_nil,or_false] at a
  subst a
  exact p.vw),obs]
 dsimp only
 rw [show atL [q.VW] 0=some q.VW from rfl,obs,ai (s.Cols-1) om om,show s.Cols-1=((s.Cols.toNat-1:Nat):Int) by omega,YL p.op [],obs]
 dsimp only
 rw [DW (a3I h) om om om,obs,h]
theorem YF (h:okP q s t=true):tv q=some (pB q):=by
 obtain ⟨o,⟨d,a⟩,⟨p,b⟩,i⟩:=b3P h
 have e8l: ∀{g:List Ext},g.length<=4->(g.flatMap e8).length<=32:=fun {g} r=>by have:=j2 g;omega
 unfold tv
 have k:=Ai (l:=q.Gates) (f:=fun g=>g.flatMap e8) (c:=32) (step:=jB q.Gates (q.Gates.length:Int) q.Root q.Gates q.VA.A q.VA.B q.VB.A q.VB.B q.VC.A q.VC.B q.Wires q.VW.A q.VW.B q.Open.Rounds q.Open.Roots q.Open.Last.A q.Open.Last.B q.Open.Nonce q.Open.Queries) q.Root (fun g d=>e8l (a g d)) om (fun j e acc m=>by
  have i:=e8l (a _ (b7K e))
  simp only [jB]
  rw [brd om,cJ e,obs,ij (by have:=a _ (b7K e);omega),obs,aS (by rw [a8];omega),ai _ om om];rfl) (fun acc=>by
  simp only [jB]
  rw [brn om,ae om])
 rw [aS om,k,obs]
 have u:=GD (l:=q.Gates) (f:=fun g:List Ext=>g.flatMap e8) (c:=32) (fun g d=>e8l (a g d))
 have l2:=j2 [q.VA,q.VB,q.VC]
 have l3:=GD (l:=q.Wires) (f:=fun g:List Ext=>g.flatMap e8) (c:=32) (fun g d=>e8l (b g d))
 have l4:=j2 [q.VW]
 have l5:=c5l i
 simp only [ab,ah] at l2 l4
 dsimp only
 rw [ij sm,obs,aS (by simp only [a8];omega)]
 have n:=Ai (l:=q.Wires) (f:=fun g=>g.flatMap e8) (c:=32) (step:=jD q.Wires (q.Wires.length:Int) q.Root q.Gates q.VA.A q.VA.B q.VB.A q.VB.B q.VC.A q.VC.B q.Wires q.VW.A q.VW.B q.Open.Rounds q.Open.Roots q.Open.Last.A q.Open.Last.B q.Open.Nonce q.Open.Queries) (q.Root++q.Gates.flatMap (fun g=>g.flatMap e8)++[q.VA,q.VB,q.VC].flatMap e8) (fun g d=>e8l (b g d)) (by simp only [a8];omega) (fun j e acc m=>by
  have i:=e8l (b _ (b7K e))
  simp only [jD]
  rw [brd om,cJ e,obs,ij (by have:=b _ (b7K e);omega),obs,aS (by rw [a8];omega),ai _ om om];rfl) (fun acc=>by
  simp only [jD]
  rw [brn om,ae om])
 rw [n,obs]
 dsimp only
 rw [ij sm,obs,aS (by simp only [a8];omega),YM i,obs,aS (by simp only [a8];omega),pB]
theorem P5 (h:okP q s t=true):oG q s t=some (pB q,0):=by
 have p:=a3k h
 obtain ⟨a,hc,_,lA,lB,lC⟩:=fE p.sy
 unfold oG
 rw [DW (a3I h) om om om,obs,h,aQ,bu,YF h,obs]
theorem QG (a:lX s=true) (b:setB t=true):rD s t=some (((nP s t:Nat):Int),0):=by
 obtain ⟨c,hc,_,lA,lB,lC⟩:=fE a
 unfold rD
 rw [Cj om om om,obs,a,aQ,bu,nN,obs,b,aQ,bu,Gp a b,obs]
variable {p z pr:List Int} {src:Source} {k:Int}
theorem Mp (h:JC s t p src) (d:Few src k) (e:k<=700) (c:hK pr) (lp:pr.length<=gt s) (f:z=yI (gt s) (2^s.Cols.toNat) p pr) (a:QL s z=true) (i:(pO s t p z src).2.2=true):
 mR s t p (pB (zL s t p z src)) src=some (true,0):=by
 have m:=xH h.sy
 obtain ⟨_,j⟩:=PV h.sy
 obtain ⟨_,hc,r,lA,lB,lC⟩:=fE h.sy
 have n:=h.pe
 have o:=h.pl
 have q:=h.fw.1.1
 have lz:z.length=2^s.Cols.toNat:=by rw [f];exact H7 om om om
 have b:=XD (p:=p) (src:=src) h.sy h.se lz i
 have l:=a3B b
 have ln:=c6q h.sy h.se
 unfold mR
 rw [brn om,RC om om om om om,obs,c2k h d e,m9 rfl,Nj b,obs]
 dsimp only
 rw [aQ,bu,Ru h d e c lp f a i];rfl
end
set_option maxRecDepth 10000
section
noncomputable def tpC (r q g:Int):Option Int:=
 (Ig (ms 0 q r q g) 12 ((1:Int),(1:Int),(0:Int))).bind fun e=>
 (Ig (mL e.1 e.2.1 q e.2.2.1 e.2.2.2 r q g) 40 (0:Int)).bind fun e2=>some e2.1
theorem c4H {r q g v:Int} (h:tpC r q g=some v):fY ⟨r,q,g⟩=some (IntKind.wrap .i64 (v+g)):=by
 unfold tpC at h
 obtain ⟨e,a,h⟩:=bd h
 obtain ⟨e2,b,h⟩:=bd h
 cases h
 unfold fY
 rw [KJ a]
 simp only [obs]
 rw [KJ b];rfl
def tpV:Option Int->Bool
 |some v=>decide (0<=v)&&decide (v<=64)
 |none=>false
theorem c3q:([1,2]:List Int).all (fun r=>([1,2,3,4,5,6,7,8]:List Int).all fun q=>([0,1,2]:List Int).all fun g=>tpV (tpC r q g))=true:=by kernel_rfl
theorem c6c {r q g:Int} (e:1<=r/\r<=2) (f:1<=q/\q<=8) (h:0<=g/\g<=2): ∃v,fY ⟨r,q,g⟩=some v:=by
 have e1:r=1\/r=2:=by omega
 have e2:q=1\/q=2\/q=3\/q=4\/q=5\/q=6\/q=7\/q=8:=by omega
 have b:g=0\/g=1\/g=2:=by omega
 have c:=an.1 c3q r (by rcases e1 with rfl|rfl<;>simp)
 have d:=an.1 c q (by rcases e2 with rfl|rfl|rfl|rfl|rfl|rfl|rfl|rfl<;>simp)
 have a:=an.1 d g (by rcases b with rfl|rfl|rfl<;>simp)
 cases hc:tpC r q g with
 |none=>rw [hc] at a;cases a
 |some v=>exact ⟨_,c4H hc⟩
theorem b7i {b r g:Int} (o:0<=b/\b<=4) (h:1<=r/\r<=2) (i:0<=g/\g<=2):Di b r g=some (⟨0,0,0⟩,16)\/ ∃q v,(1<=q/\q<=8)/\b<=v/\fY ⟨r,q,g⟩=some v/\Di b r g=some (⟨r,q,g⟩,0):=by
 unfold Di
 rw [LJ,obs,aj om,aQ,bu,LJ,obs,aj om,aQ,bu,LJ,obs,aj om,aQ,bu]
 obtain ⟨e,j,k⟩:=rg (step:=vH b r g 0 0 0) (fun q=>1<=q/\q<=9) (fun q=>(9-q).toNat)
  (fun e=>(∃q v,e= .inl (q,q)/\(1<=q/\q<=8)/\b<=v/\fY ⟨r,q,g⟩=some v)\/ ∃x,e= .inr x) (fun q d=>by
   simp only [vH]
   by_cases c:q<=8
   ·obtain ⟨v,f⟩:=c6c (q:=q) h ⟨d.1,c⟩ i
    rw [brd c,f,obs]
    by_cases a:v>=b
    ·rw [brd a]
     exact .inr ⟨_,rfl,.inl ⟨q,v,rfl,⟨d.1,c⟩,a,f⟩⟩
    ·rw [brn a,ai _ om om]
     exact .inl ⟨_,rfl,by omega,by omega⟩
   ·rw [brn c]
    exact .inr ⟨_,rfl,.inr ⟨_,rfl⟩⟩) 1 om
 rw [j,obs]
 rcases k with ⟨q,v,rfl,l,m,n⟩|⟨x,rfl⟩
 ·exact .inr ⟨q,v,l,m,n,rfl⟩
 ·exact .inl rfl
theorem b8Y {L:List Ext} (a:L.length=3) (ok:j6 L): ∃s,yc [116,111,112] L=some (s,0)/\Few s 4:=by
 unfold yc
 rw [tpLong sm,obs,bu,brn om,Dr om,obs,ZI.2 ok,aQ,bu,brn sm,LJ,obs,aj om,aQ,bu]
 unfold di Eu
 rw [aS om,obs,aS sm,xO sm,obs,obs]
 exact ⟨_,rfl,a3W (by show L.length<=64;omega) ok,by simp,by simp⟩
where
 tpLong {t:List UInt8} (h:t.length<=65536):GM t=some false:=by
  unfold GM
  rw [ae om]
theorem c5B {l:List aC} {P I:List Int} {t:Setting} (j:c1U l P I) (h:setB t=true) (src:Source) (k:Few src 4):
 eU ⟨l⟩ t P I src=some (pN,14)\/ ∃f B,eU ⟨l⟩ t P I src=some (f,0)/\oG f (rP l) t=some (B,0)/\rD (rP l) t=some ((B.length:Int),0)/\mR (rP l) t P B src=some (true,0):=by
 have rc:=j.rc
 have ok:OkC l:=rc.ok
 have hn:=ok.n2
 have n2:=iW l 2
 have lP:P.length=cu l 2:=rc.lP
 have o:=JA rc.ok rc.hP rc.hI rc.lP rc.lI l.length (am _)
 have m:=W8 o (rL P I l l.length) l.length (am _)
 have a:=QA (rnM P I l l.length) l
 obtain ⟨r,q,u,v⟩:=PD ok lP a
 have b:=b7j ok rc.hP rc.hI rc.lP rc.lI j.fit
 have lz:=ZO ok lP a
 have n:=b1x rc h k om
 rw [Bf rc h k om,aa j.fit]
 unfold pfR
 by_cases i:(pO (rP l) t P (SF l P (prM (rnM P I l l.length) l l.length)) src).2.2=true
 ·rw [aa i]
  have c:=XD (s:=rP l) (p:=P) (src:=src) (WG ok) h lz i
  have d:=Mp (s:=rP l) (z:=SF l P (prM (rnM P I l l.length) l l.length)) n k om m q rfl b i
  have e:=a3B c
  exact .inr ⟨_,_,rfl,P5 c,by rw [QG (WG ok) h,e],d⟩
 ·rw [a7 i]
  exact .inl rfl
theorem c5R {l:List aC} {P I:List Int} {t:Setting} (rc:a2c ⟨l⟩ P I) (e:setB t=true) (src:Source) (h:Few src 4):
 (∃v,mm ⟨l⟩ P I=some (v,0)/\ ∃f c,eU ⟨l⟩ t P I src=some (f,c)/\(c=0\/c=14))\/(mm ⟨l⟩ P I=some ([],15)/\eU ⟨l⟩ t P I src=some (pN,15)):=by
 have hn:l.length<=15:=rc.ok.n2
 have b:=Pq (c:=⟨l⟩) (P:=P) (I:=I) (by show l.length<=_;omega)
 have d:=Bf rc e h om
 have hc:=b3G (rP l) t P (SF l P (prM (rnM P I l l.length) l l.length)) src
 generalize pfR (rP l) t P (SF l P (prM (rnM P I l l.length) l l.length)) src=u at hc d
 obtain ⟨f,c⟩:=u
 have i:b7Z ⟨l⟩ P I=if l.all (ll (rnM P I l l.length))=true then (rnM P I l l.length,0) else ([],15):=by unfold b7Z;rw [aa (b1q rc)]
 rw [i] at b
 generalize rnM P I l l.length=v at b d
 by_cases a:l.all (ll v)=true
 ·rw [aa a] at b d
  exact .inl ⟨v,b,f,c,d,hc⟩
 ·rw [a7 a] at b d
  exact .inr ⟨b,d⟩
theorem b0y (x y:Option Bool):br ((14:Int) !=0) x y=x:=rfl
theorem a6d {c:Int} (h:c=0\/c=14) (x y:Option Bool):br ((0:Int)==0) (br (c==0) (some true) (br (c==14) (some true) x)) y=some true:=by
 rcases h with rfl|rfl<;>rfl
theorem a59 (x:Option Bool):br ((15:Int)==0) x (br ((15:Int)==15) (some ((15:Int)==15)) (some false))=some true:=rfl
theorem c5u (x:Option Bool):br ((16:Int) !=0) (some ((16:Int)==16)) x=some true:=rfl
theorem law_FnTop (a b:List UInt8) (ha:bdL bdT a) (hb:bdL bdT b):Q2 a b=some true:=by
 unfold Q2
 by_cases c1:(a.length:Int)>1048576
 ·rw [brd c1]
 rw [brn c1]
 by_cases c2:(b.length:Int)>1048576
 ·rw [brd c2]
 rw [brn c2]
 obtain ⟨l,P,I,t0,src0,e1,hp,_,_,m⟩:=a0o (code:=a) om
 have rc:=hp.rc
 have ok:OkC l:=rc.ok
 have hn:=ok.n2
 have n2:=iW l 2
 have lP:P.length=cu l 2:=rc.lP
 obtain ⟨x,e2,x0,x1⟩:=a4F (a:=b) (i:=0) (n:=5) om om om om
 obtain ⟨y,e3,y0,y1⟩:=a4F (a:=b) (i:=1) (n:=2) om om om om
 obtain ⟨z,e4,z0,z1⟩:=a4F (a:=b) (i:=2) (n:=3) om om om om
 obtain ⟨w,e5,w0,w1⟩:=a4F (a:=b) (i:=3) (n:=2) om om om om
 obtain ⟨L,e6,L1,L2⟩:=a7P (code:=b) (n:=3) om om om
 obtain ⟨s1',e7,o⟩:=b8Y (L:=L) om L2
 obtain ⟨l2,e8,ok2,l29,_⟩:=Xq (code:=b) om
 obtain ⟨P2,I2,e9,s,t,lP2,lI2⟩:=Zg (code:=a) om (l:=l2) om
 rw [e1,obs,e2,obs,e3,obs,e4,obs,ai _ om om]
 rcases b7i (b:=x) (r:=1+y) (g:=z) om om om with u|⟨q,v,hq,hbv,e,u⟩
 ·rw [u,obs];exact c5u _
 ·rw [u,obs]
  have ht:setB ⟨1+y,q,z⟩=true:=by
   unfold setB
   rw [aj (by show 1<=1+y/\1+y<=3;omega),aj (by show 1<=q/\q<=8;omega),aj (by show 0<=z/\z<=12;omega)];rfl
  have p:uE ⟨1+y,q,z⟩=some (v,0):=by
   unfold uE
   rw [nN,obs,ht,aQ,bu,e,obs]
  have rc2:a2c ⟨l2⟩ P2 I2:=⟨ok2,s,t,lP2,lI2⟩
  have F:=c5B hp ht
  have G:=c5R rc2 ht
  have d:=Uq (c:=⟨l⟩) (by show l.length<=_;omega)
  rw [aa (a1t ok)] at d
  dsimp only
  rw [m9 rfl,e5,obs]
  by_cases hw:w=1
  ·rw [bre hw,e6,obs,e7,obs]
   dsimp only
   rw [m9 rfl]
   rcases F s1' o with h|⟨f,B,h1,h2,h3,h4⟩
   ·rw [h,obs];exact b0y _ _
   ·rw [h1,obs]
    dsimp only
    rw [m9 rfl,d,obs]
    dsimp only
    rw [h2,obs,h3,obs]
    dsimp only
    rw [h4,obs,p,obs]
    dsimp only
    rw [m9 rfl,m9 rfl,m9 rfl,m9 rfl,m9 rfl,aQ,bu,m9 rfl,obs,brn om,e8,obs,e9,obs]
    dsimp only
    rcases G s1' o with ⟨v2,j,f2,c,k,g3⟩|⟨j,k⟩
    ·rw [j,obs,k,obs];exact a6d g3 _ _
    ·rw [j,obs,k,obs];exact a59 _
  ·rw [cm hw]
   rcases F src0 m with h|⟨f,B,h1,h2,h3,h4⟩
   ·rw [h,obs];exact b0y _ _
   ·rw [h1,obs]
    dsimp only
    rw [m9 rfl,d,obs]
    dsimp only
    rw [h2,obs,h3,obs]
    dsimp only
    rw [h4,obs,p,obs]
    dsimp only
    rw [m9 rfl,m9 rfl,m9 rfl,m9 rfl,m9 rfl,aQ,bu,m9 rfl,obs,brn om,e8,obs,e9,obs]
    dsimp only
    rcases G src0 m with ⟨v2,j,f2,c,k,g3⟩|⟨j,k⟩
    ·rw [j,obs,k,obs];exact a6d g3 _ _
    ·rw [j,obs,k,obs];exact a59 _
end
end Go.AI.Fn
