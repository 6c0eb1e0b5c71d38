/- Sources: what the program draws, takes in and places is what the reference does. -/
import Derived.Test.YtdnkignjanfikaaGreatPv0
set_option linter.unusedVariables false
set_option linter.unusedSimpArgs false
namespace Go.AI.Fn
section
theorem b0T {n:Int} (x:UInt8) (h0:0<=n) (h1:n<72057594037927936):B7 .u64 (bG .u64 n 8) (IntKind.wrap .u64 (x.toNat:Int))=n*256+x.toNat:=by
 have hx:=AS x
 have e1:bG .u64 n 8=n*256:=by
  have:n*2^(min (8:Int).toNat (IntKind.bits .u64))=n*256:=by
   have:(2:Int)^(min (8:Int).toNat (IntKind.bits .u64))=256:=by decide
   rw [this]
  unfold bG
  rw [this,eU _ om om]
 rw [e1,eU (x.toNat:Int) om om]
 unfold B7
 obtain ⟨m,rfl⟩:=nI h0
 have e2:(BitVec.ofInt (IntKind.bits .u64) ((m:Int)*256)|||BitVec.ofInt (IntKind.bits .u64) (x.toNat:Int)).toNat=m*256+x.toNat:=by
  rw [BitVec.toNat_or,gH,gH]
  have b1:(((m:Int)*256)%((2^(IntKind.bits .u64):Nat):Int)).toNat=m<<<8:=by
   rw [show ((2^(IntKind.bits .u64):Nat):Int)=18446744073709551616 by decide,nY];omega
  have b2:((x.toNat:Int)%((2^(IntKind.bits .u64):Nat):Int)).toNat=x.toNat:=by
   rw [show ((2^(IntKind.bits .u64):Nat):Int)=18446744073709551616 by decide];omega
  rw [b1,b2, <-Nat.shiftLeft_add_eq_or_of_lt (show x.toNat<2^8 by omega),nY]
 rw [e2,eU _ om om]
 omega
theorem a5G: ∀(l:List UInt8) (k:Nat),k<=8->k<=l.length->0<=beN (l.take k)/\beN (l.take k)<256^k
 |l,0,_,_=>by simp [beN]
 |l,k+1,h,hl=>by
  have ⟨h0,h1⟩:=a5G l k om om
  have hb:=AS l[k]
  rw [db om,Ry]
  have:(256:Int)^(k+1)=256^k*256:=gc _ _
  rw [this]
  generalize (256:Int)^k=p at*
  omega
theorem c5U: ∀k:Nat,k<8->(256:Int)^k<=72057594037927936:=by decide
theorem NY {t:List UInt8} (h:t.length=8):CH t=some (a9s t):=by
 unfold CH
 have key:Loop (mD t ((t.length:Nat):Int)) (0,0)=some (beN t,(t.length:Int),false):=by
  have key:=bx (step:=mD t ((t.length:Nat):Int)) (fun k=>(beN (t.take k),(k:Int))) t.length (e:=(beN t,(t.length:Int),false)) (fun k hk=> ?_) ?_
  ·exact key
  ·have ⟨h0,h1⟩:=a5G t k om om
   have h2:=c5U k om
   simp only [mD]
   rw [brd om,cj hk,obs,b0T _ h0 om,ak _ om om,db hk,Ry];rfl
  ·simp only [mD]
   rw [brn om,ag om,bm]
 have ⟨h0,h1⟩:=a5G t 8 om om
 rw [cq om] at h0 h1
 rw [key,obs]
 dsimp only
 rw [ep _ _ h0,ak _ om om];rfl
theorem vQ {s:Source} {t:List UInt8} (hs:s.State.length=32) (ht:t.length<=1000000):fQ t s=some (tkM s t):=by
 unfold fQ
 have hf:[s.State,[97,98,115,111,114,98],iv ((t.length:Nat):Int),t].flatten=s.State++(b5r++(iv t.length++t)):=by simp [b5r]
 rw [bw om,Ho,obs,vx (by rw [hf];simp only [ab,dG,b5r,ah,ai];omega) (by simp),obs,hf];rfl
theorem XA {s:Source} (h:GG s):jk s=some ((wa s).2,(wa s).1):=by
 have h1:=h.1
 have h3:=h.3
 have h4:=h.4
 have h5:=h.5
 have h6:=h.6
 have h7:=h.7
 unfold jk wa
 by_cases hl:s.Script.length=0
 ·have hf:=dG s.Count
  have hh:=EE (s.State++(a0K++iv s.Count))
  have e:[s.State,[100,114,97,119],iv s.Count].flatten=s.State++(a0K++iv s.Count):=by simp [a0K]
  rw [brn om,ae hl,bw om,Ho,obs,vx (by rw [e];simp only [ab,dG,a0K,ah,ai];omega) (by simp),obs,e,bw om,
   mK om om om,obs,NY (by simp;omega),obs,mK om om om,obs,NY (by simp;omega),obs,ak _ om om]
  rfl
 ·have hr:=pO s.At (b:=(s.Script.length:Int)) om
  have hr2:=mL s.At (b:=(s.Script.length:Int)) om
  rw [brd om,aa hl,brd om,ak (s.At+1) om om,ak (s.At+1-1) om om,show s.At+1-1=s.At by omega,ep _ _ h4]
  have e:atL s.Script (s.At%(s.Script.length:Int))=some (s.Script.getD (s.At%(s.Script.length:Int)).toNat e0):=by
   have:=a82 (l:=s.Script) (k:=(s.At%(s.Script.length:Int)).toNat) om
   rwa [ez hr] at this
  rw [e];rfl
def drS (s:Source):Nat->Source
 |0=>s
 |j+1=>(wa (drS s j)).1
def drL (s:Source) (n:Nat):List Ext:=(List.range n).map fun j=>(wa (drS s j)).2
theorem oV (s:Source) (n:Nat):(drL s n).length=n:=by simp [drL]
theorem Hx {s:Source} {k:Int} (h:Few s k) (hk:k<=999890): ∀j:Nat,j<=100->Few (drS s j) (k+j)
 |0,_=>h.mono om
 |j+1,hj=>((Hx h hk j om).draw om).mono om
theorem Ud {s:Source} {k:Int} (h:Few s k) (hk:k<=999890) {n:Nat} (hn:n<=100):hG (drL s n):=fun x hx=>by
 obtain ⟨j,hj,rfl⟩:=bu.1 hx
 have hj:=bX.1 hj
 exact a4t (Hx h hk j om).1
theorem a4j (s:Source) (n:Nat):drL s (n+1)=drL s n++[(wa (drS s n)).2]:=by simp [drL,gN]
theorem Km {s:Source} {k:Int} (h:Few s k) (hk:k<=999890) {n:Nat} (hn:n<=100):jL (n:Int) s=some (drL s n,drS s n):=by
 unfold jL
 have key:=bx (step:=fS (n:Int)) (fun j=>(drL s j,(j:Int),(drS s j).Script,(drS s j).At,(drS s j).State,(drS s j).Count)) n (e:=(drL s n,(n:Int),false,(drS s n).Script,(drS s n).At,(drS s n).State,(drS s n).Count)) (fun j hj=> ?_) ?_
 ·have key':Loop (fS (n:Int)) ([],0,s.Script,s.At,s.State,s.Count)=_:=key
  rw [key'];rfl
 ·simp only [fS]
  rw [brd om,XA (Hx h hk j om).1,obs,bw (by simp only [ab,oV,am];omega),ak _ om om, <-a4j];rfl
 ·simp only [fS]
  rw [brn om,ag om]
theorem NG {s:Source} {k:Int} (h:Few s k) (hk:k<=999890) {n:Nat} (hn:n<=100):tX s (n:Int)=some (drS s n,drL s n):=by
 unfold tX
 have key:=bx (step:=kL (n:Int) 0 [] 0) (fun j=>(drL s j,(j:Int),(drS s j).Script,(drS s j).At,(drS s j).State,(drS s j).Count)) n (e:=(drL s n,(n:Int),false,(drS s n).Script,(drS s n).At,(drS s n).State,(drS s n).Count)) (fun j hj=> ?_) ?_
 ·have key':Loop (kL (n:Int) 0 [] 0) ([],0,s.Script,s.At,s.State,s.Count)=_:=key
  rw [key'];rfl
 ·simp only [kL]
  rw [brd om,XC (Hx h hk j om).1,obs,bw (by simp only [ab,oV,am];omega),ak _ om om, <-a4j];rfl
 ·simp only [kL]
  rw [brn om,ag om]
theorem a3Y {s:Source} (h:s.Script.length<=1000000):nf s=some s:=by
 unfold nf i6
 rw [bw om];rfl
variable {s:Source} {k:Int}
theorem c4m {a b c:Int} (h:a<=c) (g:b<=c):mx a b<=c:=by unfold mx;split<;>assumption
def plM (l:List Ext) (m:Int):List Int:=l.map fun x=>x.A%m
theorem a38 {l:List Ext} {m:Int} (hl:l.length<=1000) (ok:hG l) (hm:0<m):Gh l m=some (plM l m):=by
 unfold Gh
 have key:Loop (mw m l ((l.length:Nat):Int)) ([],0)=some (plM l m,(l.length:Int),false):=
  bx (step:=mw m l ((l.length:Nat):Int)) (fun j=>(plM (l.take j) m,(j:Int))) l.length (fun j hj=>by
   simp only [mw]
   rw [brd om,cj hj,obs,brd om,bw (by simp only [ab,plM,aM,bi,am];omega),ak _ om om,ep _ _ (ok.get hj).1.1,db hj]
   simp only [plM,cJ,aS,ee,lm]) (by
   simp only [mw]
   rw [brn om,ag om,bm])
 rw [key];rfl
theorem a2g {l:List Ext} {m:Int} {c c8:List Ext} {c2 c4 c5 c7 c9 c11:Int} {c3 c6 c10:List UInt8} (hl:l.length<=1000) (ok:hG l) (hm:0<m):Loop (iY (l.length:Int) m l c c2 c3 c4 c5 c6 c7 c8 c9 c10 c11) ([],0)=some (plM l m,(l.length:Int),false):=
 bx (step:=iY (l.length:Int) m l c c2 c3 c4 c5 c6 c7 c8 c9 c10 c11) (fun j=>(plM (l.take j) m,(j:Int))) l.length (fun j hj=>by
  simp only [iY]
  rw [brd om,cj hj,obs,brd om,bw (by simp only [ab,plM,aM,bi,am];omega),ak _ om om,ep _ _ (ok.get hj).1.1,db hj]
  simp only [plM,cJ,aS,ee,lm]) (by
  simp only [iY]
  rw [brn om,ag om,bm])
end
section
def toK (x:Ext):K:=⟨⟨x.A%2130706433,x.B%2130706433⟩,⟨l9 _,l9 _⟩⟩
theorem ml {x:Ext} (h:okE x):(toK x).1=x:=Nt (He h.1) (He h.2)
theorem Qb (l:List Ext):(l.flatMap e8).length=8*l.length:=by
 induction l with
 |nil=>rfl
 |cons x l ih=>simp only [cD,ab,ih,c1h,ah];omega
def rsM (s:Source) (g:List K):Source:=tkM s ((kv g).flatMap e8)
def rdM (s:Source) (g:List K):K:=toK (wa (rsM s g)).2
def nsM (s:Source) (g:List K):Source:=(wa (rsM s g)).1
theorem KB {s:Source} {k:Int} (h:Few s k) (hk:k<=999990) (g:List K):Few (nsM s g) (k+2):=by
 have:=(h.take ((kv g).flatMap e8)).draw om
 rw [show k+1+1=k+2 by omega] at this;exact this
theorem b59 {s:Source} {k:Int} (h:Few s k) (g:List K):(rdM s g).1=(wa (rsM s g)).2:=ml (a4t (h.take _).1)
theorem Sk {s:Source} (h:GG s) {g:List K} (hl:g.length<=1000):cY (kv g) s=some (rsM s g):=by
 have e:=Qb (kv g)
 rw [ci] at e
 unfold cY
 rw [Jy (by rw [ci];omega),obs,vQ h.3 om];rfl
theorem R2 {s:Source} (h:GG s) {g:List K} (hl:g.length<=1000):lF s (kv g)=some (rsM s g):=by
 have e:=Qb (kv g)
 rw [ci] at e
 unfold lF
 rw [Ta (by rw [ci];omega),obs,vN h.3 om];rfl
theorem c0d {s:Source} {k:Int} (h:Few s k) (g:List K):jk (rsM s g)=some ((rdM s g).1,nsM s g):=by
 rw [XA (s:=rsM s g) (h.take _).1,b59 h];rfl
theorem c0e {s:Source} {k:Int} (h:Few s k) (g:List K):rM (rsM s g)=some (nsM s g,(rdM s g).1):=by
 rw [XC (s:=rsM s g) (h.take _).1,b59 h];rfl
variable {kind:Nat} {bh:List K->Source->Source}
theorem b7h (v:Nat):2^(v+1)=2*2^v:=by rw [g8,pm]
theorem OkT.up {v:Nat} {T:List (List K)} (h:OkT kind (2^(v+1)) T) (r:K):OkT kind (2^v) (bdK r T):=by
 rw [b7h] at h;exact h.bd r
noncomputable instance c47:DecidableEq K:=fun a b=>Classical.propDecidable _
noncomputable def vfM (kind:Nat) (bv:Nat->Source->Source):List (List K)->Nat->K->Source->Int×List K×K×Source
 |[],i,c,s=>(0,[],c,s)
 |g::R,i,c,s=>if g.length=kind+2 then (if g.getD 0 0+g.getD 1 0=c then
   ((vfM kind bv R (i+1) (lnK g (rdM s g)) (bv i (nsM s g))).1,rdM s g::(vfM kind bv R (i+1) (lnK g (rdM s g)) (bv i (nsM s g))).2.1,(vfM kind bv R (i+1) (lnK g (rdM s g)) (bv i (nsM s g))).2.2) else (10,[],c,s)) else (18,[],c,s)
def bv0:Nat->Source->Source:=fun _ s=>s
def c0Q (bv:Nat->Source->Source):Prop:= ∀i s k,Few s k->k<=999990->Few (bv i s) (k+1)
theorem b6k:c0Q bv0:=fun i s k h _=>h.mono om
variable {bv:Nat->Source->Source}
theorem QE (hb:c0Q bv): ∀(R:List (List K)) (i:Nat) (c:K) (s:Source) (k:Int),Few s k->k+3*R.length<=999990->Few (vfM kind bv R i c s).2.2.2 (k+3*R.length)
 |[],i,c,s,k,h,hk=>by rw [ai,show k+3*((0:Nat):Int)=k by omega];exact h
 |g::R,i,c,s,k,h,hk=>by
  rw [ah] at hk ⊢
  rw [vfM]
  by_cases h1:g.length=kind+2
  ·by_cases h2:g.getD 0 0+g.getD 1 0=c
   ·rw [ae h1,ae h2]
    have:=QE hb R (i+1) (lnK g (rdM s g)) _ _ (hb i _ _ (KB h om g) om) om
    rw [show k+2+1+3*(R.length:Int)=k+3*((R.length+1:Nat):Int) by omega] at this
    exact this
   ·rw [ae h1,aa h2];exact h.mono om
  ·rw [aa h1];exact h.mono om
theorem RS: ∀(R:List (List K)) (i:Nat) (c:K) (s:Source),(vfM kind bv R i c s).1=0->(vfM kind bv R i c s).2.1.length=R.length
 |[],i,c,s,h=>rfl
 |g::R,i,c,s,h=>by
  rw [vfM] at h ⊢
  by_cases h1:g.length=kind+2
  ·by_cases h2:g.getD 0 0+g.getD 1 0=c
   ·rw [ae h1,ae h2] at h ⊢
    simp only [ah];rw [RS R _ _ _ h]
   ·rw [ae h1,aa h2] at h;exact absurd (show (10:Int)=0 from h) (by decide)
  ·rw [aa h1] at h;exact absurd (show (18:Int)=0 from h) (by decide)
theorem c4O (a b:K):(a.1.A==b.1.A&&a.1.B==b.1.B)=decide (a=b):=by
 by_cases h:a=b
 ·subst h;simp
 ·rw [ag h]
  refine Bool.eq_false_iff.2 fun e=>h ?_
  simp only [aC,beq_iff_eq] at e
  exact K.ext (Nt e.1 e.2)
theorem HW {α:Type} (a b:K) (x y:α):br (a.1.A==b.1.A) (br (a.1.B==b.1.B) x y) y=if a=b then x else y:=by
 have:=c4O a b
 cases h1:(a.1.A==b.1.A)<;>cases h2:(a.1.B==b.1.B)<;>rw [h1,h2] at this<;>simp at this<;>simp [this,br]
theorem atK {l:List K} {j:Nat} {i:Int} (hi:i=(j:Int)) (h:j<l.length):atL (kv l) i=some (l.getD j 0).1:=by subst hi;exact wZ h
theorem XK {c7 c8:Int} (hkd:kind=1\/kind=2): ∀(R pre:List (List K)) (c:K) (s:Source) (k:Int) (P:List Ext),Few s k->k+3*R.length<=999990->P.length+R.length<=999990->pre.length+R.length<=999990->
 ((vfM kind bv0 R pre.length c s).1=0->Loop (bJ (kind:Int) (kvv (pre++R)) ((pre++R).length:Int) c7 c8) (P,(pre.length:Int),s.Script,s.At,s.State,s.Count,c.1.A,c.1.B)=
   some (.inr (P++kv (vfM kind bv0 R pre.length c s).2.1,((pre++R).length:Int),false,(vfM kind bv0 R pre.length c s).2.2.2.Script,(vfM kind bv0 R pre.length c s).2.2.2.At,(vfM kind bv0 R pre.length c s).2.2.2.State,(vfM kind bv0 R pre.length c s).2.2.2.Count,
    (vfM kind bv0 R pre.length c s).2.2.1.1.A,(vfM kind bv0 R pre.length c s).2.2.1.1.B)))/\
 ((vfM kind bv0 R pre.length c s).1≠0-> ∃P' A B,Loop (bJ (kind:Int) (kvv (pre++R)) ((pre++R).length:Int) c7 c8) (P,(pre.length:Int),s.Script,s.At,s.State,s.Count,c.1.A,c.1.B)=
   some (.inl (P',(vfM kind bv0 R pre.length c s).1,(vfM kind bv0 R pre.length c s).2.2.2.Script,(vfM kind bv0 R pre.length c s).2.2.2.At,(vfM kind bv0 R pre.length c s).2.2.2.State,(vfM kind bv0 R pre.length c s).2.2.2.Count,A,B)))
 |[],pre,c,s,k,P,hf,hk,hP,hp=>by
  refine ⟨fun _=>bZ ?_,fun h=>absurd rfl h⟩
  simp only [bJ,bW]
  rw [brn om,ag om]
  simp [vfM,kv]
 |g::R,pre,c,s,k,P,hf,hk,hP,hp=>by
  rw [ah] at hk hP hp
  have hat:atL (kvv (pre++g::R)) (pre.length:Int)=some (kv g):=by rw [a1l (by simp)];simp
  have hlt:(pre.length:Int)<((pre++g::R).length:Int):=by rw [ab,ah];omega
  rw [vfM]
  by_cases h1:g.length=kind+2
  ·by_cases h2:g.getD 0 0+g.getD 1 0=c
   ·rw [ae h1,ae h2]
    have ih:=XK (c7:=c7) (c8:=c8) hkd R (pre++[g]) (lnK g (rdM s g)) (nsM s g) (k+2) (P++[(rdM s g).1]) (KB hf om g) om (by rw [ab,am];omega) (by rw [ab,am];omega)
    rw [ba,aU,ab,am] at ih
    have step:bJ (kind:Int) (kvv (pre++g::R)) ((pre++g::R).length:Int) c7 c8 (P,(pre.length:Int),s.Script,s.At,s.State,s.Count,c.1.A,c.1.B)=
     some (.inl (P++[(rdM s g).1],((pre.length+1:Nat):Int),(nsM s g).Script,(nsM s g).At,(nsM s g).State,(nsM s g).Count,(lnK g (rdM s g)).1.A,(lnK g (rdM s g)).1.B)):=by
     simp only [bJ]
     rw [brd hlt,hat,obs,AE hkd,obs,ak _ om om,fq (by rw [ci];omega),atK (i:=0) (j:=0) rfl om,obs,atK (i:=1) (j:=1) rfl om,obs,lZ (aI _) (aI _),obs]
     rw [show eA (g.getD 0 0).1 (g.getD 1 0).1=c.1 from congrArg Subtype.val h2,bre rfl,bre rfl,show Source.mk s.Script s.At s.State s.Count=s from rfl,Sk hf.1 om,obs,c0d hf,obs]
     dsimp only
     rw [NN _ om,obs,bw (by rw [ab,am];omega),ak _ om om];rfl
    refine ⟨fun h=> ?_,fun h=> ?_⟩
    ·rw [cf step,ih.1 h]
     simp [kv,bv0]
    ·obtain ⟨P',A,B,e⟩:=ih.2 h
     exact ⟨P',A,B,by rw [cf step,e];rfl⟩
   ·rw [ae h1,aa h2]
    refine ⟨fun h=>absurd (show (10:Int)=0 from h) (by decide),fun _=>⟨P,c.1.A,c.1.B,bZ ?_⟩⟩
    simp only [bJ]
    rw [brd hlt,hat,obs,AE hkd,obs,ak _ om om,fq (by rw [ci];omega),atK (i:=0) (j:=0) rfl om,obs,atK (i:=1) (j:=1) rfl om,obs,lZ (aI _) (aI _),obs]
    rw [show eA (g.getD 0 0).1 (g.getD 1 0).1=(g.getD 0 0+g.getD 1 0).1 from rfl,HW,aa h2]
  ·rw [aa h1]
   refine ⟨fun h=>absurd (show (18:Int)=0 from h) (by decide),fun _=>⟨P,c.1.A,c.1.B,bZ ?_⟩⟩
   simp only [bJ]
   rw [brd hlt,hat,obs,AE hkd,obs,ak _ om om,brb (by rw [ci];omega)]
theorem FG (hkd:kind=1\/kind=2) {R:List (List K)} {c:K} {s:Source} {k:Int} (hf:Few s k) (hk:k+3*R.length<=999990):
 cN (kind:Int) c.1 (kvv R) s=some (if (vfM kind bv0 R 0 c s).1=0 then (kv (vfM kind bv0 R 0 c s).2.1,(vfM kind bv0 R 0 c s).2.2.1.1,0,(vfM kind bv0 R 0 c s).2.2.2) else ([],e0,(vfM kind bv0 R 0 c s).1,(vfM kind bv0 R 0 c s).2.2.2)):=by
 have hk0:0<=k:=by have:=hf.2;have:=hf.1.4;omega
 have h:=XK (c7:=0) (c8:=0) hkd R [] c s k [] hf hk (by rw [ai];omega) (by rw [ai];omega)
 rw [bj,ai] at h
 unfold cN
 rw [a0d]
 by_cases h0:(vfM kind bv0 R 0 c s).1=0
 ·rw [ae h0]
  have:=h.1 h0
  rw [show (((0:Nat):Int))=0 from rfl] at this
  rw [this];rfl
 ·rw [aa h0]
  obtain ⟨P',A,B,e⟩:=h.2 h0
  rw [show (((0:Nat):Int))=0 from rfl] at e
  rw [e];rfl
end
section
structure OkM (l:List au) (R C:Int):Prop where
 len:l.length<=200
 ent: ∀x∈l,inE R C x
 srt: ∀k (hk:k<l.length), ∀y∈l.take k,ltE y l[k]
theorem WP {x y z:au} (h:ltE x y) (g:ltE y z):ltE x z:=by unfold ltE at*;omega
open Classical in
theorem Y9 {l:List au} {R C:Int} (h:vT l R C=true):OkM l R C:=by
 unfold vT at h
 obtain ⟨hl,hb⟩:=jX h
 refine ⟨hl,fun x hx=> ?_,fun k=> ?_⟩
 ·obtain ⟨k,hk,rfl⟩:=bq hx
  by_cases c:inE R C l[k]
  ·exact c
  ·exact absurd ⟨_,wj hk,.inl c⟩ (hb k)
 ·induction k with
  |zero=>intro hk y hy;simp at hy
  |succ k ih=>
   intro hk y hy
   rw [db om] at hy
   have hlt:ltE l[k] l[k+1]:=by
    by_cases c:ltE l[k] l[k+1]
    ·exact c
    ·exact absurd ⟨_,wj hk,.inr ⟨by omega,_,wj om,c⟩⟩ (hb (k+1))
   rcases aW.1 hy with hy|hy
   ·exact WP (ih om y hy) hlt
   ·rw [dT.1 hy];exact hlt
theorem b5x {R C:Int} {x:au} (h:inE R C x):okF x.Value:=⟨by have:=h.2.2.1;omega,h.2.2.2⟩
def Ic (l:List au):List UInt8:=l.flatMap fun x=>[UInt8.ofInt x.Row,UInt8.ofInt x.Col]++iv x.Value
theorem BQ (l:List au):(Ic l).length=6*l.length:=by
 induction l with
 |nil=>rfl
 |cons x l ih=>simp only [Ic,cD,ab,ah] at*;rw [ih];simp [dG];omega
theorem WM (l:List au) (x:au):Ic (l++[x])=Ic l++([UInt8.ofInt x.Row,UInt8.ofInt x.Col]++iv x.Value):=by simp [Ic]
def Rf (l:List au):List UInt8:=iv (l.length:Int)++Ic l
def Pf (s:bk):List UInt8:=[115,121,115,116,101,109]++[UInt8.ofInt s.Rows,UInt8.ofInt s.Cols,UInt8.ofInt s.Publics]++Rf s.A++Rf s.B++Rf s.C
theorem Lo (l:List au):(Rf l).length=4+6*l.length:=by rw [Rf,ab,BQ,dG]
theorem MC {l2 L:List UInt8} {t t2 t3 l c4 c5 c6:List au} {t4 c c2 c3:Int} (h:l.length<=200) (hL:L.length<=1000000):Loop (dK l2 t t2 t3 t4 l ((l.length:Nat):Int) c c2 c3 c4 c5 c6) (L,0)=some (L++Ic l,(l.length:Int),false):=by
 have key:=bx (step:=dK l2 t t2 t3 t4 l ((l.length:Nat):Int) c c2 c3 c4 c5 c6) (fun k=>(L++Ic (l.take k),(k:Int))) l.length (e:=(L++Ic l,(l.length:Int),false)) (fun k hk=> ?_) ?_
 ·simpa [Ic] using key
 ·simp only [dK]
  have hn:=BQ (l.take k)
  rw [bi] at hn
  rw [brd om,cj hk,obs,bw (by simp only [ab,ah,ai];omega),rp (by simp only [ab,ah,ai];omega),obs,ak _ om om,db hk,WM]
  simp only [ba,lm]
 ·simp only [dK]
  rw [brn om,ag om,bm]
theorem a5T {l2 L:List UInt8} {t t2 t3 l c4 c5 c6:List au} {t4 c c2 c3:Int} (h:l.length<=200) (hL:L.length<=1000000):Loop (iH l2 t t2 t3 t4 l ((l.length:Nat):Int) c c2 c3 c4 c5 c6) (L,0)=some (L++Ic l,(l.length:Int),false):=MC (l2:=l2) (t:=t) (t2:=t2) (t3:=t3) (c4:=c4) (c5:=c5) (c6:=c6) (t4:=t4) (c:=c) (c2:=c2) (c3:=c3) h hL
theorem a7M {l2 L:List UInt8} {t t2 t3 l c4 c5 c6:List au} {t4 c c2 c3:Int} (h:l.length<=200) (hL:L.length<=1000000):Loop (iM l2 t t2 t3 t4 l ((l.length:Nat):Int) c c2 c3 c4 c5 c6) (L,0)=some (L++Ic l,(l.length:Int),false):=MC (l2:=l2) (t:=t) (t2:=t2) (t3:=t3) (c4:=c4) (c5:=c5) (c6:=c6) (t4:=t4) (c:=c) (c2:=c2) (c3:=c3) h hL
theorem PE {s:bk} (hA:s.A.length<=200) (hB:s.B.length<=200) (hC:s.C.length<=200):j0 s=some (Pf s):=by
 have a1:=BQ s.A
 have b1:=BQ s.B
 have c1:=BQ s.C
 unfold j0 fB
 rw [bw (by simp only [ab,ah,ai];omega),obs]
 dsimp only
 rw [rp (by simp only [ab,ah,ai];omega),obs,MC hA (by simp only [ab,ah,ai,dG];omega),obs,
  rp (by simp only [ab,ah,ai,dG];omega),obs,a5T hB (by simp only [ab,ah,ai,dG];omega),obs,
  rp (by simp only [ab,ah,ai,dG];omega),obs,a7M hC (by simp only [ab,ah,ai,dG];omega),obs]
 simp only [Pf,Rf,ba]
theorem a2p (s:bk):(Pf s).length=21+6*(s.A.length+s.B.length+s.C.length):=by
 simp only [Pf,ab,Lo,ah,ai];omega
theorem a65 {l3 L:List UInt8} {l4:List (List au)} {l c4 c5 c6:List au} {c c2 c3:Int} {j:Nat} (hj:l4[j]? =some l) (h:l.length<=200) (hL:L.length<=1000000):Loop (iP l3 l4 (j:Int) c c2 c3 c4 c5 c6) (L,0)=some (L++Ic l,(l.length:Int),false):=by
 have hj2:j<l4.length:=by
  rcases cA j l4.length with h|h
  ·exact h
  ·rw [bF h] at hj;cases hj
 have key:=bx (step:=iP l3 l4 (j:Int) c c2 c3 c4 c5 c6) (fun k=>(L++Ic (l.take k),(k:Int))) l.length (e:=(L++Ic l,(l.length:Int),false)) (fun k hk=> ?_) ?_
 ·simpa [Ic] using key
 ·simp only [iP]
  have hn:=BQ (l.take k)
  rw [bi] at hn
  rw [brd om,brd om,aK,hj,obs,brd om,brd om,brd om,obs,cj hk,obs,zQ,obs,bw (by rw [dG];simp only [ah,ai];omega),
   bw (by simp only [ab,ah,ai,dG];omega),ak _ om om,db hk,WM]
  simp only [ba,lm]
 ·simp only [iP]
  rw [brd om,brd om,aK,hj,obs,brn om,ag om,bm]
theorem MH {l3 L:List UInt8} {l4:List (List au)} {l c4 c5 c6:List au} {c c2 c3:Int} {j:Nat} (hj:l4[j]? =some l) (j3:j<3) (h:l.length<=200) (hL:L.length<=900000):kh l3 l4 c c2 c3 c4 c5 c6 (L,(j:Int))=some (.inl (L++Rf l,((j+1:Nat):Int))):=by
 have hj2:j<l4.length:=by
  rcases cA j l4.length with h|h
  ·exact h
  ·rw [bF h] at hj;cases hj
 simp only [kh]
 rw [brd om,brd om,brd om,aK,hj,obs,zQ,obs,bw (by rw [dG];omega),a65 hj h (by rw [ab,dG];omega),obs,ak _ om om,Rf]
 simp only [ba,lm]
theorem R0 {s:bk} (hA:s.A.length<=200) (hB:s.B.length<=200) (hC:s.C.length<=200):vK s=some (H (Pf s)):=by
 have a1:=Lo s.A
 have b1:=Lo s.B
 have c1:=Lo s.C
 have hl:=a2p s
 unfold vK
 rw [bw (by simp only [ah,ai];omega),show (0:Int)=((0:Nat):Int) from rfl,
  cf (MH (l:=s.A) (j:=0) rfl om hA (by simp only [ab,ah,ai];omega)),
  cf (MH (l:=s.B) (j:=1) rfl om hB (by simp only [ab,ah,ai];omega)),
  cf (MH (l:=s.C) (j:=2) rfl om hC (by simp only [ab,ah,ai];omega)),
  bZ (by simp only [kh];rw [brn om]),obs]
 dsimp only
 rw [show [115,121,115,116,101,109]++[UInt8.ofInt s.Rows,UInt8.ofInt s.Cols,UInt8.ofInt s.Publics]++Rf s.A++Rf s.B++Rf s.C=Pf s from rfl,tG om];rfl
end
section
def UE:List K->List K->K
 |a::xs,b::ys=>a*b+UE xs ys
 |_,_=>0
theorem a4z: ∀(a b:List K) (c:K),((kv a).zip (kv b)).foldl (fun c p=>eA c (eM p.1 p.2)) c.1=(c+UE a b).1
 |[],b,c=>by
  show c.1=(c+0).1
  exact congrArg Subtype.val (by exact kg)
 |_::_,[],c=>by
  show c.1=(c+0).1
  exact congrArg Subtype.val (by exact kg)
 |x::a,y::b,c=>by
  have:=a4z a b (c+x*y)
  show ((kv a).zip (kv b)).foldl _ (c+x*y).1=_
  rw [this]
  exact congrArg Subtype.val (by rw [UE];exact kg)
theorem a7d (a b:List K):Vz (kv a) (kv b)=(UE a b).1:=by
 have:=a4z a b 0
 rw [Vz]
 rw [show e0=(0:K).1 from rfl,this]
 exact congrArg Subtype.val (by exact kg)
def btS (β:K) (R T:List K) (x:au):List K:=T.set x.Col.toNat (T.getD x.Col.toNat 0+β*R.getD x.Row.toNat 0*kF x.Value)
theorem qW (β:K) (R:List K): ∀(l:List au) (T:List K),(l.foldl (btS β R) T).length=T.length
 |[],T=>rfl
 |x::l,T=>by rw [py,qW β R l,btS,bg]
theorem b33 (l:List K) (j:Nat) (x:K):(kv l).set j x.1=kv (l.set j x):=by simp [kv,List.map_set]
theorem QS {R T:List K} {β:K} {l t t2 t3 c4 c5 c6:List au} {t4 c c2 c3 c9 c10 c11 c12 RR CC:Int} (hm:OkM l RR CC) (hR:(R.length:Int)=RR) (hT:(T.length:Int)=CC):
 Loop (il (kv R) t t2 t3 t4 l ((l.length:Nat):Int) c c2 c3 c4 c5 c6 β.1.A β.1.B c9 c10 c11 c12) (kv T,0)=some (kv (l.foldl (btS β R) T),(l.length:Int),false):=by
 have hl:=hm.len
 have key:=bx (step:=il (kv R) t t2 t3 t4 l ((l.length:Nat):Int) c c2 c3 c4 c5 c6 β.1.A β.1.B c9 c10 c11 c12) (fun j=>(kv ((l.take j).foldl (btS β R) T),(j:Int))) l.length (e:=(kv (l.foldl (btS β R) T),(l.length:Int),false)) (fun j hj=> ?_) ?_
 ·exact key
 ·simp only [il]
  obtain ⟨hr,hc,_⟩:=hm.ent _ (aY hj)
  have hv:=b5x (hm.ent _ (aY hj))
  have hn:=qW β R (l.take j) T
  have hrow:atL (kv R) l[j].Row=some (R.getD l[j].Row.toNat 0).1:=by
   have:=wZ (l:=R) (j:=l[j].Row.toNat) om
   rwa [ez hr.1] at this
  rw [brd om,cj hj,obs,brd hc.1,brd (by rw [ci,hn];omega),a7N om,obs,hrow,obs,show Ext.mk β.1.A β.1.B=β.1 from rfl,fR β.2 (aI _),obs,AU (rY _ _) hv,obs,
   lZ (aI _) (b5s _ _),obs,brd hc.1,brd (by rw [ci,hn];omega),obs,ak _ om om,a8c, <-Ec hv,db hj,i7]
  show some (Sum.inl ((kv _).set l[j].Col.toNat ((List.foldl (btS β R) T (l.take j)).getD l[j].Col.toNat 0+β*R.getD l[j].Row.toNat 0*kF l[j].Value).1,_))=_
  rw [b33];rfl
 ·simp only [il]
  rw [brn om,ag om,bm]
end
section
def b9i (out:List K) (p:K):List K:=out.map (fun a=>a*(1-p))++out.map (fun a=>a*p)
def eqK (P:List K):List K:=P.foldl b9i [1]
theorem c2s (out:List K) (p:K):eqS (kv out) p.1=kv (b9i out p):=by
 simp only [eqS,kv,b9i,cJ,jr];rfl
theorem b6l: ∀(P out:List K),(kv P).foldl eqS (kv out)=kv (P.foldl b9i out)
 |[],out=>rfl
 |p::P,out=>by
  show (kv P).foldl eqS (eqS (kv out) p.1)=_
  rw [c2s,b6l P];rfl
theorem Qh (P:List K):eqT (kv P)=kv (eqK P):=b6l P [1]
theorem b7O (P:List K):(eqK P).length=2^P.length:=by
 have:=Ej (kv P)
 rw [Qh,ci,ci] at this;exact this
variable {kind:Nat} {bh:List K->Source->Source}
end
section
theorem a84 (l:List K) (j:Nat):(kv l).take j=kv (l.take j):=by simp [kv]
theorem a6S: ∀k:Nat,k<=9->1<=2^k/\2^k<=512:=by decide
end
section
abbrev Tx:=List UInt8
def Xq (t:Tx):Tx:=0::t
def OJ (a b:Tx):Tx:=1::(a++b)
def hL (t:Tx):Tx:=H (Xq t)
def hN (a b:Tx):Tx:=H (OJ a b)
theorem b2T {l:List Tx} {k:Nat} (h:k<l.length):atL l (k:Int)=some (l.getD k []):=by simp [atL,h]
theorem VN {t:Tx} (h:t.length<=1000000):yz t=some (Xq t):=by
 unfold yz;rw [bw (by simp only [ah,ai];omega)];rfl
theorem Je {a b:Tx} (ha:a.length<=1000000) (hb:b.length<=1000000):tF a b=some (OJ a b):=by
 unfold tF
 rw [bw (by simp only [ah,ai];omega),bw (by simp only [ab,ah,ai];omega)];rfl
theorem b0b {t:Tx} (h:t.length<=1000000):Cr t=some (hL t):=by
 unfold Cr
 rw [bw (by simp only [ah,ai];omega),tG (by simp only [ab,ah,ai];omega),obs];rfl
def Hs (l:List Tx):Prop:= ∀x∈l,x.length=32
theorem Hs.getD {l:List Tx} (h:Hs l) {k:Nat} (hk:k<l.length):(l.getD k []).length=32:=by simp [hk];exact h _ (aY hk)
theorem sa {α:Type} (f:Nat->α) (k:Nat):(List.range (k+1)).map f=(List.range k).map f++[f k]:=by rw [gN,cJ];rfl
theorem b5k (i j:Nat):i/2^j/2=i/2^(j+1):=by rw [Nat.div_div_eq_div_mul,g8]
theorem b06 (q:Nat) (h:q<=1000000):IntKind.wrap .i64 (((q:Nat):Int)/2)=((q/2:Nat):Int):=by
 rw [ak _ om om];omega
end
section
def oD (i:Nat) (leaf:Tx) (path:List Tx):Nat->Tx
 |0=>Xq leaf
 |j+1=>if i/2^j%2=1 then OJ (path.getD j []) (H (oD i leaf path j)) else OJ (H (oD i leaf path j)) (path.getD j [])
def Cm (i:Nat) (leaf:Tx) (path:List Tx) (j:Nat):List Tx:=(List.range (j+1)).map (oD i leaf path)
theorem sw (i:Nat) (leaf:Tx) (path:List Tx) (j:Nat):(Cm i leaf path j).length=j+1:=by simp [Cm]
theorem a5o {i:Nat} {leaf:Tx} {path:List Tx} {j m:Nat} (h:m<=j):atL (Cm i leaf path j) (m:Int)=some (oD i leaf path m):=by
 rw [cj (by rw [sw];omega)];simp [Cm]
theorem b03 (i j:Nat):IntKind.wrap .i64 (((i/2^j:Nat):Int).tdiv 2)=((i/2^(j+1):Nat):Int)\/1000000<i:=by
 by_cases h:i<=1000000
 ·left
  rw [qQ _ _ (Int.natCast_nonneg _),b06 _ (ed (Nat.div_le_self _ _) h),b5k]
 ·right;omega
theorem b1D {l:List Tx} (h:Hs l):(l.any fun x=> !decide (x.length=32))=false:=by
 rw [tn];intro x hx;simp [h x hx]
theorem c2S {path:List Tx} (hl:path.length<=1000) (hh:Hs path):cw path=some false:=by
 unfold cw dj
 rw [xT (step:=cV path ((path.length:Nat):Int)) (p:=fun x=> !decide (x.length=32)) (f:=Cn) om (fun x _=>by unfold Cn;rw [A8];rfl) (fun t=>rfl),b1D hh]
end
section
theorem c3X: ∀k:Nat,k<=9->KY ((2^k:Nat):Int)=some (k:Int)
 |0,_=>rfl
 |1,_=>rfl
 |2,_=>rfl
 |3,_=>rfl
 |4,_=>rfl
 |5,_=>rfl
 |6,_=>rfl
 |7,_=>rfl
 |8,_=>rfl
 |9,_=>rfl
theorem c50 {k:Nat} (h:k<=9):BL ((2^k:Nat):Int)=some (k:Int):=by
 unfold BL
 have key:Loop (kN ((2^k:Nat):Int)) 0=some ((k:Int),false):=
  bx (step:=kN ((2^k:Nat):Int)) (fun j=>(j:Int)) k (fun j hj=>by
   have hp:2^j<2^k:=Nat.pow_lt_pow_right om hj
   simp only [kN]
   rw [eU _ om om,brd om,De om,brd om,ak _ om om];rfl) (by
   simp only [kN]
   rw [eU _ om om,brd om,De om,brn om,ag om])
 rw [key];rfl
def fpK (k i:Nat) (a b r:K):K:=(a+b)*kF (iF 2)+r*(a-b)*(kF (iF 2)*kF (iF (pF (Ue k) i)))
theorem Oa (a:Int):okF (iF a):=Sp _ _
theorem c3V:okF 2:=⟨by decide,by decide⟩
theorem Vh {k i:Nat} (a b r:K) (hk:k<=9) (hi:i<=1000):oi ((2^k:Nat):Int) i a.1 b.1 r.1=some (fpK k i a b r).1:=by
 unfold oi
 rw [Dh c3V,obs,c3X k hk,obs,a9V om,obs,S8 (a4x k) om om,obs,lZ a.2 b.2,obs,AU (Xh _ _) (Oa 2),obs,rE a.2 b.2,obs,
  fR r.2 (yF _ _),obs,Dh (Sp _ _),obs,pY (Oa 2) (Oa _),obs,AU (rY _ _) (pX _ _),obs,lZ (b5s _ _) (b5s _ _),obs,aK,a8c,a8c, <-Ec (Oa 2), <-Ec (pX _ _),b4Q];rfl
theorem b7n: ∀m:Nat,m<=9-> ∀t:Nat,t<=m->bY .i64 ((2^m:Nat):Int) (t:Int)=((2^(m-t):Nat):Int):=by decide+kernel
theorem c0A (a b:List K):kv (a++b)=kv a++kv b:=by simp [kv]
end
section
theorem b1U {k i:Nat} (a b r:K) (hk:k<=9) (hi:i<=1000):pc ((2^k:Nat):Int) i a.1 b.1 r.1=some (fpK k i a b r).1:=by
 unfold pc mz
 rw [c50 hk,obs,b1e om,obs,QO (a4x k) om om,obs,DI c3V,obs,obs,lS a.2 b.2,obs,LA,obs,fE (Xh _ _) (a8f (Oa 2)),obs,Hw a.2 b.2,obs,
  DI (Sp _ _),obs,obs,w6 (Oa 2) (Oa _),obs,LA,obs,fE (yF _ _) (a8f (pX _ _)),obs,fE r.2 (rY _ _),obs,lS (rY _ _) (rY _ _),obs,aK, <-Ec (Oa 2), <-Ec (pX _ _),b4Q]
 have:(a+b)*kF (iF 2)+r*((a-b)*(kF (iF 2)*kF (iF (pF (Ue k) i))))=fpK k i a b r:=by unfold fpK;exact kg
 rw [<-this];rfl
theorem a8Y (k:Nat) (hk:k+1<=9):IntKind.wrap .i64 (((2^(k+1):Nat):Int).tdiv 2)=((2^k:Nat):Int):=by
 have hp:=a6S (k+1) hk
 have hs:2^(k+1)=2*2^k:=by rw [g8];omega
 rw [qQ _ _ om,ak _ om om];omega
theorem a4p {s:Source} {k:Int} (h:Few s k) (hk:k<=999890) {n:Nat} (hn:n<=100) {m:Int} (h1:1<=m):vW s (n:Int) m=some (drS s n,plM (drL s n) m):=by
 unfold vW
 rw [NG h hk om,obs]
 have:=a2g (l:=drL s n) (m:=m) (c:=s.Script) (c2:=s.At) (c3:=s.State) (c4:=s.Count) (c5:=0) (c6:=[]) (c7:=0) (c8:=(drS s n).Script) (c9:=(drS s n).At) (c10:=(drS s n).State) (c11:=(drS s n).Count) (by rw [oV];omega) (Ud h hk om) om
 rw [oV] at this
 rw [this,obs]
end
section
def a0A (n:Nat) (p:Nat->Bool):Bool:=(List.range n).all p
theorem wc {n:Nat} {p:Nat->Bool}:a0A n p=true↔ ∀j,j<n->p j=true:=by simp [a0A]
theorem Lw {n:Nat} {p:Nat->Bool} (h: ∀j,j<n->p j=true):a0A n p=true:=wc.2 h
theorem b7p {n:Nat} {p:Nat->Bool} {k:Nat} (hk:k<n) (h:p k=false):a0A n p=false:=by
 refine Bool.eq_false_iff.2 fun e=> ?_
 rw [wc.1 e k hk] at h;cases h
theorem CJ {E1 E2 R:Type} {step:Int->Option (Int⊕(E1⊕E2))} (n:Nat) (p:Nat->Bool) (e1:Nat->E1) {e2:E2} {f:E1->Option R} {g:E2->Option R} {x y:R} (hs: ∀k,k<n->p k=true->step (k:Int)=some (.inl ((k+1:Nat):Int)))
 (hx: ∀k,k<n->p k=false->step (k:Int)=some (.inr (.inl (e1 k)))) (he:step (n:Int)=some (.inr (.inr e2))) (hf: ∀e,f e=some x) (hg:g e2=some y):
 (Loop step 0).bind (alt f g)=some (if a0A n p=true then y else x):=by
 rcases Cw (step:=step) (fun k=>(k:Int)) n p (fun k=> .inl (e1 k)) hs hx he with ⟨h1,h2⟩|⟨k,hk,h1,_,h2⟩
 ·have h2':Loop step 0=_:=h2
  rw [h2',ae (Lw h1),obs,nT,hg]
 ·have h2':Loop step 0=_:=h2
  rw [h2',aa (by rw [b7p hk h1];decide),obs,l6,hf]
theorem a2q {b:Bool}:(if b=true then true else false)=b:=by cases b<;>rfl
def h32 (x:List UInt8):Bool:=decide (x.length=32)
theorem N2 {l:List (List UInt8)} (hl:l.length<=1099511627776):gR l=some (l.all h32):=by
 unfold gR ce co
 rw [xT (step:=ca l ((l.length:Nat):Int)) (p:=fun x=> !h32 x) (f:=i8) hl (fun x _=>by unfold i8;rw [A8];rfl) (fun t=>rfl),obs,wo]
def vZ (size:Int) (g:List Ext):Bool:=decide ((g.length:Int)=size)&&g.all nF
def Fc (R:List (List Ext)) (many size:Int):Bool:=decide ((R.length:Int)=many)&&R.all (vZ size)
theorem Rr {α C:Type} {p:α->Bool} {f:α->C->Option (Bool×C)} {l:List α} {c:C} (hl:l.length<=1099511627776) (hf: ∀x∈l,f x c=some (p x,c)) {step:Int×C->Option ((Int×C)⊕((Int×C)⊕(Int×Bool×C)))}
 (hs: ∀t,step (t,c)=br (decide (t<((l.length:Nat):Int))) ((atL l t).bind fun x=>(f x c).bind fun r=>br r.1 (some (.inr (.inl (t,r.2)))) (some (.inl (IntKind.wrap .i64 (t+1),r.2)))) (some (.inr (.inr (t,decide (t<((l.length:Nat):Int)),c))))):
 ∃n:Int,Loop step (0,c)=some (if l.any p then .inl (n,c) else .inr (n,false,c))/\0<=n:=by
 have key:=Cw (step:=step) (fun k=>((k:Int),c)) l.length (fun k=> !((l[k]?.map p).getD false)) (fun k=> .inl ((k:Int),c)) (e:= .inr ((l.length:Int),false,c)) (fun k hk hp=>by
  have hb:p l[k]=false:=by simpa [hk] using hp
  rw [hs,brd om,cj hk,obs,hf _ (aY hk),obs,hb,bf,ak _ om om];rfl)
  (fun k hk hp=>by
   have hb:p l[k]=true:=by simpa [hk] using hp
   rw [hs,brd om,cj hk,obs,hf _ (aY hk),obs,hb,cO])
  (by rw [hs,brn om,ag om])
 rcases key with ⟨h1,h2⟩|⟨k,hk,h1,_,h2⟩
 ·exact ⟨(l.length:Int),by rw [a8g (fun k hk=>by simpa [hk] using h1 k hk)];exact h2,by omega⟩
 ·exact ⟨(k:Int),by rw [Ru hk (by simpa [hk] using h1)];exact h2,by omega⟩
theorem yu {R:List (List Ext)} {many size:Int} (hl:R.length<=1099511627776) (hR: ∀g∈R,g.length<=1099511627776):oA R many size=some (Fc R many size):=by
 unfold oA Fc
 by_cases h:(R.length:Int)=many
 ·rw [bre h,al h]
  obtain ⟨n,e,hn⟩:=Rr (c:=size) (p:=fun g=> !vZ size g) (f:=qr) (l:=R) hl (fun x hx=>by
   unfold qr vZ
   by_cases h2:(x.length:Int)=size
   ·rw [fq h2,MY (hR x hx),obs,al h2];rfl
   ·rw [brb h2,ag h2];rfl) (step:=cH R ((R.length:Nat):Int)) (fun t=>rfl)
  unfold cL cW
  rw [e, <-wo (vZ size)]
  cases (R.any fun g=> !vZ size g)
  ·rfl
  ·simp only [ae,obs,l6,al (show n>=0 from hn)];rfl
 ·rw [kX h,ag h];rfl
def a2m (vars:Int) (t:Setting) (q:Query) (j:Nat):Bool:=decide (((q.Paths.getD j []).length:Int)=vars+t.Rate-1-j)&&(q.Paths.getD j []).all h32
def L0 (vars:Int) (t:Setting) (q:Query):Bool:=decide ((q.Pairs.length:Int)=2*vars)&&(q.Pairs.all nF&&(decide ((q.Paths.length:Int)=vars)&&a0A vars.toNat (a2m vars t q)))
def okO (o:Opening) (vars:Int) (t:Setting):Bool:=decide (1<=vars/\vars<=6)&&(setB t&&(Fc o.Rounds vars 3&&(decide ((o.Roots.length:Int)=vars-1)&&(o.Roots.all h32&&(nF o.Last&&(decide (0<=o.Nonce/\o.Nonce<=65535)&&(decide ((o.Queries.length:Int)=t.Queries)&&o.Queries.all (L0 vars t))))))))
structure SmO (o:Opening):Prop where
 rn:o.Rounds.length<=1099511627776
 rr: ∀g∈o.Rounds,g.length<=1099511627776
 ro:o.Roots.length<=1099511627776
 qn:o.Queries.length<=1099511627776
 qp: ∀q∈o.Queries,q.Pairs.length<=1099511627776
 qt: ∀q∈o.Queries, ∀p∈q.Paths,p.length<=1099511627776
theorem Kx {l:List (List (List UInt8))} {j:Nat} (h:j<l.length):atL l (j:Int)=some (l.getD j []):=by rw [cj h];simp [h]
theorem ZW {l:List (List (List UInt8))} {j:Nat} (h:j<l.length):l.getD j []∈l:=by simp [h]
theorem Z5 {q:Query} {vars:Int} {t:Setting} (hv:1<=vars/\vars<=6) (ht:setB t=true) (hp:q.Pairs.length<=1099511627776) (hq: ∀p∈q.Paths,p.length<=1099511627776):yj q vars t=some (L0 vars t q):=by
 have h2:=xn ht
 unfold yj L0
 rw [ak _ om om]
 by_cases c1:(q.Pairs.length:Int)=2*vars
 ·rw [fq c1,al c1,MY hp,obs]
  cases hb:q.Pairs.all nF
  ·rfl
  ·rw [aH,bf]
   by_cases c2:(q.Paths.length:Int)=vars
   ·rw [fq c2,al c2]
    have hn:vars.toNat=q.Paths.length:=by omega
    have key:=CJ (step:=kH vars q.Paths ((q.Paths.length:Nat):Int) q.Pairs q.Paths t.Rate t.Queries t.Grind) vars.toNat (a2m vars t q) (fun _=>()) (e2:=((vars.toNat:Int),false)) (f:=fun _=>some false) (g:=fun _=>some true) (x:=false) (y:=true) (fun k hk hp=>by
     have hm:=hq _ (ZW (l:=q.Paths) (j:=k) om)
     simp only [a2m,aC,aG] at hp
     simp only [kH]
     rw [brd om,Kx om,obs,ak (vars+t.Rate) om om,ak (vars+t.Rate-1) om om,ak (vars+t.Rate-1-k) om om,fq hp.1,N2 hm,obs,hp.2,aH,bf,ak _ om om];rfl) (fun k hk hp=>by
     have hm:=hq _ (ZW (l:=q.Paths) (j:=k) om)
     simp only [kH]
     rw [brd om,Kx om,obs,ak (vars+t.Rate) om om,ak (vars+t.Rate-1) om om,ak (vars+t.Rate-1-k) om om]
     by_cases c3:((q.Paths.getD k []).length:Int)=vars+t.Rate-1-k
     ·rw [fq c3,N2 hm,obs]
      rw [a2m,al c3,aO] at hp
      rw [hp];rfl
     ·rw [brb c3]) (by
     simp only [kH]
     rw [brn om,ag om]) (fun _=>rfl) rfl
    rw [a2q] at key
    rw [key];rfl
   ·rw [brb c2,ag c2];rfl
 ·rw [brb c1,ag c1];rfl
theorem Rj {o:Opening} {vars:Int} {t:Setting} (S:SmO o):wg o vars t=some (okO o vars t):=by
 unfold wg okO
 rw [HG,obs]
 by_cases hv:1<=vars/\vars<=6
 ·rw [al hv,al hv.1,al hv.2,nN,cO,zj,obs,aO]
  cases ht:setB t
  ·rfl
  ·rw [cO,yu S.rn S.rr,obs,aO]
   cases hr:Fc o.Rounds vars 3
   ·rfl
   ·rw [cO,ak _ om om,aO]
    by_cases c1:(o.Roots.length:Int)=vars-1
    ·rw [bre c1,al c1,N2 S.ro,obs,aO]
     cases hh:o.Roots.all h32
     ·rfl
     ·rw [cO,ub,obs,aO]
      cases hl:nF o.Last
      ·rfl
      ·rw [cO,HG,obs,aO]
       by_cases c2:0<=o.Nonce/\o.Nonce<=65535
       ·rw [al c2,al c2.1,al c2.2,nN,cO,aO]
        by_cases c3:(o.Queries.length:Int)=t.Queries
        ·rw [bre c3,al c3,aO]
         obtain ⟨n,e,hn⟩:=Rr (c:=(vars,t.Rate,t.Queries,t.Grind)) (p:=fun q=> !L0 vars t q) (f:=fun x c=>(dx x c.1 ⟨c.2.1,c.2.2.1,c.2.2.2⟩).bind fun r=>some (r.1,r.2.1,r.2.2.Rate,r.2.2.Queries,r.2.2.Grind)) (l:=o.Queries) S.qn (fun x hx=>by
          unfold dx uz
          show ((((yj x vars t).bind _).bind _).bind _)=_
          rw [Z5 hv ht (S.qp x hx) (S.qt x hx)];rfl) (step:=bn o.Queries ((o.Queries.length:Nat):Int)) (fun z=>by
          show bn _ _ (z,vars,t.Rate,t.Queries,t.Grind)=_
          simp only [bn]
          congr 1
          cases atL o.Queries z with
          |none=>rfl
          |some x=>
           simp only [obs]
           cases dx x vars ⟨t.Rate,t.Queries,t.Grind⟩<;>rfl)
         unfold hZ bM bQ
         rw [e, <-wo (L0 vars t)]
         cases (o.Queries.any fun q=> !L0 vars t q)
         ·rfl
         ·simp only [ae,obs,l6,al (show n>=0 from hn)]
        ·rw [kX c3,ag c3];rfl
       ·rw [ag c2]
        have:(decide (0<=o.Nonce)&&decide (o.Nonce<=65535))=false:=by
         rw [<-pE];exact ag c2
        rw [this];rfl
    ·rw [kX c1,ag c1];rfl
 ·rw [ag hv]
  have:(decide (1<=vars)&&decide (vars<=6))=false:=by
   rw [<-pE];exact ag hv
  rw [this];rfl
end
section
theorem CP {α:Type} (l:List α) (d:α) (P:α->Bool):a0A l.length (fun k=>P (l.getD k d))=l.all P:=by
 refine px.2 ⟨fun h=>aB.2 fun x hx=> ?_,fun h=>Lw fun k hk=> ?_⟩
 ·obtain ⟨k,hk,rfl⟩:=bq hx
  have:=wc.1 h k hk
  simpa [hk] using this
 ·have:=aB.1 h _ (aY hk)
  simpa [hk] using this
theorem rd {α:Type} {l:List α} {d:α} {j:Nat} (h:j<l.length):atL l (j:Int)=some (l.getD j d):=by rw [cj h];simp [h]
theorem QA {a t9:Int} {c30:List (List Ext)} {c31:List (List UInt8)} {c32 c33 c34:Int} {c35:List Query} {c36 c37 c38:Int} {c39:List Ext} {C:List (List (List UInt8))} {j:Nat} (hj:j<C.length) (hl:(C.getD j []).length<=1099511627776) {R:Type} {x y:R}:
 (Loop (iW a t9 (j:Int) c30 c31 c32 c33 c34 c35 c36 c37 c38 c39 C) 0).bind (alt (fun _=>some x) (fun _=>some y))=some (if (C.getD j []).all h32=true then y else x):=by
 rw [<-CP (C.getD j []) [] h32]
 refine CJ (C.getD j []).length _ (fun _=>()) (fun k hk hp=> ?_) (fun k hk hp=> ?_) (e2:=(((C.getD j []).length:Int),false)) ?_ (fun _=>rfl) rfl
 ·simp only [iW]
  simp only [h32,aG] at hp
  rw [Kx hj,obs,brd om,obs,rd (d:=[]) hk,obs,fq om,ak _ om om];rfl
 ·simp only [iW]
  simp only [h32,bz] at hp
  rw [Kx hj,obs,brd om,obs,rd (d:=[]) hk,obs,brb om]
 ·simp only [iW]
  rw [Kx hj,obs,brn om,ag om]
theorem R5 {vars:Int} {t:Setting} {q:Query} {t6:Int} {c19:List (List Ext)} {c20:List (List UInt8)} {c21 c22 c23:Int} {c24:List Query} {c26 c27:Int} {c28:List Ext} (hv:1<=vars/\vars<=6) (ht:setB t=true) (hq:(q.Paths.length:Int)=vars) (hl: ∀p∈q.Paths,p.length<=1099511627776) {R:Type} {x y:R}:
 (Loop (iS vars t6 c19 c20 c21 c22 c23 c24 t.Rate c26 c27 c28 q.Paths) 0).bind (alt (fun _=>some x) (fun _=>some y))=some (if a0A vars.toNat (a2m vars t q)=true then y else x):=by
 have h2:=xn ht
 refine CJ vars.toNat _ (fun _=>()) (fun k hk hp=> ?_) (fun k hk hp=> ?_) (e2:=((vars.toNat:Int),false)) ?_ (fun _=>rfl) rfl
 ·have hm:=hl _ (ZW (l:=q.Paths) (j:=k) om)
  simp only [a2m,aC,aG] at hp
  simp only [iS]
  rw [brd om,Kx om,obs,ak (vars+t.Rate) om om,ak (vars+t.Rate-1) om om,ak (vars+t.Rate-1-k) om om,fq hp.1,QA om hm,ae hp.2,ak _ om om];rfl
 ·have hm:=hl _ (ZW (l:=q.Paths) (j:=k) om)
  simp only [iS]
  rw [brd om,Kx om,obs,ak (vars+t.Rate) om om,ak (vars+t.Rate-1) om om,ak (vars+t.Rate-1-k) om om]
  by_cases c3:((q.Paths.getD k []).length:Int)=vars+t.Rate-1-k
  ·rw [a2m,al c3,aO] at hp
   rw [fq c3,QA om hm,aa (by rw [hp];decide)]
  ·rw [brb c3]
 ·simp only [iS]
  rw [brn om,ag om]
theorem Zt {vars:Int} {t:Setting} {o:Opening} {c14 c12 c13:Int} {c10:List (List Ext)} {c11:List (List UInt8)} {c17 c18:Int} (S:SmO o) (hv:1<=vars/\vars<=6) (ht:setB t=true) {R:Type} {x y:R}:
 (Loop (gV vars c10 c11 c12 c13 c14 o.Queries t.Rate c17 c18) 0).bind (alt (fun _=>some x) (fun _=>some y))=some (if o.Queries.all (L0 vars t)=true then y else x):=by
 rw [<-CP o.Queries ⟨[],[]⟩ (L0 vars t)]
 have hQ: ∀k,k<o.Queries.length->o.Queries.getD k ⟨[],[]⟩∈o.Queries:=fun k hk=>by simp [hk]
 have hqn:=S.qn
 refine CJ o.Queries.length _ (fun k=>((o.Queries.getD k ⟨[],[]⟩).Pairs,(o.Queries.getD k ⟨[],[]⟩).Paths)) (fun k hk hp=> ?_) (fun k hk hp=> ?_) (e2:=((o.Queries.length:Int),false)) ?_ (fun _=>rfl) rfl
 ·have hm:=hQ k hk
  simp only [L0,aC,aG] at hp
  simp only [gV]
  rw [brd om,rd (d:=⟨[],[]⟩) hk,obs,ak (2*vars) om om,fq hp.1,o8 (S.qp _ hm),obs,hp.2.1,aH,bf,fq hp.2.2.1,R5 hv ht hp.2.2.1 (S.qt _ hm),ae hp.2.2.2,ak _ om om];rfl
 ·have hm:=hQ k hk
  simp only [gV]
  rw [brd om,rd (d:=⟨[],[]⟩) hk,obs,ak (2*vars) om om]
  rw [L0] at hp
  by_cases c1:((o.Queries.getD k ⟨[],[]⟩).Pairs.length:Int)=2*vars
  ·rw [fq c1,o8 (S.qp _ hm),obs]
   rw [al c1,aO] at hp
   cases hb:(o.Queries.getD k ⟨[],[]⟩).Pairs.all nF
   ·rfl
   ·rw [aH,bf]
    rw [hb,aO] at hp
    by_cases c2:((o.Queries.getD k ⟨[],[]⟩).Paths.length:Int)=vars
    ·rw [al c2,aO] at hp
     rw [fq c2,R5 hv ht c2 (S.qt _ hm),aa (by rw [hp];decide)]
    ·rw [brb c2]
  ·rw [brb c1]
 ·simp only [gV]
  rw [brn om,ag om]
theorem Rd {o:Opening} {vars:Int} {t:Setting} (S:SmO o):wt o vars t=some (okO o vars t):=by
 unfold wt okO
 rw [Ma,obs]
 by_cases hv:1<=vars/\vars<=6
 ·rw [al hv,al hv.1,al hv.2,nN,aH,bf,zu,obs,aO]
  cases ht:setB t
  ·rfl
  ·rw [aH,bf,ak _ om om,aO,Fc]
   by_cases c0:(o.Rounds.length:Int)=vars
   ·rw [fq c0,al c0,aO]
    by_cases c1:(o.Roots.length:Int)=vars-1
    ·rw [fq c1,al c1,aO]
     by_cases c3:(o.Queries.length:Int)=t.Queries
     ·rw [fq c3,al c3,aO,T7,obs]
      cases hl:nF o.Last
      ·rw [dv,cO];cases o.Rounds.all (vZ 3)<;>cases o.Roots.all h32<;>rfl
      ·rw [aH,bf,Ma,obs,aO]
       by_cases c2:0<=o.Nonce/\o.Nonce<=65535
       ·rw [al c2,al c2.1,al c2.2,nN,aH,bf,aO]
        have key:=CJ (step:=iX vars o.Rounds o.Roots o.Last.A o.Last.B o.Nonce o.Queries t.Rate t.Queries t.Grind) vars.toNat (fun i=>vZ 3 (o.Rounds.getD i [])&&(decide (i=0)||h32 (o.Roots.getD (i-1) []))) (fun _=>()) (e2:=((vars.toNat:Int),false)) (f:=fun _=>some false)
         (g:=fun _=>(Loop (gV vars o.Rounds o.Roots o.Last.A o.Last.B o.Nonce o.Queries t.Rate t.Queries t.Grind) 0).bind (alt (fun e_11=>some false) (fun e_12=>some true))) (x:=false) (y:=o.Queries.all (L0 vars t)) (fun k hk hp=>by
         simp only [aC,da,vZ,h32,aG] at hp
         have hm:=S.rr _ (show o.Rounds.getD k []∈o.Rounds by simp [show k<o.Rounds.length by omega])
         simp only [iX]
         rw [brd om,rd (d:=[]) om,obs,fq hp.1.1,obs,o8 hm,obs,hp.1.2,aH,bf,ak ((k:Int)+1) om om]
         by_cases h0:k=0
         ·rw [brn om];rfl
         ·rw [brd om,ak _ om om,show (k:Int)-1=((k-1:Nat):Int) by omega,rd (d:=[]) om,obs,fq (by have:=hp.2.resolve_left h0;omega)];rfl) (fun k hk hp=>by
         have hm:=S.rr _ (show o.Rounds.getD k []∈o.Rounds by simp [show k<o.Rounds.length by omega])
         simp only [iX]
         rw [brd om,rd (d:=[]) om,obs]
         by_cases c4:((o.Rounds.getD k []).length:Int)=3
         ·rw [fq c4,obs,o8 hm,obs]
          cases hb:(o.Rounds.getD k []).all nF
          ·rfl
          ·rw [vZ,al c4,hb,aO,aO,Bool.or_eq_false_iff,bz,h32,bz] at hp
           rw [aH,bf,brd om,ak _ om om,show (k:Int)-1=((k-1:Nat):Int) by omega,rd (d:=[]) om,obs,brb om]
         ·rw [brb c4]) (by
         simp only [iX]
         rw [brn om,ag om]) (fun _=>rfl) (by rw [Zt S hv ht,a2q])
        rw [key]
        have hall:a0A vars.toNat (fun i=>vZ 3 (o.Rounds.getD i [])&&(decide (i=0)||h32 (o.Roots.getD (i-1) [])))=(o.Rounds.all (vZ 3)&&o.Roots.all h32):=by
         rw [<-CP o.Rounds [], <-CP o.Roots []]
         refine px.2 ⟨fun h=> ?_,fun h=> ?_⟩
         ·rw [aC]
          refine ⟨Lw fun k hk=> ?_,Lw fun k hk=> ?_⟩
          ·have:=wc.1 h k om
           simp only [aC] at this;exact this.1
          ·have:=wc.1 h (k+1) om
           simpa using (aC _ _▸this).2
         ·rw [aC] at h
          refine Lw fun k hk=> ?_
          rw [aC]
          refine ⟨wc.1 h.1 k om, ?_⟩
          by_cases h0:k=0
          ·simp [h0]
          ·have:=wc.1 h.2 (k-1) om
           simp only [da];exact .inr this
        rw [hall]
        cases o.Rounds.all (vZ 3)<;>cases o.Roots.all h32<;>simp
       ·have:(decide (0<=o.Nonce)&&decide (o.Nonce<=65535))=false:=by
         rw [<-pE];exact ag c2
        rw [ag c2,this,dv,cO]
        cases o.Rounds.all (vZ 3)<;>cases o.Roots.all h32<;>rfl
     ·rw [brb c3,ag c3]
      cases o.Rounds.all (vZ 3)<;>cases o.Roots.all h32<;>cases nF o.Last<;>cases decide (0<=o.Nonce/\o.Nonce<=65535)<;>rfl
    ·rw [brb c1,ag c1];cases o.Rounds.all (vZ 3)<;>rfl
   ·rw [brb c0,ag c0];rfl
 ·rw [ag hv]
  have:(decide (1<=vars)&&decide (vars<=6))=false:=by
   rw [<-pE];exact ag hv
  rw [this];rfl
end
section
end
section
end
section
variable {kind:Nat}
theorem WU {c7 c8 c9 c11:Int} {c10:List UInt8} (hkd:kind=1\/kind=2): ∀(R pre:List (List K)) (c:K) (s:Source) (k:Int) (P:List Ext),Few s k->k+3*R.length<=999990->P.length+R.length<=999990->pre.length+R.length<=999990->
 ((vfM kind bv0 R pre.length c s).1=0->Loop (dV (kind:Int) (kvv (pre++R)) ((pre++R).length:Int) c7 c8 c9 c10 c11) (P,(pre.length:Int),c.1.A,c.1.B,s.Script,s.At,s.State,s.Count)=
   some (.inr (.inr (P++kv (vfM kind bv0 R pre.length c s).2.1,((pre++R).length:Int),false,(vfM kind bv0 R pre.length c s).2.2.1.1.A,(vfM kind bv0 R pre.length c s).2.2.1.1.B,(vfM kind bv0 R pre.length c s).2.2.2.Script,(vfM kind bv0 R pre.length c s).2.2.2.At,(vfM kind bv0 R pre.length c s).2.2.2.State,(vfM kind bv0 R pre.length c s).2.2.2.Count))))/\
 ((vfM kind bv0 R pre.length c s).1≠0->((vfM kind bv0 R pre.length c s).1=18/\ ∃P' A B C D E F S0 S1 S2 S3,Loop (dV (kind:Int) (kvv (pre++R)) ((pre++R).length:Int) c7 c8 c9 c10 c11) (P,(pre.length:Int),c.1.A,c.1.B,s.Script,s.At,s.State,s.Count)=
   some (.inl (P',[],A,B,C,D,E,F,S0,S1,S2,S3))/\Source.mk S0 S1 S2 S3=(vfM kind bv0 R pre.length c s).2.2.2)\/
   ((vfM kind bv0 R pre.length c s).1=10/\ ∃P' A B C D E F S0 S1 S2 S3,Loop (dV (kind:Int) (kvv (pre++R)) ((pre++R).length:Int) c7 c8 c9 c10 c11) (P,(pre.length:Int),c.1.A,c.1.B,s.Script,s.At,s.State,s.Count)=
   some (.inr (.inl (P',[],A,B,C,D,E,F,S0,S1,S2,S3)))/\Source.mk S0 S1 S2 S3=(vfM kind bv0 R pre.length c s).2.2.2))
 |[],pre,c,s,k,P,hf,hk,hP,hp=>by
  refine ⟨fun _=>bZ ?_,fun h=>absurd rfl h⟩
  simp only [dV,bW]
  rw [brn om,ag om]
  simp [vfM,kv]
 |g::R,pre,c,s,k,P,hf,hk,hP,hp=>by
  rw [ah] at hk hP hp
  have hat:atL (kvv (pre++g::R)) (pre.length:Int)=some (kv g):=by rw [a1l (by simp)];simp
  have hlt:(pre.length:Int)<((pre++g::R).length:Int):=by rw [ab,ah];omega
  have hd:vV (kind:Int)=some ((kind+1:Nat):Int):=by unfold vV;rw [ak _ om om];rfl
  rw [vfM]
  by_cases h1:g.length=kind+2
  ·by_cases h2:g.getD 0 0+g.getD 1 0=c
   ·rw [ae h1,ae h2]
    have ih:=WU (c7:=c7) (c8:=c8) (c9:=c9) (c10:=c10) (c11:=c11) hkd R (pre++[g]) (lnK g (rdM s g)) (nsM s g) (k+2) (P++[(rdM s g).1]) (KB hf om g) om (by rw [ab,am];omega) (by rw [ab,am];omega)
    rw [ba,aU,ab,am] at ih
    have step:dV (kind:Int) (kvv (pre++g::R)) ((pre++g::R).length:Int) c7 c8 c9 c10 c11 (P,(pre.length:Int),c.1.A,c.1.B,s.Script,s.At,s.State,s.Count)=
     some (.inl (P++[(rdM s g).1],((pre.length+1:Nat):Int),(lnK g (rdM s g)).1.A,(lnK g (rdM s g)).1.B,(nsM s g).Script,(nsM s g).At,(nsM s g).State,(nsM s g).Count)):=by
     simp only [dV]
     rw [brd hlt,hat,obs,hd,obs,ak _ om om,fq (by rw [ci];omega),atK (i:=0) (j:=0) rfl om,obs,atK (i:=1) (j:=1) rfl om,obs,lS (aI _) (aI _),obs]
     rw [show eA (g.getD 0 0).1 (g.getD 1 0).1=c.1 from congrArg Subtype.val h2,bre rfl,bre rfl,show Source.mk s.Script s.At s.State s.Count=s from rfl,R2 hf.1 om,obs,c0e hf,obs]
     dsimp only
     rw [Xk _ om,obs,bw (by rw [ab,am];omega),ak _ om om];rfl
    refine ⟨fun h=> ?_,fun h=> ?_⟩
    ·rw [cf step,ih.1 h]
     simp [kv,bv0]
    ·rcases ih.2 h with ⟨q,P',A,B,C,D,E,F,S0,S1,S2,S3,e,e2⟩|⟨q,P',A,B,C,D,E,F,S0,S1,S2,S3,e,e2⟩
     ·exact .inl ⟨q,P',A,B,C,D,E,F,S0,S1,S2,S3,by rw [cf step,e],e2⟩
     ·exact .inr ⟨q,P',A,B,C,D,E,F,S0,S1,S2,S3,by rw [cf step,e],e2⟩
   ·rw [ae h1,aa h2]
    refine ⟨fun h=>absurd (show (10:Int)=0 from h) (by decide),fun _=> .inr ⟨rfl,P,c.1.A,c.1.B,s.Script,s.At,s.State,s.Count,s.Script,s.At,s.State,s.Count,bZ ?_,rfl⟩⟩
    simp only [dV]
    rw [brd hlt,hat,obs,hd,obs,ak _ om om,fq (by rw [ci];omega),atK (i:=0) (j:=0) rfl om,obs,atK (i:=1) (j:=1) rfl om,obs,lS (aI _) (aI _),obs]
    rw [show eA (g.getD 0 0).1 (g.getD 1 0).1=(g.getD 0 0+g.getD 1 0).1 from rfl,HW,aa h2]
  ·rw [aa h1]
   refine ⟨fun h=>absurd (show (18:Int)=0 from h) (by decide),fun _=> .inl ⟨rfl,P,c.1.A,c.1.B,s.Script,s.At,s.State,s.Count,s.Script,s.At,s.State,s.Count,bZ ?_,rfl⟩⟩
   simp only [dV]
   rw [brd hlt,hat,obs,hd,obs,ak _ om om,brb (by rw [ci];omega)]
theorem Ot (hkd:kind=1\/kind=2) {R:List (List K)} {c:K} {s:Source} {k:Int} (hf:Few s k) (hk:k+3*R.length<=999990):
 mh (kind:Int) c.1 (kvv R) (R.length:Int) s=some (if (vfM kind bv0 R 0 c s).1=0 then (kv (vfM kind bv0 R 0 c s).2.1,(vfM kind bv0 R 0 c s).2.2.1.1,(vfM kind bv0 R 0 c s).2.2.2,0) else ([],e0,(vfM kind bv0 R 0 c s).2.2.2,(vfM kind bv0 R 0 c s).1)):=by
 have hk0:0<=k:=by have:=hf.2;have:=hf.1.4;omega
 have h:=WU (c7:=0) (c8:=0) (c9:=0) (c10:=[]) (c11:=0) hkd R [] c s k [] hf hk (by rw [ai];omega) (by rw [ai];omega)
 rw [bj,ai] at h
 unfold mh
 rw [a0d,fq rfl]
 by_cases h0:(vfM kind bv0 R 0 c s).1=0
 ·rw [ae h0]
  have:=h.1 h0
  rw [show (((0:Nat):Int))=0 from rfl] at this
  rw [this];rfl
 ·rw [aa h0]
  rcases h.2 h0 with ⟨q,P',A,B,C,D,E,F,S0,S1,S2,S3,e,e2⟩|⟨q,P',A,B,C,D,E,F,S0,S1,S2,S3,e,e2⟩
  ·rw [show (((0:Nat):Int))=0 from rfl] at e
   rw [e,q, <-e2];rfl
  ·rw [show (((0:Nat):Int))=0 from rfl] at e
   rw [e,q, <-e2];rfl
end
section
variable {v ρ:Nat} {t P:List K} {s:Source} {k:Int}
end
section
end
section
def eaK:List K->List K->K->K
 |x::A,b::B,c=>eaK A B (c*(x*b+(1-x)*(1-b)))
 |_,_,c=>c
def xd (a b:K):List UInt8:=[a.1,b.1].flatMap e8
def b0w (due:Option K) (x:K):Prop:= ∃d,due=some d/\x≠d
noncomputable instance c0Y (due:Option K) (x:K):Decidable (b0w due x):=Classical.propDecidable _
noncomputable def qcK (l:K):Nat->List (List UInt8)->List K->List (List (List UInt8))->List K->Nat->Option K->Int
 |m,rt::rts,a::b::prs,p::pths,r::P,k,due=>
  if (H (oD (k%2^(m-1)) (xd a b) p (m-1))==rt)=false then 9
  else if b0w due (if 2^(m-1)<=k then b else a) then 12
  else qcK l (m-1) rts prs pths P (k%2^(m-1)) (some (fpK m (k%2^(m-1)) a b r))
 |_,_,_,_,_,_,due=>if due=some l then 0 else 13
noncomputable def qsC (l:K) (m:Nat) (rts:List (List UInt8)) (D:List K):List Int->List Query->Int
 |p::ps,q::qs=>if qcK l m rts (q.Pairs.map toK) q.Paths D p.toNat none=0 then qsC l m rts D ps qs else qcK l m rts (q.Pairs.map toK) q.Paths D p.toNat none
 |_,_=>0
def bvO (v:Nat) (rts:List (List UInt8)) (j:Nat) (s:Source):Source:=if j+1<v then tkM s (rts.getD j []) else s
theorem a09 (v:Nat) (rts:List (List UInt8)):c0Q (bvO v rts):=fun j s k h hk=>by
 unfold bvO;split
 ·exact h.take _
 ·exact h.mono om
noncomputable def chC (m bits nq:Nat) (root:List UInt8) (P:List K) (rts:List (List UInt8)) (l:K) (nonce:Int) (qs:List Query) (q:Int×List K×K×Source):Int:=
 if q.1=0 then
  if l*eaK q.2.1 P 1=q.2.2.1 then
   if SZ (rsM q.2.2.2 [l]).State bits nonce=true then qsC l m (root::rts) q.2.1 (plM (drL (tkM (rsM q.2.2.2 [l]) (iv nonce)) nq) ((2^(m-1):Nat):Int)) qs
   else 14
  else 11
 else q.1
def chS (nq:Nat) (l:K) (nonce:Int) (q:Int×List K×K×Source):Source:=drS (tkM (rsM q.2.2.2 [l]) (iv nonce)) nq
variable {v ρ:Nat} {t P:List K} {s:Source} {k:Int}
end
section
theorem c5G: ∀i:Nat,i<512-> ∀j:Nat,j<9->(dc .i64 (bY .i64 (i:Int) (j:Int)) 1==1)=decide (i/2^j%2=1):=by decide+kernel
theorem c0s {i k:Nat} {leaf:Tx} {path:List Tx} (hi:i<512) (hk:k<=9) (hl:leaf.length<=1000) (hp:path.length=k) (hh:Hs path):Mi i leaf path=some (Cm i leaf path k):=by
 unfold Mi
 rw [VN om,obs,hp]
 have key:Loop (oj i path k) ([Xq leaf],0)=some (Cm i leaf path k,(k:Int),false):=by
  refine bx (step:=oj i path k) (fun j=>(Cm i leaf path j,(j:Int))) k (fun j hj=> ?_) ?_
  ·have hx:=hh.getD (k:=j) om
   have hH:=EE (oD i leaf path j)
   simp only [oj]
   have e:=a5o (i:=i) (leaf:=leaf) (path:=path) (aw j)
   rw [cj (by rw [sw];omega),Option.some.injEq] at e
   have e2:(Cm i leaf path j)[((j:Nat):Int).toNat]? =some (oD i leaf path j):=by
    rw [aK,wj (by rw [sw];omega),e]
   have hw:(oD i leaf path j).length<=100000000:=by
    cases j with
    |zero=>simp only [oD,Xq,ah];omega
    |succ j=>
     have hx':=hh.getD (k:=j) om
     have hH':=EE (oD i leaf path j)
     simp only [oD]
     split<;>simp only [OJ,ah,ab]<;>omega
   rw [brd om,b2T om,obs,brd om,brd (by rw [sw];omega),e2,obs,OQ hw,obs,brd om,c5G i hi j om]
   by_cases c:i/2^j%2=1
   ·rw [brd c,Je om om,obs,bw (by simp only [ab,sw,am];omega),ak _ om om,Cm,Cm,sa _ (j+1)]
    simp only [oD,ae c];rfl
   ·rw [brn c,Je om om,obs,bw (by simp only [ab,sw,am];omega),ak _ om om,Cm,Cm,sa _ (j+1)]
    simp only [oD,aa c];rfl
  ·simp only [oj]
   rw [brn om,ag om]
 rw [key];rfl
theorem up9 {i k:Nat} {leaf:Tx} {path:List Tx} (hi:i<512) (hk:k<=9) (hl:leaf.length<=1000) (hp:path.length=k) (hh:Hs path):LD i leaf path=some (Cm i leaf path k,H (oD i leaf path k)):=by
 unfold LD
 rw [bw (by simp only [am];omega),b0b om,obs]
 have key:Loop (ox path) ([[0]++leaf],(i:Int),hL leaf,0)=some (Cm i leaf path k,((i/2^k:Nat):Int),H (oD i leaf path k),(k:Int),false):=by
  have key:=bx (step:=ox path) (fun j=>(Cm i leaf path j,((i/2^j:Nat):Int),H (oD i leaf path j),(j:Int))) k (e:=(Cm i leaf path k,((i/2^k:Nat):Int),H (oD i leaf path k),(k:Int),false)) (fun j hj=> ?_) ?_
  ·have e0:i/2^0=i:=by simp
   rw [e0] at key
   exact key
  ·have hx:=hh.getD (k:=j) om
   have hH:=EE (oD i leaf path j)
   have hq:IntKind.wrap .i64 (((i/2^j:Nat):Int).tdiv 2)=((i/2^(j+1):Nat):Int):=(b03 i j).resolve_right om
   have hm:(((i/2^j:Nat):Int).tmod 2==1)=decide (i/2^j%2=1):=by
    rw [ep _ _ (Int.natCast_nonneg _)]
    generalize i/2^j=q
    by_cases c:q%2=1
    ·rw [al c];simp;omega
    ·rw [ag c];simp;omega
   simp only [ox]
   rw [brd om,bw (by simp only [am];omega),b2T om,obs,bw (by simp only [ab,am];omega),hm,hq]
   by_cases c:i/2^j%2=1
   ·rw [brd c,obs,bw (by simp only [am];omega),bw (by simp only [ab,am];omega),bw (by simp only [ab,sw,am];omega),
     tG (by simp only [ab,am];omega),obs,ak _ om om,Cm,Cm,sa _ (j+1)]
    simp only [oD,ae c,OJ,aU,eV,bj,lm]
   ·rw [brn c,bw (by simp only [ab,sw,am];omega),
     tG (by simp only [ab,am];omega),obs,ak _ om om,Cm,Cm,sa _ (j+1)]
    simp only [oD,aa c,OJ,aU,eV,bj,lm]
  ·simp only [ox]
   rw [brn om,ag om]
 rw [key];rfl
theorem c3t {root:Tx} {i k:Nat} {leaf:Tx} {path:List Tx} (hi:i<512) (hk:k<=9) (hl:leaf.length<=64) (hp:path.length=k) (hh:Hs path):Hl root ((2^k:Nat):Int) i leaf path=some (H (oD i leaf path k)==root):=by
 unfold Hl
 have hw:(oD i leaf path k).length<=100000000:=by
  cases k with
  |zero=>simp only [oD,Xq,ah];omega
  |succ j=>
   have hx':=hh.getD (k:=j) om
   have hH':=EE (oD i leaf path j)
   simp only [oD]
   split<;>simp only [OJ,ah,ab]<;>omega
 rw [brn om,c3X k hk,obs,fq om,c2S om hh,obs,bf,c0s hi hk om hp hh,obs,sw,ak _ om om,show (((k+1:Nat):Int))-1=(k:Int) by omega,a5o (aw k),obs,OQ hw];rfl
theorem RQ: ∀k:Nat,k<=9->bG .i64 1 (k:Int)=((2^k:Nat):Int):=by decide+kernel
theorem c2j {root:Tx} {i k:Nat} {leaf:Tx} {path:List Tx} (hi:i<512) (hk:k<=9) (hl:leaf.length<=64) (hp:path.length=k) (hh:Hs path):uh root ((2^k:Nat):Int) i leaf path=some (H (oD i leaf path k)==root):=by
 unfold uh
 have hm:mn 20 ((path.length:Nat):Int)=(k:Int):=by rw [hp];simp only [mn];omega
 rw [brn om,hm,eU _ om om,brd om,RQ k hk,fq rfl]
 have key:Loop (jF root i leaf path) 0=some (.inr (((path.length:Nat):Int),false)):=
  bx (step:=jF root i leaf path) (fun j=>(j:Int)) path.length (fun j hj=>by
   have hx:=hh.getD (k:=j) om
   simp only [jF]
   rw [brd om,b2T om,obs,fq om,ak _ om om];rfl) (by
   simp only [jF]
   rw [brn om,ag om])
 rw [key,obs,nT,up9 hi hk om hp hh];rfl
end
section
end
section
end
section
variable {v ρ:Nat} {t P:List K} {s:Source} {k:Int}
end
section
def QSh:Nat->List (List UInt8)->List K->List (List (List UInt8))->List K->Prop
 |_,[],[],[],[]=>True
 |m,_::rts,_::_::prs,p::pths,_::D=>1<=m/\p.length=m-1/\Hs p/\QSh (m-1) rts prs pths D
 |_,_,_,_,_=>False
def BI:Option K->Ext
 |none=>e0
 |some d=>d.1
theorem nE {α:Type} {pre l:List α} {x:α} {i:Int} (h:i=(pre.length:Int)):atL (pre++x::l) i=some x:=by subst h;rw [cj (by simp)];simp
theorem Bt (pre l:List K):kv (pre++l)=kv pre++kv l:=c0A pre l
theorem WI {l:K} {V:Int} {c:List (List Ext)} {c2:List (List UInt8)} {c3 c4 c5:Int} {c6:List Query}: ∀(rts:List (List UInt8)) (prs:List K) (pths:List (List (List UInt8))) (D:List K) (m:Nat) (preR:List (List UInt8)) (preP:List K) (preT:List (List (List UInt8))) (preD:List K) (k:Nat) (due:Option K),
 QSh m rts prs pths D->m<=9->preP.length=2*preR.length->preT.length=preR.length->preD.length=preR.length->V=((preR.length+rts.length:Nat):Int)->preR.length+rts.length<=100->k<2^9->(due=none↔preR.length=0)->(rts=[]->due≠none)->
 (Loop (jH (preR++rts) V (kv (preD++D)) c c2 c3 c4 c5 c6 (kv (preP++prs)) (preT++pths)) (((2^m:Nat):Int),(k:Int),(preR.length:Int),(BI due).A,(BI due).B)).bind (alt (fun e_2=>some e_2.1) (fun e_3=>br (e_3.2.2.2.2.1==l.1.A) (br (e_3.2.2.2.2.2==l.1.B) (some 0) (some 13)) (some 13)))=
  some (qcK l m rts prs pths D k due)
 |[],prs,pths,D,m,preR,preP,preT,preD,k,due,h,hm,h1,h2,h3,hV,hb,hk,hd,hn=>by
  match prs,pths,D,h with
  |[],[],[],_=>
   cases due with
   |none=>exact absurd rfl (hn rfl)
   |some d=>
    rw [bZ (e:= .inr (((2^m:Nat):Int),(k:Int),(preR.length:Int),false,d.1.A,d.1.B)) (by
     simp only [jH,BI]
     rw [brn (by rw [hV,ai];omega),ag (by rw [hV,ai];omega)])]
    rw [obs,nT]
    dsimp only
    rw [HW]
    show _=some (if some d=some l then (0:Int) else 13)
    by_cases e:d=l
    ·rw [ae e,ae (by rw [e])]
    ·rw [aa e,aa (fun h=>e (cZ h))]
 |rt::rts,prs,pths,D,m,preR,preP,preT,preD,k,due,h,hm,h1,h2,h3,hV,hb,hk,hd,hn=>by
  match prs,pths,D,h with
  |a::b::prs,p::pths,r::D,⟨hm1,hpl,hph,hq⟩=>
   obtain ⟨q,rfl⟩: ∃q,m=q+1:=⟨m-1,by omega⟩
   rw [ah] at hV hb
   have hp:=a6S (q+1) hm
   have hs:2^(q+1)=2*2^q:=by rw [g8];omega
   have hh:=a8Y q hm
   have hat:k%2^q<2^q:=gG _ om
   have hmod:(k:Int).tmod ((2^q:Nat):Int)=((k%2^q:Nat):Int):=by rw [ep _ _ om];omega
   have hk2:k%2^q<2^9:=bR hat om
   have hcheck:uh rt ((2^q:Nat):Int) ((k%2^q:Nat):Int) (xd a b) p=some (H (oD (k%2^q) (xd a b) p q)==rt):=c2j om om (by rw [xd,Qb];simp) om hph
   have ih:=WI (l:=l) (V:=V) (c:=c) (c2:=c2) (c3:=c3) (c4:=c4) (c5:=c5) (c6:=c6) rts prs pths D q (preR++[rt]) (preP++[a,b]) (preT++[p]) (preD++[r]) (k%2^q) (some (fpK (q+1) (k%2^q) a b r)) hq om
    (by simp only [ab,ah,ai];omega) (by simp only [ab,ah,ai];omega) (by simp only [ab,ah,ai];omega) (by rw [hV];simp only [ab,ah,ai];omega) (by simp only [ab,ah,ai];omega) hk2 (by simp) (by simp)
   simp only [ba,aU,eV,bj,ab,am] at ih
   have hR:atL (preR++rt::rts) (preR.length:Int)=some rt:=nE rfl
   have hT:atL (preT++p::pths) (preR.length:Int)=some p:=nE om
   have hD:atL (kv (preD++r::D)) (preR.length:Int)=some r.1:=by rw [Bt];exact nE (by rw [ci];omega)
   have hA:atL (kv (preP++a::b::prs)) (2*(preR.length:Int))=some a.1:=by rw [Bt];exact nE (by rw [ci];omega)
   have hB:atL (kv (preP++a::b::prs)) (2*(preR.length:Int)+1)=some b.1:=by
    rw [show preP++a::b::prs=(preP++[a])++b::prs by simp,Bt];exact nE (by rw [ci,ab,am];omega)
   have hstep:jH (preR++rt::rts) V (kv (preD++r::D)) c c2 c3 c4 c5 c6 (kv (preP++a::b::prs)) (preT++p::pths) (((2^(q+1):Nat):Int),(k:Int),(preR.length:Int),(BI due).A,(BI due).B)=
    if (H (oD (k%2^q) (xd a b) p q)==rt)=false then some (.inr (.inl (9,(BI due).A,(BI due).B,a.1.A,a.1.B,b.1.A,b.1.B)))
    else if b0w due (if 2^q<=k then b else a) then some (.inr (.inl (12,(BI due).A,(BI due).B,a.1.A,a.1.B,b.1.A,b.1.B)))
    else some (.inl (((2^q:Nat):Int),((k%2^q:Nat):Int),((preR.length+1:Nat):Int),(fpK (q+1) (k%2^q) a b r).1.A,(fpK (q+1) (k%2^q) a b r).1.B)):=by
    simp only [jH,hh]
    rw [brd om,brd om,ak (2*(preR.length:Int)) om om,hA,obs,ak (2*(preR.length:Int)+1) om om,hB,obs,hR,obs,Ta (by simp),obs,hT,obs,hmod,show ([a.1,b.1]:List Ext).flatMap e8=xd a b from rfl,hcheck,obs]
    cases hc:(H (oD (k%2^q) (xd a b) p q)==rt) with
    |false=>rw [ae rfl,dv,cO]
    |true=>
     rw [aa (by simp),aH,bf]
     have hpair:=b1U (k:=q+1) (i:=k%2^q) a b r hm om
     cases due with
     |none=>
      rw [brn (by have:=hd.1 rfl;omega),hD,obs,hpair,obs,ak _ om om,aa (by rintro ⟨d,h,_⟩;cases h)];rfl
     |some d=>
      rw [brd (by have:preR.length≠0:=fun e=>by cases hd.2 e
                  omega)]
      by_cases hlow:k<2^q
      ·have hown:(if 2^q<=k then b else a)=a:=aa om
       rw [hown,brd om,al (show (k:Int)<((2^q:Nat):Int) by omega)]
       show br (a.1.A==d.1.A) (br (a.1.B==d.1.B) _ _) _=_
       rw [HW]
       by_cases e:a=d
       ·rw [ae e,aa (by rintro ⟨x,h,h'⟩;cases h;exact h' e),hD,obs,hpair,obs,ak _ om om];rfl
       ·rw [aa e,ae ⟨d,rfl,e⟩]
      ·have hown:(if 2^q<=k then b else a)=b:=ae om
       rw [hown,brn om,ag (show ¬(k:Int)<((2^q:Nat):Int) by omega)]
       show br (b.1.A==d.1.A) (br (b.1.B==d.1.B) _ _) _=_
       rw [HW]
       by_cases e:b=d
       ·rw [ae e,aa (by rintro ⟨x,h,h'⟩;cases h;exact h' e),hD,obs,hpair,obs,ak _ om om];rfl
       ·rw [aa e,ae ⟨d,rfl,e⟩]
   rw [qcK,j7]
   by_cases hc:(H (oD (k%2^q) (xd a b) p q)==rt)=false
   ·rw [ae hc] at hstep ⊢
    rw [bZ hstep,obs,l6]
   ·rw [aa hc] at hstep ⊢
    by_cases ho:b0w due (if 2^q<=k then b else a)
    ·rw [ae ho] at hstep ⊢
     rw [bZ hstep,obs,l6]
    ·rw [aa ho] at hstep ⊢
     rw [cf hstep];exact ih
theorem XB {l:K} {M:Nat} {V:Int} {c:List (List Ext)} {c2:List (List UInt8)} {c3 c4 c5:Int} {c6:List Query}: ∀(rts:List (List UInt8)) (prs:List K) (pths:List (List (List UInt8))) (D:List K) (m:Nat) (preR:List (List UInt8)) (preP:List K) (preT:List (List (List UInt8))) (preD:List K) (k:Nat) (due:Option K),
 QSh m rts prs pths D->M<=9->m+preR.length=M->preP.length=2*preR.length->preT.length=preR.length->preD.length=preR.length->V=((preR.length+rts.length:Nat):Int)->preR.length+rts.length<=100->k<2^9->(due=none↔preR.length=0)->(rts=[]->due≠none)->
 (Loop (ff (kv (preD++D)) ((2^M:Nat):Int) (preR++rts) V c c2 c3 c4 c5 c6 (kv (preP++prs)) (preT++pths)) ((k:Int),(preR.length:Int),(BI due).A,(BI due).B)).bind (alt (fun e_2=>some 9) (alt (fun e_3=>some 12) (fun e_4=>br (e_4.2.2.2.1==l.1.A) (br (e_4.2.2.2.2==l.1.B) (some 0) (some 13)) (some 13))))=
  some (qcK l m rts prs pths D k due)
 |[],prs,pths,D,m,preR,preP,preT,preD,k,due,h,hM,hm,h1,h2,h3,hV,hb,hk,hd,hn=>by
  match prs,pths,D,h with
  |[],[],[],_=>
   cases due with
   |none=>exact absurd rfl (hn rfl)
   |some d=>
    rw [bZ (e:= .inr (.inr ((k:Int),(preR.length:Int),false,d.1.A,d.1.B))) (by
     simp only [ff,BI]
     rw [brn (by rw [hV,ai];omega),ag (by rw [hV,ai];omega)])]
    rw [obs,nT,nT]
    dsimp only
    rw [HW]
    show _=some (if some d=some l then (0:Int) else 13)
    by_cases e:d=l
    ·rw [ae e,ae (by rw [e])]
    ·rw [aa e,aa (fun h=>e (cZ h))]
 |rt::rts,prs,pths,D,m,preR,preP,preT,preD,k,due,h,hM,hm,h1,h2,h3,hV,hb,hk,hd,hn=>by
  match prs,pths,D,h with
  |a::b::prs,p::pths,r::D,⟨hm1,hpl,hph,hq⟩=>
   obtain ⟨q,rfl⟩: ∃q,m=q+1:=⟨m-1,by omega⟩
   rw [ah] at hV hb
   have hp:=a6S (q+1) om
   have hs:2^(q+1)=2*2^q:=by rw [g8];omega
   have hsh:bY .i64 ((2^M:Nat):Int) (preR.length:Int)=((2^(q+1):Nat):Int):=by rw [b7n M hM preR.length om,show M-preR.length=q+1 by omega]
   have hh:=a8Y q om
   have hat:k%2^q<2^q:=gG _ om
   have hmod:(k:Int).tmod ((2^q:Nat):Int)=((k%2^q:Nat):Int):=by rw [ep _ _ om];omega
   have hk2:k%2^q<2^9:=bR hat om
   have hcheck:Hl rt ((2^q:Nat):Int) ((k%2^q:Nat):Int) (xd a b) p=some (H (oD (k%2^q) (xd a b) p q)==rt):=c3t om om (by rw [xd,Qb];simp) om hph
   have ih:=XB (l:=l) (M:=M) (V:=V) (c:=c) (c2:=c2) (c3:=c3) (c4:=c4) (c5:=c5) (c6:=c6) rts prs pths D q (preR++[rt]) (preP++[a,b]) (preT++[p]) (preD++[r]) (k%2^q) (some (fpK (q+1) (k%2^q) a b r)) hq hM
    (by simp only [ab,ah,ai];omega) (by simp only [ab,ah,ai];omega) (by simp only [ab,ah,ai];omega) (by simp only [ab,ah,ai];omega) (by rw [hV];simp only [ab,ah,ai];omega) (by simp only [ab,ah,ai];omega) hk2 (by simp) (by simp)
   simp only [ba,aU,eV,bj,ab,am] at ih
   have hR:atL (preR++rt::rts) (preR.length:Int)=some rt:=nE rfl
   have hT:atL (preT++p::pths) (preR.length:Int)=some p:=nE om
   have hD:atL (kv (preD++r::D)) (preR.length:Int)=some r.1:=by rw [Bt];exact nE (by rw [ci];omega)
   have hA:atL (kv (preP++a::b::prs)) (2*(preR.length:Int))=some a.1:=by rw [Bt];exact nE (by rw [ci];omega)
   have hB:atL (kv (preP++a::b::prs)) (2*(preR.length:Int)+1)=some b.1:=by
    rw [show preP++a::b::prs=(preP++[a])++b::prs by simp,Bt];exact nE (by rw [ci,ab,am];omega)
   have hstep:(H (oD (k%2^q) (xd a b) p q)==rt)=false/\(∃e,ff (kv (preD++r::D)) ((2^M:Nat):Int) (preR++rt::rts) V c c2 c3 c4 c5 c6 (kv (preP++a::b::prs)) (preT++p::pths) ((k:Int),(preR.length:Int),(BI due).A,(BI due).B)=some (.inr (.inl e)))\/
    (H (oD (k%2^q) (xd a b) p q)==rt)=true/\b0w due (if 2^q<=k then b else a)/\(∃e,ff (kv (preD++r::D)) ((2^M:Nat):Int) (preR++rt::rts) V c c2 c3 c4 c5 c6 (kv (preP++a::b::prs)) (preT++p::pths) ((k:Int),(preR.length:Int),(BI due).A,(BI due).B)=some (.inr (.inr (.inl e))))\/
    (H (oD (k%2^q) (xd a b) p q)==rt)=true/\ ¬b0w due (if 2^q<=k then b else a)/\ff (kv (preD++r::D)) ((2^M:Nat):Int) (preR++rt::rts) V c c2 c3 c4 c5 c6 (kv (preP++a::b::prs)) (preT++p::pths) ((k:Int),(preR.length:Int),(BI due).A,(BI due).B)=
     some (.inl (((k%2^q:Nat):Int),((preR.length+1:Nat):Int),(fpK (q+1) (k%2^q) a b r).1.A,(fpK (q+1) (k%2^q) a b r).1.B)):=by
    have hpair:=Vh (k:=q+1) (i:=k%2^q) a b r om om
    simp only [ff,hsh,hh]
    rw [brd om,hR,obs,brd om,brd om,ak (2*(preR.length:Int)) om om,hA,obs,ak (2*(preR.length:Int)+1) om om,hB,obs,Jy (by simp),obs,hT,obs,hmod,show ([a.1,b.1]:List Ext).flatMap e8=xd a b from rfl,hcheck,obs]
    cases hc:(H (oD (k%2^q) (xd a b) p q)==rt) with
    |false=>exact .inl ⟨rfl,_,rfl⟩
    |true=>
     refine .inr ?_
     rw [aH,bf]
     by_cases hlow:k<2^q
     ·have hown:(if 2^q<=k then b else a)=a:=aa om
      rw [hown,brn om]
      cases due with
      |none=>
       refine .inr ⟨rfl,(by rintro ⟨d,h,_⟩;cases h), ?_⟩
       rw [brn (by have:=hd.1 rfl;omega),hD,obs,hpair,obs,ak _ om om];rfl
      |some d=>
       rw [brd (by have:preR.length≠0:=fun e=>by cases hd.2 e
                   omega)]
       rw [show (BI (some d))=d.1 from rfl,HW]
       by_cases e:a=d
       ·rw [ae e]
        refine .inr ⟨rfl,by rintro ⟨x,h,h'⟩;cases h;exact h' e, ?_⟩
        rw [hD,obs,hpair,obs,ak _ om om];rfl
       ·rw [aa e]
        exact .inl ⟨rfl,⟨d,rfl,e⟩,_,rfl⟩
     ·have hown:(if 2^q<=k then b else a)=b:=ae om
      rw [hown,brd om]
      cases due with
      |none=>
       refine .inr ⟨rfl,(by rintro ⟨d,h,_⟩;cases h), ?_⟩
       rw [brn (by have:=hd.1 rfl;omega),hD,obs,hpair,obs,ak _ om om];rfl
      |some d=>
       rw [brd (by have:preR.length≠0:=fun e=>by cases hd.2 e
                   omega)]
       rw [show (BI (some d))=d.1 from rfl,HW]
       by_cases e:b=d
       ·rw [ae e]
        refine .inr ⟨rfl,by rintro ⟨x,h,h'⟩;cases h;exact h' e, ?_⟩
        rw [hD,obs,hpair,obs,ak _ om om];rfl
       ·rw [aa e]
        exact .inl ⟨rfl,⟨d,rfl,e⟩,_,rfl⟩
   rw [qcK,j7]
   rcases hstep with ⟨hc,e,he⟩|⟨hc,ho,e,he⟩|⟨hc,ho,he⟩
   ·rw [ae hc,bZ he,obs,l6]
   ·rw [aa (by rw [hc];simp),ae ho,bZ he,obs,nT,l6]
   ·rw [aa (by rw [hc];simp),aa ho,cf he];exact ih
end
section
def flB (P:List (List (List UInt8))):List UInt8:=P.flatMap fun x=>x.flatMap id
structure BoO (o:Opening):Prop where
 rn:o.Rounds.length<=6
 rr: ∀g∈o.Rounds,g.length<=3
 ro:o.Roots.length<=6
 rh: ∀x∈o.Roots,x.length<=32
 qn:o.Queries.length<=8
 qp: ∀q∈o.Queries,q.Pairs.length<=12
 qt: ∀q∈o.Queries,q.Paths.length<=6
 qq: ∀q∈o.Queries, ∀p∈q.Paths,p.length<=8/\ ∀x∈p,x.length<=32
theorem b9z {l:List (List UInt8)}:l.all h32=true↔ ∀x∈l,x.length=32:=by simp [aB,h32]
theorem MN {v:Nat} {t:Setting} {q:Query} (h:L0 (v:Int) t q=true):q.Pairs.length=2*v/\hG q.Pairs/\q.Paths.length=v/\ ∀j,j<v->(((q.Paths.getD j []).length:Nat):Int)=v+t.Rate-1-j/\ ∀x∈q.Paths.getD j [],x.length=32:=by
 unfold L0 at h
 simp only [aC,aG] at h
 refine ⟨by omega,b8U.1 h.2.1,by omega,fun j hj=> ?_⟩
 have:=wc.1 h.2.2.2 j om
 unfold a2m at this
 simp only [aC,aG] at this
 exact ⟨this.1,b9z.1 this.2⟩
structure OkO (o:Opening) (v:Nat) (t:Setting):Prop where
 v1:1<=v/\v<=6
 st:setB t=true
 rn:o.Rounds.length=v
 rr: ∀g∈o.Rounds,g.length=3/\hG g
 ro:o.Roots.length=v-1
 rh: ∀x∈o.Roots,x.length=32
 la:okE o.Last
 no:0<=o.Nonce/\o.Nonce<=65535
 qn:(o.Queries.length:Int)=t.Queries
 qq: ∀q∈o.Queries,L0 (v:Int) t q=true
theorem a9w {o:Opening} {v:Nat} {t:Setting} (h:okO o (v:Int) t=true):OkO o v t:=by
 unfold okO Fc at h
 simp only [aC,aG,aB] at h
 obtain ⟨h1,h2,⟨h3,h4⟩,h5,h6,h7,h8,h9,h10⟩:=h
 refine ⟨by omega,h2,by omega,fun g hg=> ?_,by omega,fun x hx=> ?_,LO.1 h7,h8,h9,h10⟩
 ·have:=h4 g hg
  unfold vZ at this
  simp only [aC,aG] at this
  exact ⟨by omega,b8U.1 this.2⟩
 ·have:=h6 x hx
  simpa [h32] using this
theorem BoO.sm {o:Opening} (h:BoO o):SmO o:=⟨by have:=h.rn;omega,fun g hg=>by have:=h.rr g hg;omega,by have:=h.ro;omega,by have:=h.qn;omega,fun q hq=>by have:=h.qp q hq;omega,fun q hq p hp=>by have:=(h.qq q hq p hp).1;omega⟩
variable {o:Opening} {v:Nat} {t:Setting}
end
section
theorem Xx: ∀(A B preA preB:List K) (acc:K),A.length=B.length->preA.length=preB.length->preA.length+A.length<=100->
 Loop (kI (kv (preA++A)) (kv (preB++B)) 0 0) ((preA.length:Int),acc.1.A,acc.1.B)=some (((preA++A).length:Int),false,(eaK A B acc).1.A,(eaK A B acc).1.B)
 |[],B,preA,preB,acc,h1,h2,h3=>by
  refine bZ ?_
  simp only [kI,ci]
  rw [brn (by simp),ag (by simp)];simp [eaK]
 |x::A,[],preA,preB,acc,h1,h2,h3=>by simp at h1
 |x::A,b::B,preA,preB,acc,h1,h2,h3=>by
  rw [ah,ah] at h1
  rw [ah] at h3
  have ih:=Xx A B (preA++[x]) (preB++[b]) (acc*(x*b+(1-x)*(1-b))) om (by rw [ab,ab,am,am];omega) (by rw [ab,am];omega)
  rw [ba,ba,aU,aU,show (preA++[x]).length=preA.length+1 by simp] at ih
  have hx:atL (kv (preA++x::A)) (preA.length:Int)=some x.1:=by rw [Bt];exact nE (by rw [ci])
  have hb:atL (kv (preB++b::B)) (preA.length:Int)=some b.1:=by rw [Bt];exact nE (by rw [ci];omega)
  rw [cf (s':=(((preA.length+1:Nat):Int),(acc*(x*b+(1-x)*(1-b))).1.A,(acc*(x*b+(1-x)*(1-b))).1.B)) ?_]
  ·rw [ih];rfl
  ·simp only [kI,ci]
   rw [brd (by rw [ab,ah];omega),hx,obs,hb,obs,fE x.2 b.2,obs,obs,HQ x.2,obs,obs,HQ b.2,obs,fE (yF _ _) (yF _ _),obs,lS (rY _ _) (rY _ _),obs,show Ext.mk acc.1.A acc.1.B=acc.1 from rfl,fE acc.2 (Xh _ _),obs,ak _ om om];rfl
theorem a8h {A B:List K} (h:A.length=B.length) (hl:A.length<=100):uc (kv A) (kv B)=some (eaK A B 1).1:=by
 have:=Xx A B [] [] 1 h rfl (by rw [ai];omega)
 unfold uc
 rw [TF,obs]
 rw [bj,bj,ai] at this
 have key:Loop (kI (kv A) (kv B) 0 0) (0,e1.A,e1.B)=_:=this
 rw [key];rfl
theorem XO: ∀(A B preA preB:List K) (acc:K),A.length=B.length->preA.length=preB.length->preA.length+A.length<=100->
 Loop (rD (kv (preB++B)) (kv (preA++A)) ((preA++A).length:Int) 0 0) ((preA.length:Int),acc.1.A,acc.1.B)=some (((preA++A).length:Int),false,(eaK A B acc).1.A,(eaK A B acc).1.B)
 |[],B,preA,preB,acc,h1,h2,h3=>by
  refine bZ ?_
  simp only [rD]
  rw [brn (by simp),ag (by simp)];simp [eaK]
 |x::A,[],preA,preB,acc,h1,h2,h3=>by simp at h1
 |x::A,b::B,preA,preB,acc,h1,h2,h3=>by
  rw [ah,ah] at h1
  rw [ah] at h3
  have ih:=XO A B (preA++[x]) (preB++[b]) (acc*(x*b+(1-x)*(1-b))) om (by rw [ab,ab,am,am];omega) (by rw [ab,am];omega)
  rw [ba,ba,aU,aU,show (preA++[x]).length=preA.length+1 by simp] at ih
  have hx:atL (kv (preA++x::A)) (preA.length:Int)=some x.1:=by rw [Bt];exact nE (by rw [ci])
  have hb:atL (kv (preB++b::B)) (preA.length:Int)=some b.1:=by rw [Bt];exact nE (by rw [ci];omega)
  rw [cf (s':=(((preA.length+1:Nat):Int),(acc*(x*b+(1-x)*(1-b))).1.A,(acc*(x*b+(1-x)*(1-b))).1.B)) ?_]
  ·rw [ih];rfl
  ·simp only [rD]
   rw [brd (by rw [ab,ah];omega),hx,obs,hb,obs,fR x.2 b.2,obs,LK,obs,rE a1Y x.2,obs,obs,obs,rE a1Y b.2,obs,fR (yF _ _) (yF _ _),obs,lZ (rY _ _) (rY _ _),obs,show Ext.mk acc.1.A acc.1.B=acc.1 from rfl,fR acc.2 (Xh _ _),obs,ak _ om om];rfl
theorem a7O {A B:List K} (h:A.length=B.length) (hl:A.length<=100):Kr (kv A) (kv B)=some (eaK A B 1).1:=by
 have:=XO A B [] [] 1 h rfl (by rw [ai];omega)
 unfold Kr
 rw [LK,obs,ci]
 rw [bj,bj,ai] at this
 have key:Loop (rD (kv B) (kv A) (A.length:Int) 0 0) (0,e1.A,e1.B)=_:=this
 rw [key];rfl
theorem c2a {L:List Ext} (h:hG L):kv (L.map toK)=L:=by
 rw [kv,jr]
 refine (cC fun x hx=> ?_).trans (List.map_id _)
 exact ml (h x hx)
theorem b5N: ∀(n m:Nat) (rts:List (List UInt8)) (prs:List K) (pths:List (List (List UInt8))) (D:List K),n<=m->rts.length=n->prs.length=2*n->pths.length=n->D.length=n->(∀j,j<n->(pths.getD j []).length=m-1-j/\ ∀x∈pths.getD j [],x.length=32)->QSh m rts prs pths D
 |0,m,[],[],[],[],_,_,_,_,_,_=>trivial
 |0,m,_::_,_,_,_,_,h,_,_,_,_=>by simp at h
 |0,m,_,_::_,_,_,_,_,h,_,_,_=>by simp at h
 |0,m,_,_,_::_,_,_,_,_,h,_,_=>by simp at h
 |0,m,_,_,_,_::_,_,_,_,_,h,_=>by simp at h
 |n+1,m,rts,prs,pths,D,hm,h1,h2,h3,h4,h5=>by
  match rts,prs,pths,D,h1,h2,h3,h4 with
  |rt::rts,a::b::prs,p::pths,r::D,h1,h2,h3,h4=>
   simp only [ah] at h1 h2 h3 h4
   have h0:=h5 0 om
   exact ⟨by omega,by have:=h0.1;simpa using this,fun x hx=>h0.2 x hx,b5N n (m-1) rts prs pths D om om om om om fun j hj=>by
    have:=h5 (j+1) om
    exact ⟨this.1.trans om,this.2⟩⟩
  |[],_,_,_,h1,_,_,_=>simp at h1
  |_::_,[],_,_,_,h2,_,_=>simp at h2
  |_::_,[_],_,_,_,h2,_,_=>simp at h2;omega
  |_::_,_::_::_,[],_,_,_,h3,_=>simp at h3
  |_::_,_::_::_,_::_,[],_,_,_,h4=>simp at h4
variable {o:Opening} {v ρ:Nat} {t:Setting} {root:List UInt8} {D:List K} {q:Query}
theorem c0g (h:OkO o v t) (e1:t.Rate=(ρ:Int)) (hD:D.length=v) (hq:q∈o.Queries):QSh (v+ρ) (root::o.Roots) (q.Pairs.map toK) q.Paths D:=by
 obtain ⟨h1,h2,h3,h4⟩:=MN (h.qq q hq)
 have hv:=h.v1
 have hs:=xn h.st
 have hr:=h.ro
 exact b5N v (v+ρ) _ _ _ _ om (by rw [ah];omega) (by rw [aM,h1]) h3 hD fun j hj=>by
  have:=h4 j hj
  exact ⟨by omega,this.2⟩
theorem a5S (h:OkO o v t) (e1:t.Rate=(ρ:Int)) (hD:D.length=v) (hq:q∈o.Queries) {p:Int} (h0:0<=p) (hp:p<512):
 Dn (root::o.Roots) (v:Int) ((2^(v+ρ):Nat):Int) p (kv D) o q=some (qcK (toK o.Last) (v+ρ) (root::o.Roots) (q.Pairs.map toK) q.Paths D p.toNat none):=by
 have hs:=xn h.st
 have hv:=h.v1
 have hr:=h.ro
 have key:=WI (l:=toK o.Last) (V:=(v:Int)) (c:=o.Rounds) (c2:=o.Roots) (c3:=o.Last.A) (c4:=o.Last.B) (c5:=o.Nonce) (c6:=o.Queries) (root::o.Roots) (q.Pairs.map toK) q.Paths D (v+ρ) [] [] [] [] p.toNat none (c0g h e1 hD hq) om rfl rfl rfl (by rw [ai,ah];omega) (by rw [ai,ah];omega) om (by simp) (by simp)
 simp only [bj,ai,c2a (MN (h.qq q hq)).2.1,ez h0,ml h.la] at key
 exact key
theorem a5P (h:OkO o v t) (e1:t.Rate=(ρ:Int)) (hD:D.length=v) (hq:q∈o.Queries) {p:Int} (h0:0<=p) (hp:p<512):
 xh (root::o.Roots) (kv D) ((2^(v+ρ):Nat):Int) p o q=some (qcK (toK o.Last) (v+ρ) (root::o.Roots) (q.Pairs.map toK) q.Paths D p.toNat none):=by
 have hs:=xn h.st
 have hv:=h.v1
 have hr:=h.ro
 have key:=XB (l:=toK o.Last) (M:=v+ρ) (V:=(((root::o.Roots).length:Nat):Int)) (c:=o.Rounds) (c2:=o.Roots) (c3:=o.Last.A) (c4:=o.Last.B) (c5:=o.Nonce) (c6:=o.Queries) (root::o.Roots) (q.Pairs.map toK) q.Paths D (v+ρ) [] [] [] [] p.toNat none (c0g h e1 hD hq) om rfl rfl rfl rfl (by rw [ai];omega) (by rw [ai,ah];omega) om (by simp) (by simp)
 simp only [bj,ai,c2a (MN (h.qq q hq)).2.1,ez h0,ml h.la] at key
 exact key
end
section
theorem Sx {v:Nat} {V:Int} {rts l:List (List UInt8)} {t2:List Ext} {c c2 c3 c4 c5 c8 c9 c10 c16 c18:Int} {c11:List Query} {c17:List UInt8} (hV:V=(v:Int)) (hrl:rts.length+1=v) (hrh: ∀x∈rts,x.length=32): ∀(R pre:List (List K)) (cl:K) (s:Source) (k:Int) (P:List Ext),(∀g∈R,g.length=3)->Few s k->k+3*R.length<=999890->P.length+R.length<=1000->pre.length+R.length=v->v<=100->
 ((vfM 1 (bvO v rts) R pre.length cl s).1=0->Loop (eY l V t2 c c2 c3 c4 c5 (kvv (pre++R)) rts c8 c9 c10 c11 c16 c17 c18) (P,(pre.length:Int),s.Script,s.At,s.State,s.Count,cl.1.A,cl.1.B)=
   some (.inr (P++kv (vfM 1 (bvO v rts) R pre.length cl s).2.1,V,false,(vfM 1 (bvO v rts) R pre.length cl s).2.2.2.Script,(vfM 1 (bvO v rts) R pre.length cl s).2.2.2.At,(vfM 1 (bvO v rts) R pre.length cl s).2.2.2.State,(vfM 1 (bvO v rts) R pre.length cl s).2.2.2.Count,
    (vfM 1 (bvO v rts) R pre.length cl s).2.2.1.1.A,(vfM 1 (bvO v rts) R pre.length cl s).2.2.1.1.B)))/\
 ((vfM 1 (bvO v rts) R pre.length cl s).1≠0->(vfM 1 (bvO v rts) R pre.length cl s).1=10/\ ∃e,Loop (eY l V t2 c c2 c3 c4 c5 (kvv (pre++R)) rts c8 c9 c10 c11 c16 c17 c18) (P,(pre.length:Int),s.Script,s.At,s.State,s.Count,cl.1.A,cl.1.B)=some (.inl e))
 |[],pre,cl,s,k,P,hg,hf,hk,hP,hp,hv=>by
  rw [ai] at hp
  refine ⟨fun _=>bZ ?_,fun h=>absurd rfl h⟩
  simp only [eY,bW]
  rw [brn om,ag om]
  simp [vfM,kv];omega
 |g::R,pre,cl,s,k,P,hg,hf,hk,hP,hp,hv=>by
  rw [ah] at hk hP hp
  have hgl:=hg g (by simp)
  have hat:atL (kvv (pre++g::R)) (pre.length:Int)=some (kv g):=by rw [a1l (by simp)];simp
  have hk0:0<=k:=by have:=hf.2;have:=hf.1.4;omega
  rw [vfM,ae (show g.length=1+2 from hgl)]
  by_cases h2:g.getD 0 0+g.getD 1 0=cl
  ·rw [ae h2]
   have hfb:Few (bvO v rts pre.length (nsM s g)) (k+2+1):=a09 v rts _ _ _ (KB hf om g) om
   have ih:=Sx (l:=l) (t2:=t2) (c:=c) (c2:=c2) (c3:=c3) (c4:=c4) (c5:=c5) (c8:=c8) (c9:=c9) (c10:=c10) (c11:=c11) (c16:=c16) (c17:=c17) (c18:=c18) hV hrl hrh R (pre++[g]) (lnK g (rdM s g)) (bvO v rts pre.length (nsM s g)) (k+2+1) (P++[(rdM s g).1]) (fun x hx=>hg x (by simp [hx])) hfb om (by rw [ab,am];omega) (by rw [ab,am];omega) hv
   rw [ba,aU,ab,am] at ih
   have step:eY l V t2 c c2 c3 c4 c5 (kvv (pre++g::R)) rts c8 c9 c10 c11 c16 c17 c18 (P,(pre.length:Int),s.Script,s.At,s.State,s.Count,cl.1.A,cl.1.B)=
    some (.inl (P++[(rdM s g).1],((pre.length+1:Nat):Int),(bvO v rts pre.length (nsM s g)).Script,(bvO v rts pre.length (nsM s g)).At,(bvO v rts pre.length (nsM s g)).State,(bvO v rts pre.length (nsM s g)).Count,(lnK g (rdM s g)).1.A,(lnK g (rdM s g)).1.B)):=by
    simp only [eY]
    rw [brd om,hat,obs,atK (i:=0) (j:=0) rfl om,obs,atK (i:=1) (j:=1) rfl om,obs,lS (aI _) (aI _),obs]
    rw [show eA (g.getD 0 0).1 (g.getD 1 0).1=cl.1 from congrArg Subtype.val h2,bre rfl,bre rfl,show Source.mk s.Script s.At s.State s.Count=s from rfl,R2 hf.1 om,obs,c0e hf,obs]
    dsimp only
    rw [Xk _ om,obs,bw (by rw [ab,am];omega),ak _ om om]
    by_cases hb:pre.length+1<v
    ·have hx:rts.getD pre.length []∈rts:=by simp [show pre.length<rts.length by omega]
     rw [brd om,rd (d:=[]) om,obs,vN (KB hf om g).1.3 (by rw [hrh _ hx];omega),obs,bvO,ae hb];rfl
    ·rw [brn om,bvO,aa hb];rfl
   refine ⟨fun h=> ?_,fun h=> ?_⟩
   ·rw [cf step,ih.1 h]
    simp [kv]
   ·obtain ⟨h10,e,he⟩:=ih.2 h
    exact ⟨h10,e,by rw [cf step,he]⟩
  ·rw [aa h2]
   refine ⟨fun h=>absurd (show (10:Int)=0 from h) (by decide),fun _=>⟨rfl,(P,s.Script,s.At,s.State,s.Count,s.Script,s.At,s.State,s.Count,cl.1.A,cl.1.B),bZ ?_⟩⟩
   simp only [eY]
   rw [brd om,hat,obs,atK (i:=0) (j:=0) rfl om,obs,atK (i:=1) (j:=1) rfl om,obs,lS (aI _) (aI _),obs]
   rw [show eA (g.getD 0 0).1 (g.getD 1 0).1=(g.getD 0 0+g.getD 1 0).1 from rfl,HW,aa h2]
theorem Tn {v:Nat} {V:Int} {rts:List (List UInt8)} {c6:List (List Ext)} {c8 c9 c10 c14 c15:Int} {c11:List Query} (hV:V=(v:Int)) (hrl:rts.length+1=v) (hrh: ∀x∈rts,x.length=32): ∀(R pre:List (List K)) (cl:K) (s:Source) (k:Int) (P:List Ext),(∀g∈R,g.length=3)->Few s k->k+3*R.length<=999890->P.length+R.length<=1000->pre.length+R.length=v->v<=100->
 ((vfM 1 (bvO v rts) R pre.length cl s).1=0->Loop (bo 1 (kvv (pre++R)) V c14 c15) (P,(pre.length:Int),s.Script,s.At,s.State,s.Count,V,c6,rts,c8,c9,c10,c11,cl.1.A,cl.1.B)=
   some (.inr (P++kv (vfM 1 (bvO v rts) R pre.length cl s).2.1,V,false,(vfM 1 (bvO v rts) R pre.length cl s).2.2.2.Script,(vfM 1 (bvO v rts) R pre.length cl s).2.2.2.At,(vfM 1 (bvO v rts) R pre.length cl s).2.2.2.State,(vfM 1 (bvO v rts) R pre.length cl s).2.2.2.Count,V,c6,rts,c8,c9,c10,c11,
    (vfM 1 (bvO v rts) R pre.length cl s).2.2.1.1.A,(vfM 1 (bvO v rts) R pre.length cl s).2.2.1.1.B)))/\
 ((vfM 1 (bvO v rts) R pre.length cl s).1≠0->(vfM 1 (bvO v rts) R pre.length cl s).1=10/\ ∃e:List Ext×Int×List Ext×Int×List UInt8×Int×Int×List (List Ext)×List (List UInt8)×Int×Int×Int×List Query×Int×Int,e.2.1=10/\Loop (bo 1 (kvv (pre++R)) V c14 c15) (P,(pre.length:Int),s.Script,s.At,s.State,s.Count,V,c6,rts,c8,c9,c10,c11,cl.1.A,cl.1.B)=some (.inl e))
 |[],pre,cl,s,k,P,hg,hf,hk,hP,hp,hv=>by
  rw [ai] at hp
  refine ⟨fun _=>bZ ?_,fun h=>absurd rfl h⟩
  simp only [bo,bW]
  rw [brn om,ag om]
  simp [vfM,kv];omega
 |g::R,pre,cl,s,k,P,hg,hf,hk,hP,hp,hv=>by
  rw [ah] at hk hP hp
  have hgl:=hg g (by simp)
  have hdg:rm 1=some ((2:Nat):Int):=AE (kind:=1) (.inl rfl)
  have hat:atL (kvv (pre++g::R)) (pre.length:Int)=some (kv g):=by rw [a1l (by simp)];simp
  have hk0:0<=k:=by have:=hf.2;have:=hf.1.4;omega
  rw [vfM,ae (show g.length=1+2 from hgl)]
  by_cases h2:g.getD 0 0+g.getD 1 0=cl
  ·rw [ae h2]
   have hfb:Few (bvO v rts pre.length (nsM s g)) (k+2+1):=a09 v rts _ _ _ (KB hf om g) om
   have ih:=Tn (c6:=c6) (c8:=c8) (c9:=c9) (c10:=c10) (c11:=c11) (c14:=c14) (c15:=c15) hV hrl hrh R (pre++[g]) (lnK g (rdM s g)) (bvO v rts pre.length (nsM s g)) (k+2+1) (P++[(rdM s g).1]) (fun x hx=>hg x (by simp [hx])) hfb om (by rw [ab,am];omega) (by rw [ab,am];omega) hv
   rw [ba,aU,ab,am] at ih
   have step:bo 1 (kvv (pre++g::R)) V c14 c15 (P,(pre.length:Int),s.Script,s.At,s.State,s.Count,V,c6,rts,c8,c9,c10,c11,cl.1.A,cl.1.B)=
    some (.inl (P++[(rdM s g).1],((pre.length+1:Nat):Int),(bvO v rts pre.length (nsM s g)).Script,(bvO v rts pre.length (nsM s g)).At,(bvO v rts pre.length (nsM s g)).State,(bvO v rts pre.length (nsM s g)).Count,V,c6,rts,c8,c9,c10,c11,(lnK g (rdM s g)).1.A,(lnK g (rdM s g)).1.B)):=by
    simp only [bo,lz]
    rw [brd om,hat,obs,hdg,obs,ak _ om om,fq (by rw [ci];omega),atK (i:=0) (j:=0) rfl om,obs,atK (i:=1) (j:=1) rfl om,obs,lZ (aI _) (aI _),obs]
    rw [show eA (g.getD 0 0).1 (g.getD 1 0).1=cl.1 from congrArg Subtype.val h2,bre rfl,bre rfl,show Source.mk s.Script s.At s.State s.Count=s from rfl,Sk hf.1 om,obs,c0d hf,obs]
    dsimp only
    rw [NN _ om,obs,bw (by rw [ab,am];omega),ak (V-1) om om,ak ((pre.length:Int)+1) om om]
    by_cases hb:pre.length+1<v
    ·have hx:rts.getD pre.length []∈rts:=by simp [show pre.length<rts.length by omega]
     rw [brd om,rd (d:=[]) om,obs,bw (by rw [hrh _ hx];omega),vQ (KB hf om g).1.3 (by rw [hrh _ hx];omega),obs,obs,bvO,ae hb];rfl
    ·rw [brn om,obs,bvO,aa hb];rfl
   refine ⟨fun h=> ?_,fun h=> ?_⟩
   ·rw [cf step,ih.1 h]
    simp [kv]
   ·obtain ⟨h10,e,h1,he⟩:=ih.2 h
    exact ⟨h10,e,h1,by rw [cf step,he]⟩
  ·rw [aa h2]
   refine ⟨fun h=>absurd (show (10:Int)=0 from h) (by decide),fun _=>⟨rfl,(P,10,s.Script,s.At,s.State,s.Count,V,c6,rts,c8,c9,c10,c11,cl.1.A,cl.1.B),rfl,bZ ?_⟩⟩
   simp only [bo,lz]
   rw [brd om,hat,obs,hdg,obs,ak _ om om,fq (by rw [ci];omega),atK (i:=0) (j:=0) rfl om,obs,atK (i:=1) (j:=1) rfl om,obs,lZ (aI _) (aI _),obs]
   rw [show eA (g.getD 0 0).1 (g.getD 1 0).1=(g.getD 0 0+g.getD 1 0).1 from rfl,HW,aa h2]
end
section
variable {o:Opening} {v ρ nq bits:Nat} {t:Setting} {root:List UInt8} {D P:List K} {s:Source} {k:Int}
theorem Xj {c21 c22 c23 c24 c25 c33 c35 c36 c38 c39 c40:Int} {c32:List Ext} {c34 c37:List UInt8} (h:OkO o v t) (e1:t.Rate=(ρ:Int)) (hD:D.length=v): ∀(ps:List Int) (qs:List Query) (preP:List Int) (preQ:List Query),o.Queries=preQ++qs->preP.length=preQ.length->ps.length=qs.length->preP.length+ps.length<=100->(∀p∈ps,0<=p/\p<512)->
 (qsC (toK o.Last) (v+ρ) (root::o.Roots) D ps qs=0->Loop (iy (root::o.Roots) (kv D) (v:Int) ((2^(v+ρ):Nat):Int) (preP++ps) c21 c22 c23 c24 c25 o.Rounds o.Roots o.Last.A o.Last.B o.Nonce o.Queries c32 c33 c34 c35 c36 c37 c38 c39 c40) (preP.length:Int)=some (.inr (((preP++ps).length:Int),false)))/\
 (qsC (toK o.Last) (v+ρ) (root::o.Roots) D ps qs≠0->Loop (iy (root::o.Roots) (kv D) (v:Int) ((2^(v+ρ):Nat):Int) (preP++ps) c21 c22 c23 c24 c25 o.Rounds o.Roots o.Last.A o.Last.B o.Nonce o.Queries c32 c33 c34 c35 c36 c37 c38 c39 c40) (preP.length:Int)=some (.inl (qsC (toK o.Last) (v+ρ) (root::o.Roots) D ps qs)))
 |[],qs,preP,preQ,hQ,h1,h2,h3,hp=>by
  refine ⟨fun _=>bZ ?_,fun h=>absurd (by cases qs<;>rfl) h⟩
  simp only [iy]
  rw [bW,brn om,ag om]
 |p::ps,[],preP,preQ,hQ,h1,h2,h3,hp=>by simp at h2
 |p::ps,q::qs,preP,preQ,hQ,h1,h2,h3,hp=>by
  rw [ah] at h3
  have hp0:=hp p (by simp)
  have hm:q∈o.Queries:=by rw [hQ];simp
  have hq:=a5S (root:=root) h e1 hD hm hp0.1 hp0.2
  have ih:=Xj (c21:=c21) (c22:=c22) (c23:=c23) (c24:=c24) (c25:=c25) (c32:=c32) (c33:=c33) (c34:=c34) (c35:=c35) (c36:=c36) (c37:=c37) (c38:=c38) (c39:=c39) (c40:=c40) h e1 hD ps qs (preP++[p]) (preQ++[q]) (by rw [hQ];simp) (by simp [h1]) (by simpa using h2) (by rw [ab,am];omega) (fun x hx=>hp x (by simp [hx]))
  rw [ba,aU,show (preP++[p]).length=preP.length+1 by simp] at ih
  have hs:iy (root::o.Roots) (kv D) (v:Int) ((2^(v+ρ):Nat):Int) (preP++p::ps) c21 c22 c23 c24 c25 o.Rounds o.Roots o.Last.A o.Last.B o.Nonce o.Queries c32 c33 c34 c35 c36 c37 c38 c39 c40 (preP.length:Int)=
   br (qcK (toK o.Last) (v+ρ) (root::o.Roots) (q.Pairs.map toK) q.Paths D p.toNat none !=0) (some (.inr (.inl (qcK (toK o.Last) (v+ρ) (root::o.Roots) (q.Pairs.map toK) q.Paths D p.toNat none)))) (some (.inl ((preP.length+1:Nat):Int))):=by
   simp only [iy]
   rw [brd (by rw [ab,ah];omega),nE rfl,obs,show atL o.Queries (preP.length:Int)=some q by rw [hQ];exact nE om,obs,show Opening.mk o.Rounds o.Roots (Ext.mk o.Last.A o.Last.B) o.Nonce o.Queries=o from rfl,hq,obs,ak _ om om];rfl
  rw [qsC]
  by_cases hz:qcK (toK o.Last) (v+ρ) (root::o.Roots) (q.Pairs.map toK) q.Paths D p.toNat none=0
  ·rw [ae hz]
   rw [fq hz] at hs
   rw [cf hs];exact ih
  ·rw [aa hz]
   rw [brb hz] at hs
   exact ⟨fun h=>absurd h hz,fun _=>bZ hs⟩
theorem WO {c2 c4 c5 c6 c7 c8 c9 c16 c17 c18 N:Int} {c:List Ext} {c3:List UInt8} (h:OkO o v t) (e1:t.Rate=(ρ:Int)) (hD:D.length=v): ∀(ps:List Int) (qs:List Query) (preP:List Int) (preQ:List Query),o.Queries=preQ++qs->preP.length=preQ.length->ps.length=qs.length->preP.length+ps.length<=100->(∀p∈ps,0<=p/\p<512)->N=((preP++ps).length:Int)->
 (qsC (toK o.Last) (v+ρ) (root::o.Roots) D ps qs=0->Loop (fb (root::o.Roots) (kv D) ((2^(v+ρ):Nat):Int) (preP++ps) N c c2 c3 c4 c5 c6 c7 c8 c9 o.Rounds o.Roots o.Last.A o.Last.B o.Nonce o.Queries c16 c17 c18) (preP.length:Int)=some (.inr (N,false)))/\
 (qsC (toK o.Last) (v+ρ) (root::o.Roots) D ps qs≠0->Loop (fb (root::o.Roots) (kv D) ((2^(v+ρ):Nat):Int) (preP++ps) N c c2 c3 c4 c5 c6 c7 c8 c9 o.Rounds o.Roots o.Last.A o.Last.B o.Nonce o.Queries c16 c17 c18) (preP.length:Int)=some (.inl (qsC (toK o.Last) (v+ρ) (root::o.Roots) D ps qs)))
 |[],qs,preP,preQ,hQ,h1,h2,h3,hp,hN=>by
  rw [bW] at hN
  refine ⟨fun _=>bZ ?_,fun h=>absurd (by cases qs<;>rfl) h⟩
  simp only [fb]
  rw [brn om,ag om,hN]
 |p::ps,[],preP,preQ,hQ,h1,h2,h3,hp,hN=>by simp at h2
 |p::ps,q::qs,preP,preQ,hQ,h1,h2,h3,hp,hN=>by
  rw [ah] at h3
  have hp0:=hp p (by simp)
  have hm:q∈o.Queries:=by rw [hQ];simp
  have hq:=a5P (root:=root) h e1 hD hm hp0.1 hp0.2
  have ih:=WO (N:=N) (c:=c) (c2:=c2) (c3:=c3) (c4:=c4) (c5:=c5) (c6:=c6) (c7:=c7) (c8:=c8) (c9:=c9) (c16:=c16) (c17:=c17) (c18:=c18) h e1 hD ps qs (preP++[p]) (preQ++[q]) (by rw [hQ];simp) (by simp [h1]) (by simpa using h2) (by rw [ab,am];omega) (fun x hx=>hp x (by simp [hx])) (by rw [hN];simp)
  rw [ba,aU,show (preP++[p]).length=preP.length+1 by simp] at ih
  have hs:fb (root::o.Roots) (kv D) ((2^(v+ρ):Nat):Int) (preP++p::ps) N c c2 c3 c4 c5 c6 c7 c8 c9 o.Rounds o.Roots o.Last.A o.Last.B o.Nonce o.Queries c16 c17 c18 (preP.length:Int)=
   br (qcK (toK o.Last) (v+ρ) (root::o.Roots) (q.Pairs.map toK) q.Paths D p.toNat none !=0) (some (.inr (.inl (qcK (toK o.Last) (v+ρ) (root::o.Roots) (q.Pairs.map toK) q.Paths D p.toNat none)))) (some (.inl ((preP.length+1:Nat):Int))):=by
   simp only [fb]
   rw [brd (by rw [hN,ab,ah];omega),nE rfl,obs,show atL o.Queries (preP.length:Int)=some q by rw [hQ];exact nE om,obs,show Opening.mk o.Rounds o.Roots (Ext.mk o.Last.A o.Last.B) o.Nonce o.Queries=o from rfl,hq,obs,ak _ om om];rfl
  rw [qsC]
  by_cases hz:qcK (toK o.Last) (v+ρ) (root::o.Roots) (q.Pairs.map toK) q.Paths D p.toNat none=0
  ·rw [ae hz]
   rw [fq hz] at hs
   rw [cf hs];exact ih
  ·rw [aa hz]
   rw [brb hz] at hs
   exact ⟨fun h=>absurd h hz,fun _=>bZ hs⟩
def FY (o:Opening):List (List K):=o.Rounds.map fun g=>g.map toK
theorem a8L (h:OkO o v t):kvv (FY o)=o.Rounds:=by
 rw [kvv,FY,jr]
 refine (cC fun g hg=> ?_).trans (List.map_id _)
 exact c2a (h.rr g hg).2
end
section
variable {o:Opening} {v ρ nq bits:Nat} {t:Setting} {root:List UInt8} {P:List K} {cl:K} {s:Source} {k:Int}
noncomputable def vfO (v:Nat) (o:Opening) (cl:K) (s:Source):Int×List K×K×Source:=vfM 1 (bvO v o.Roots) (FY o) 0 cl s
noncomputable def chO (v ρ nq bits:Nat) (root:List UInt8) (P:List K) (cl:K) (o:Opening) (s:Source):Int:=chC (v+ρ) bits nq root P o.Roots (toK o.Last) o.Nonce o.Queries (vfO v o cl s)
theorem a7i (h:OkO o v t) (hP:P.length=v) (e1:t.Rate=(ρ:Int)) (e2:t.Queries=(nq:Int)) (e3:t.Grind=(bits:Int)) (hf:Few s k) (hk:k<=999850):
 ∃src,yP root (v:Int) (kv P) cl.1 t o s=some (src,chO v ρ nq bits root P cl o s)/\(chO v ρ nq bits root P cl o s=0->src=chS nq (toK o.Last) o.Nonce (vfO v o cl s)):=by
 have hs:=xn h.st
 have hv:=h.v1
 have hro:=h.ro
 have hrn:=h.rn
 have hqn:=h.qn
 have hk0:0<=k:=by have:=hf.2;have:=hf.1.4;omega
 have hrl:(FY o).length=v:=by rw [FY,aM,hrn]
 have hr3: ∀g∈FY o,g.length=3:=fun g hg=>by
  obtain ⟨x,hx,rfl⟩:=bu.1 hg
  rw [aM,(h.rr x hx).1]
 obtain ⟨q,hq⟩: ∃q,v+ρ=q+1:=⟨v+ρ-1,by omega⟩
 have hpq:=a6S q om
 have hl:=Sx (V:=(v:Int)) (rts:=o.Roots) (l:=root::o.Roots) (t2:=kv P) (c:=cl.1.A) (c2:=cl.1.B) (c3:=t.Rate) (c4:=t.Queries) (c5:=t.Grind) (c8:=o.Last.A) (c9:=o.Last.B) (c10:=o.Nonce) (c11:=o.Queries) (c16:=0) (c17:=[]) (c18:=0) rfl om h.rh (FY o) [] cl s k [] hr3 hf om (by rw [ai];omega) (by rw [ai];omega) om
 rw [bj,bj,ai,a8L h] at hl
 have hvl:=RS (kind:=1) (bv:=bvO v o.Roots) (FY o) 0 cl s
 have hvf:=QE (kind:=1) (a09 v o.Roots) (FY o) 0 cl s k hf om
 rw [show vfM 1 (bvO v o.Roots) (FY o) 0 cl s=vfO v o cl s from rfl] at hl hvl hvf
 rw [hrl] at hvl hvf
 unfold yP
 rw [bw (by simp only [ab,am];omega),aU]
 unfold chO chC
 by_cases h0:(vfO v o cl s).1=0
 ·have key:Loop (eY (root::o.Roots) (v:Int) (kv P) cl.1.A cl.1.B t.Rate t.Queries t.Grind o.Rounds o.Roots o.Last.A o.Last.B o.Nonce o.Queries 0 [] 0) ([],0,s.Script,s.At,s.State,s.Count,cl.1.A,cl.1.B)=_:=hl.1 h0
  have hDl:=hvl h0
  rw [key,obs,nT,ae h0]
  dsimp only
  have hlast:o.Last=(toK o.Last).1:=(ml h.la).symm
  rw [a8h (by rw [hDl,hP]) om,obs,fE h.la (aI _),obs,show eM o.Last (eaK (vfO v o cl s).2.1 P 1).1=(toK o.Last*eaK (vfO v o cl s).2.1 P 1).1 by rw [K.mul_val, <-hlast],HW]
  by_cases h1:toK o.Last*eaK (vfO v o cl s).2.1 P 1=(vfO v o cl s).2.2.1
  ·rw [ae h1,ae h1]
   have hfS:Few (rsM (vfO v o cl s).2.2.2 [toK o.Last]) (k+3*v+1):=hvf.take _
   rw [show Source.mk (vfO v o cl s).2.2.2.Script (vfO v o cl s).2.2.2.At (vfO v o cl s).2.2.2.State (vfO v o cl s).2.2.2.Count=(vfO v o cl s).2.2.2 from rfl,show ([o.Last]:List Ext)=kv [toK o.Last] by rw [kv,List.map_singleton, <-hlast],R2 hvf.1 (by simp),obs,e3,b1l hfS.1.3 om,obs]
   cases h2:SZ (rsM (vfO v o cl s).2.2.2 [toK o.Last]).State bits o.Nonce with
   |false=>rw [dv,cO,aa (by simp)];exact ⟨_,rfl,fun h=>absurd h (by decide)⟩
   |true=>
    have hfT:Few (tkM (rsM (vfO v o cl s).2.2.2 [toK o.Last]) (iv o.Nonce)) (k+3*v+1+1):=hfS.take _
    have hpl: ∀x∈plM (drL (tkM (rsM (vfO v o cl s).2.2.2 [toK o.Last]) (iv o.Nonce)) nq) ((2^q:Nat):Int),0<=x/\x<512:=fun x hx=>by
     obtain ⟨y,hy,rfl⟩:=bu.1 hx
     have g0:=pO y.A (b:=((2^q:Nat):Int)) om
     have g1:=mL y.A (b:=((2^q:Nat):Int)) om
     have g2:=a6S (q+1) om
     have g3:2^(q+1)=2*2^q:=by rw [g8];omega
     omega
    have hsh:bG .i64 1 (((v+ρ:Nat)):Int)=((2^(v+ρ):Nat):Int):=RQ (v+ρ) om
    rw [aH,bf,ae rfl,zQ,obs,vN hfS.1.3 (by rw [dG];omega),obs,e1,ak ((v:Int)+(ρ:Int)) om om,eU _ om om,brd om,show (v:Int)+(ρ:Int)=((v+ρ:Nat):Int) by omega,hsh,hq,a8Y q om,e2,a4p hfT om om om,obs,j7]
    have hqs:=Xj (root:=root) (D:=(vfO v o cl s).2.1) (c21:=cl.1.A) (c22:=cl.1.B) (c23:=(ρ:Int)) (c24:=(nq:Int)) (c25:=t.Grind) (c32:=(drS (tkM (rsM (vfO v o cl s).2.2.2 [toK o.Last]) (iv o.Nonce)) nq).Script) (c33:=(drS (tkM (rsM (vfO v o cl s).2.2.2 [toK o.Last]) (iv o.Nonce)) nq).At) (c34:=(drS (tkM (rsM (vfO v o cl s).2.2.2 [toK o.Last]) (iv o.Nonce)) nq).State) (c35:=(drS (tkM (rsM (vfO v o cl s).2.2.2 [toK o.Last]) (iv o.Nonce)) nq).Count) (c36:=0) (c37:=[]) (c38:=0) (c39:=(vfO v o cl s).2.2.1.1.A) (c40:=(vfO v o cl s).2.2.1.1.B) h e1 hDl (plM (drL (tkM (rsM (vfO v o cl s).2.2.2 [toK o.Last]) (iv o.Nonce)) nq) ((2^q:Nat):Int)) o.Queries [] [] rfl rfl (by rw [plM,aM,oV];omega) (by rw [plM,aM,oV,ai];omega) hpl
    rw [bj,ai,hq,e3] at hqs
    by_cases h3:qsC (toK o.Last) (q+1) (root::o.Roots) (vfO v o cl s).2.1 (plM (drL (tkM (rsM (vfO v o cl s).2.2.2 [toK o.Last]) (iv o.Nonce)) nq) ((2^q:Nat):Int)) o.Queries=0
    ·have kk:=hqs.1 h3
     rw [show (((0:Nat):Int))=0 from rfl] at kk
     rw [kk,h3]
     exact ⟨_,rfl,fun _=>rfl⟩
    ·have kk:=hqs.2 h3
     rw [show (((0:Nat):Int))=0 from rfl] at kk
     rw [kk]
     exact ⟨_,rfl,fun h=>absurd h h3⟩
  ·rw [aa h1,aa h1]
   exact ⟨_,rfl,fun h=>absurd h (by decide)⟩
 ·obtain ⟨h10,e,he⟩:=hl.2 h0
  have key:Loop (eY (root::o.Roots) (v:Int) (kv P) cl.1.A cl.1.B t.Rate t.Queries t.Grind o.Rounds o.Roots o.Last.A o.Last.B o.Nonce o.Queries 0 [] 0) ([],0,s.Script,s.At,s.State,s.Count,cl.1.A,cl.1.B)=_:=he
  rw [key,obs,l6,aa h0,h10]
  exact ⟨_,rfl,fun h=>absurd h (by decide)⟩
end
section
variable {o:Opening} {v ρ nq bits:Nat} {t:Setting} {root:List UInt8} {P:List K} {cl:K} {s:Source} {k:Int}
theorem a6r (h:OkO o v t) (hP:P.length=v) (e1:t.Rate=(ρ:Int)) (e2:t.Queries=(nq:Int)) (e3:t.Grind=(bits:Int)) (hf:Few s k) (hk:k<=999850):
 ∃src,oo root (kv P) cl.1 t o s=some (chO v ρ nq bits root P cl o s,src)/\(chO v ρ nq bits root P cl o s=0->src=chS nq (toK o.Last) o.Nonce (vfO v o cl s)):=by
 have hs:=xn h.st
 have hv:=h.v1
 have hro:=h.ro
 have hrn:=h.rn
 have hqn:=h.qn
 have hk0:0<=k:=by have:=hf.2;have:=hf.1.4;omega
 have hrl:(FY o).length=v:=by rw [FY,aM,hrn]
 have hr3: ∀g∈FY o,g.length=3:=fun g hg=>by
  obtain ⟨x,hx,rfl⟩:=bu.1 hg
  rw [aM,(h.rr x hx).1]
 obtain ⟨q,hq⟩: ∃q,v+ρ=q+1:=⟨v+ρ-1,by omega⟩
 have hpq:=a6S q om
 have hl:=Tn (V:=(v:Int)) (rts:=o.Roots) (c6:=o.Rounds) (c8:=o.Last.A) (c9:=o.Last.B) (c10:=o.Nonce) (c11:=o.Queries) (c14:=0) (c15:=0) rfl om h.rh (FY o) [] cl s k [] hr3 hf om (by rw [ai];omega) (by rw [ai];omega) om
 rw [bj,bj,ai,a8L h] at hl
 have hvl:=RS (kind:=1) (bv:=bvO v o.Roots) (FY o) 0 cl s
 have hvf:=QE (kind:=1) (a09 v o.Roots) (FY o) 0 cl s k hf om
 rw [show vfM 1 (bvO v o.Roots) (FY o) 0 cl s=vfO v o cl s from rfl] at hl hvl hvf
 rw [hrl] at hvl hvf
 unfold oo dY
 rw [ci,hP,hrn]
 unfold chO chC
 by_cases h0:(vfO v o cl s).1=0
 ·have key:Loop (bo 1 o.Rounds (v:Int) 0 0) ([],0,s.Script,s.At,s.State,s.Count,(v:Int),o.Rounds,o.Roots,o.Last.A,o.Last.B,o.Nonce,o.Queries,cl.1.A,cl.1.B)=_:=hl.1 h0
  have hDl:=hvl h0
  rw [key,obs,nT,ae h0,obs]
  dsimp only
  rw [fq rfl]
  simp only [show Ext.mk o.Last.A o.Last.B=o.Last from rfl]
  have hlast:o.Last=(toK o.Last).1:=(ml h.la).symm
  rw [a7O (by rw [hDl,hP]) om,obs,fR h.la (aI _),obs,show eM o.Last (eaK (vfO v o cl s).2.1 P 1).1=(toK o.Last*eaK (vfO v o cl s).2.1 P 1).1 by rw [K.mul_val, <-hlast],HW]
  by_cases h1:toK o.Last*eaK (vfO v o cl s).2.1 P 1=(vfO v o cl s).2.2.1
  ·rw [ae h1,ae h1]
   have hfS:Few (rsM (vfO v o cl s).2.2.2 [toK o.Last]) (k+3*v+1):=hvf.take _
   rw [show Source.mk (vfO v o cl s).2.2.2.Script (vfO v o cl s).2.2.2.At (vfO v o cl s).2.2.2.State (vfO v o cl s).2.2.2.Count=(vfO v o cl s).2.2.2 from rfl,show ([o.Last]:List Ext)=kv [toK o.Last] by rw [kv,List.map_singleton, <-hlast],Sk hvf.1 (by simp),obs,e3,b08 hfS.1.3 om,obs]
   cases h2:SZ (rsM (vfO v o cl s).2.2.2 [toK o.Last]).State bits o.Nonce with
   |false=>rw [dv,cO,aa (by simp)];exact ⟨_,rfl,fun h=>absurd h (by decide)⟩
   |true=>
    have hfT:Few (tkM (rsM (vfO v o cl s).2.2.2 [toK o.Last]) (iv o.Nonce)) (k+3*v+1+1):=hfS.take _
    have hpl: ∀x∈plM (drL (tkM (rsM (vfO v o cl s).2.2.2 [toK o.Last]) (iv o.Nonce)) nq) ((2^q:Nat):Int),0<=x/\x<512:=fun x hx=>by
     obtain ⟨y,hy,rfl⟩:=bu.1 hx
     have g0:=pO y.A (b:=((2^q:Nat):Int)) om
     have g1:=mL y.A (b:=((2^q:Nat):Int)) om
     have g2:=a6S (q+1) om
     have g3:2^(q+1)=2*2^q:=by rw [g8];omega
     omega
    have hsh:bG .i64 1 (((v+ρ:Nat)):Int)=((2^(v+ρ):Nat):Int):=RQ (v+ρ) om
    rw [aH,bf,ae rfl,Ho,obs,vQ hfS.1.3 (by rw [dG];omega),obs,e1,ak ((v:Int)+(ρ:Int)) om om,brd om,bw (by simp only [ab,am];omega),show (v:Int)+(ρ:Int)=((v+ρ:Nat):Int) by omega,hsh,hq,a8Y q om,e2,Km hfT om om,obs,a38 (by rw [oV];omega) (Ud hfT om om) om,obs,j7,aU]
    have hpn:(plM (drL (tkM (rsM (vfO v o cl s).2.2.2 [toK o.Last]) (iv o.Nonce)) nq) ((2^q:Nat):Int)).length=nq:=by rw [plM,aM,oV]
    have hqs:=WO (root:=root) (N:=(((plM (drL (tkM (rsM (vfO v o cl s).2.2.2 [toK o.Last]) (iv o.Nonce)) nq) ((2^q:Nat):Int)).length:Nat):Int)) (D:=(vfO v o cl s).2.1) (c:=(drS (tkM (rsM (vfO v o cl s).2.2.2 [toK o.Last]) (iv o.Nonce)) nq).Script) (c2:=(drS (tkM (rsM (vfO v o cl s).2.2.2 [toK o.Last]) (iv o.Nonce)) nq).At) (c3:=(drS (tkM (rsM (vfO v o cl s).2.2.2 [toK o.Last]) (iv o.Nonce)) nq).State) (c4:=(drS (tkM (rsM (vfO v o cl s).2.2.2 [toK o.Last]) (iv o.Nonce)) nq).Count) (c5:=cl.1.A) (c6:=cl.1.B) (c7:=(ρ:Int)) (c8:=(nq:Int)) (c9:=t.Grind) (c16:=(v:Int)) (c17:=(vfO v o cl s).2.2.1.1.A) (c18:=(vfO v o cl s).2.2.1.1.B) h e1 hDl (plM (drL (tkM (rsM (vfO v o cl s).2.2.2 [toK o.Last]) (iv o.Nonce)) nq) ((2^q:Nat):Int)) o.Queries [] [] rfl rfl (by rw [hpn];omega) (by rw [hpn,ai];omega) hpl rfl
    rw [bj,ai,hq,e3] at hqs
    by_cases h3:qsC (toK o.Last) (q+1) (root::o.Roots) (vfO v o cl s).2.1 (plM (drL (tkM (rsM (vfO v o cl s).2.2.2 [toK o.Last]) (iv o.Nonce)) nq) ((2^q:Nat):Int)) o.Queries=0
    ·have kk:=hqs.1 h3
     rw [show (((0:Nat):Int))=0 from rfl] at kk
     rw [kk,h3]
     exact ⟨_,rfl,fun _=>rfl⟩
    ·have kk:=hqs.2 h3
     rw [show (((0:Nat):Int))=0 from rfl] at kk
     rw [kk]
     exact ⟨_,rfl,fun h=>absurd h h3⟩
  ·rw [aa h1,aa h1]
   exact ⟨_,rfl,fun h=>absurd h (by decide)⟩
 ·obtain ⟨h10,e,h11,he⟩:=hl.2 h0
  have key:Loop (bo 1 o.Rounds (v:Int) 0 0) ([],0,s.Script,s.At,s.State,s.Count,(v:Int),o.Rounds,o.Roots,o.Last.A,o.Last.B,o.Nonce,o.Queries,cl.1.A,cl.1.B)=_:=he
  rw [key,obs,l6,aa h0,h10,obs]
  dsimp only
  rw [h11,brb (by decide)]
  exact ⟨_,rfl,fun h=>absurd h (by decide)⟩
end
section
variable {o:Opening} {v ρ nq bits:Nat} {t:Setting} {root:List UInt8} {P:List K} {cl:K} {s:Source} {k:Int}
end
section
theorem Zj {α:Type} {P:α->Prop} {f:α->Int->Option Int} {a:List α} {left:Int} (ha:a.length<=9223372036854775807) (h0: -1<=left) (h1:left<=1048576)
 (hf: ∀x∈a, ∀l, -1<=l->l<=1048576-> ∃r,f x l=some r/\ -9223372036854775808<=r/\r<=1048576/\(0<=r->P x)) {step:Int×Int->Option ((Int×Int)⊕(Unit⊕(Int×Int×Bool)))}
 (hs: ∀l i,step (l,i)=br (decide (i<((a.length:Nat):Int))) ((atL a i).bind fun x=>(f x l).bind fun r=>br (decide (r<0)) (some (.inr (.inl ()))) (some (.inl (r,IntKind.wrap .i64 (i+1))))) (some (.inr (.inr (l,i,decide (i<((a.length:Nat):Int))))))):
 ∃r,br (decide (IntKind.wrap .i64 (left-((a.length:Nat):Int))<0)) (some (-1:Int)) ((Loop step (IntKind.wrap .i64 (left-((a.length:Nat):Int)),0)).bind (alt (fun _=>some (-1)) (fun e=>some e.1)))=some r/\ -1<=r/\r<=1048576/\(0<=r->a.length<=1048576/\ ∀x∈a,P x):=by
 rw [ak _ om om]
 by_cases h:left-(a.length:Int)<0
 ·rw [brd h];exact ⟨_,rfl,by omega,by omega,by omega⟩
 ·rw [brn h]
  have key:=q9 (step:=step) (fun s=>0<=s.2/\s.2<=a.length/\0<=s.1/\s.1<=1048576/\ ∀j:Nat,(j:Int)<s.2-> ∀x,a[j]? =some x->P x) (fun s=>((a.length:Int)-s.2).toNat)
   (fun e:Unit⊕(Int×Int×Bool)=> ∀q,e= .inr q->0<=q.1/\q.1<=1048576/\ ∀x∈a,P x) ?_ (left-(a.length:Int),0) ⟨by dsimp only;omega,by dsimp only;omega,by dsimp only;omega,by dsimp only;omega,fun j hj=>by dsimp only at hj;omega⟩
  ·obtain ⟨e,he,hp⟩:=key
   rw [he]
   cases e with
   |inl u=>exact ⟨-1,rfl,by omega,by omega,by omega⟩
   |inr q=>have hq:=hp q rfl;exact ⟨q.1,rfl,by omega,hq.2.1,fun _=>⟨by omega,hq.2.2⟩⟩
  ·rintro ⟨l,i⟩ ⟨i0,i1,l0,l1,hP⟩
   dsimp only at i0 i1 l0 l1 hP
   rw [hs]
   by_cases hi:i<(a.length:Int)
   ·rw [brd hi]
    obtain ⟨x,hx,hx2,hm⟩:=c1Z i0 hi
    obtain ⟨r,hr,r0,r1,hPx⟩:=hf x hm l om l1
    rw [hx,obs,hr,obs]
    by_cases hn:r<0
    ·rw [brd hn];exact .inr ⟨_,rfl,fun q hq=>by cases hq⟩
    ·rw [brn hn,ak _ om om]
     refine .inl ⟨_,rfl,⟨by dsimp only;omega,by dsimp only;omega,by dsimp only;omega,r1,fun j hj y hy=> ?_⟩,by dsimp only;omega⟩
     dsimp only at hj
     by_cases c:(j:Int)<i
     ·exact hP j c y hy
     ·have:j=i.toNat:=by omega
      subst this
      rw [hx2] at hy;cases hy
      exact hPx om
   ·rw [brn hi]
    refine .inr ⟨_,rfl,fun q hq=> ?_⟩
    cases hq
    refine ⟨l0,l1,fun x hx=> ?_⟩
    obtain ⟨j,hj,rfl⟩:=bq hx
    exact hP j om _ (aq hj)
def SzT (x:List UInt8):Prop:=x.length<=1048576
def b2O (a:List (List UInt8)):Prop:=a.length<=1048576/\ ∀x∈a,SzT x
def a7Y (a:List (List (List UInt8))):Prop:=a.length<=1048576/\ ∀x∈a,b2O x
def a9B (a:List (List Ext)):Prop:=a.length<=1048576/\ ∀x∈a,x.length<=1048576
def SzQ (q:Query):Prop:=q.Pairs.length<=1048576/\a7Y q.Paths
def SzO (o:Opening):Prop:=a9B o.Rounds/\b2O o.Roots/\o.Queries.length<=1048576/\ ∀q∈o.Queries,SzQ q
def SzP (p:Proof):Prop:=SzT p.Root/\a9B p.Gates/\a9B p.Wires/\SzO p.Open
theorem SzO.sm {o:Opening} (h:SzO o):SmO o:=⟨by have:=h.1.1;omega,fun g hg=>by have:=h.1.2 g hg;omega,by have:=h.2.1.1;omega,by have:=h.2.2.1;omega,fun q hq=>by have:=(h.2.2.2 q hq).1;omega,fun q hq p hp=>by have:=((h.2.2.2 q hq).2.2 p hp).1;omega⟩
theorem Dw {a:List (List Ext)} {left:Int} (ha:bdL (bdL bdExt) a) (h0: -1<=left) (h1:left<=1048576): ∃r,yf a left=some r/\ -1<=r/\r<=1048576/\(0<=r->a9B a):=
 Zj (f:=vL) (step:=vp a) ha.1 h0 h1 (fun x hx l l0 l1=>by
  obtain ⟨r,h2,h3,h4,h5⟩:=FM (ha.2 x hx).1 l0 l1
  exact ⟨r,h2,by omega,h4,h5⟩) (fun l i=>rfl)
theorem GZ {a:List (List UInt8)} {left:Int} (ha:bdL bdS a) (h0: -1<=left) (h1:left<=1048576): ∃r,rH a left=some r/\ -1<=r/\r<=1048576/\(0<=r->b2O a):=
 Zj (f:=fun x l=>some (IntKind.wrap .i64 (l-((x.length:Nat):Int)))) (step:=na a) ha.1 h0 h1 (fun x hx l l0 l1=>by
  have hb:x.length<=9223372036854775807:=ha.2 x hx
  exact ⟨_,rfl,by rw [ak _ om om];omega,by rw [ak _ om om];omega,fun h=>by rw [ak _ om om] at h;show x.length<=_;omega⟩) (fun l i=>by simp only [na,obs])
theorem PB {a:List (List (List UInt8))} {left:Int} (ha:bdL (bdL bdS) a) (h0: -1<=left) (h1:left<=1048576): ∃r,xk a left=some r/\ -1<=r/\r<=1048576/\(0<=r->a7Y a):=
 Zj (f:=rH) (step:=oW a) ha.1 h0 h1 (fun x hx l l0 l1=>by
  obtain ⟨r,h2,h3,h4,h5⟩:=GZ (ha.2 x hx) l0 l1
  exact ⟨r,h2,by omega,h4,h5⟩) (fun l i=>rfl)
theorem a07 {q:Query} {left:Int} (ha:bdQuery q) (h0: -1<=left) (h1:left<=1048576): ∃r,yk q left=some r/\ -1<=r/\r<=1048576/\(0<=r->SzQ q):=by
 obtain ⟨r,h2,h3,h4,h5⟩:=FM ha.1.1 h0 h1
 unfold yk
 rw [h2,obs]
 by_cases c:r<0
 ·rw [brd c];exact ⟨_,rfl,by omega,by omega,by omega⟩
 ·rw [brn c]
  obtain ⟨r2,g2,g3,g4,g5⟩:=PB ha.2 h3 h4
  rw [g2,obs]
  by_cases d:r2<0
  ·rw [brd d];exact ⟨_,rfl,by omega,by omega,by omega⟩
  ·rw [brn d];exact ⟨_,rfl,g3,g4,fun _=>⟨h5 om,g5 om⟩⟩
theorem V8 {a:List Query} {left:Int} (ha:bdL bdQuery a) (h0: -1<=left) (h1:left<=1048576): ∃r,CW a left=some r/\ -1<=r/\r<=1048576/\(0<=r->a.length<=1048576/\ ∀q∈a,SzQ q):=
 Zj (f:=yk) (step:=sP a) ha.1 h0 h1 (fun x hx l l0 l1=>by
  obtain ⟨r,h2,h3,h4,h5⟩:=a07 (ha.2 x hx) l0 l1
  exact ⟨r,h2,by omega,h4,h5⟩) (fun l i=>rfl)
theorem TB {o:Opening} {left:Int} (ha:bdOpening o) (h0: -1<=left) (h1:left<=1048576): ∃r,vS o left=some r/\ -1<=r/\r<=1048576/\(0<=r->SzO o):=by
 obtain ⟨b1,b2,_,_,b3⟩:=ha
 obtain ⟨r,h2,h3,h4,h5⟩:=Dw b1 h0 h1
 unfold vS
 rw [h2,obs]
 by_cases c:r<0
 ·rw [brd c];exact ⟨_,rfl,by omega,by omega,by omega⟩
 ·rw [brn c]
  obtain ⟨r2,g2,g3,g4,g5⟩:=GZ b2 h3 h4
  rw [g2,obs]
  by_cases d:r2<0
  ·rw [brd d];exact ⟨_,rfl,by omega,by omega,by omega⟩
  ·rw [brn d]
   obtain ⟨r3,k2,k3,k4,k5⟩:=V8 b3 g3 g4
   rw [k2,obs]
   by_cases e:r3<0
   ·rw [brd e];exact ⟨_,rfl,by omega,by omega,by omega⟩
   ·rw [brn e];exact ⟨_,rfl,k3,k4,fun _=>⟨h5 om,g5 om,k5 om⟩⟩
theorem YP {p:Proof} {left:Int} (ha:bdProof p) (h0: -1<=left) (h1:left<=1048576): ∃r,BH p left=some r/\ -1<=r/\r<=1048576/\(0<=r->SzP p):=by
 obtain ⟨b0,b1,_,_,_,b2,_,b3⟩:=ha
 have b0':p.Root.length<=9223372036854775807:=b0
 unfold BH
 rw [ak _ om om]
 by_cases c0:left-(p.Root.length:Int)<0
 ·rw [brd c0];exact ⟨_,rfl,by omega,by omega,by omega⟩
 ·rw [brn c0]
  obtain ⟨r,h2,h3,h4,h5⟩:=Dw b1 (show-1<=left-(p.Root.length:Int) by omega) om
  rw [h2,obs]
  by_cases c:r<0
  ·rw [brd c];exact ⟨_,rfl,by omega,by omega,by omega⟩
  ·rw [brn c]
   obtain ⟨r2,g2,g3,g4,g5⟩:=Dw b2 h3 h4
   rw [g2,obs]
   by_cases d:r2<0
   ·rw [brd d];exact ⟨_,rfl,by omega,by omega,by omega⟩
   ·rw [brn d]
    obtain ⟨r3,k2,k3,k4,k5⟩:=TB b3 g3 g4
    rw [k2,obs]
    by_cases e:r3<0
    ·rw [brd e];exact ⟨_,rfl,by omega,by omega,by omega⟩
    ·rw [brn e];exact ⟨_,rfl,k3,k4,fun _=>⟨by show p.Root.length<=_;omega,h5 om,g5 om,k5 om⟩⟩
theorem DJ {a:List (List Ext)} (h:a9B a):tZ a=some a:=by
 have:=h.1
 unfold tZ
 rw [F3 om om om,aK,K4 (step:=uY a) (f:=w7) (g:=fun x=>x) om (fun x hx=>H9 (h.2 x hx)) (fun l i=>rfl) (aw _)]
 simp
theorem GM {a:List (List UInt8)} (h:b2O a):o7 a=some a:=by
 have:=h.1
 unfold o7
 rw [F3 om om om,aK,K4 (step:=rb a) (f:=fun x=>some x) (g:=fun x=>x) om (fun x hx=>rfl) (fun l i=>rfl) (aw _)]
 simp
theorem PQ {a:List (List (List UInt8))} (h:a7Y a):s6 a=some a:=by
 have:=h.1
 unfold s6
 rw [F3 om om om,aK,K4 (step:=pd a) (f:=o7) (g:=fun x=>x) om (fun x hx=>GM (h.2 x hx)) (fun l i=>rfl) (aw _)]
 simp
theorem Y3 {q:Query} (h:SzQ q):yh q=some q:=by
 unfold yh
 rw [H9 h.1,obs,PQ h.2];rfl
theorem Uw {a:List Query} (h:a.length<=1048576) (hq: ∀q∈a,SzQ q):zm a=some a:=by
 unfold zm
 rw [F3 om om om,aK,K4 (step:=te a) (f:=yh) (g:=fun x=>x) om (fun x hx=>Y3 (hq x hx)) (fun l i=>rfl) (aw _)]
 simp
theorem TJ {o:Opening} (h:SzO o):w8 o=some o:=by
 unfold w8 sD
 rw [DJ h.1,obs,GM h.2.1,obs,obs,Uw h.2.2.1 h.2.2.2];rfl
theorem a1y {p:Proof} (h:SzP p):tQ p=some p:=by
 unfold tQ sD
 rw [DJ h.2.1,obs,obs,obs,obs,DJ h.2.2.1,obs,obs,TJ h.2.2.2];rfl
theorem zF {a:List (List Ext)} (h:a9B a):tY a a=some true:=by
 have:=h.1
 unfold tY
 rw [fq rfl]
 exact NE (f:=vI) om (fun x hx=>BC (h.2 x hx)) (fun t=>rfl)
theorem CB {a:List (List UInt8)} (h:b2O a):o9 a a=some true:=by
 have:=h.1
 unfold o9
 rw [fq rfl]
 refine NE (a:=a) (f:=fun x y=>some (x==y)) om (fun x _=>by simp) (fun t=> ?_)
 simp only [qZ]
 rfl
theorem LM {a:List (List (List UInt8))} (h:a7Y a):sj a a=some true:=by
 have:=h.1
 unfold sj
 rw [fq rfl]
 exact NE (f:=o9) om (fun x hx=>CB (h.2 x hx)) (fun t=>rfl)
theorem Qi {q:Query} (h:SzQ q):yp q q=some true:=by
 unfold yp
 rw [BC h.1,obs,aH,bf,LM h.2,obs,aH,bf]
theorem Pc {a:List Query} (h:a.length<=1048576) (hq: ∀q∈a,SzQ q):zr a a=some true:=by
 unfold zr
 rw [fq rfl]
 exact NE (f:=yp) om (fun x hx=>Qi (hq x hx)) (fun t=>rfl)
theorem MK {o:Opening} (h:SzO o):wA o o=some true:=by
 unfold wA
 rw [zF h.1,obs,aH,bf,CB h.2.1,obs,aH,bf,oL,obs,aH,bf,fq rfl,Pc h.2.2.1 h.2.2.2,obs,aH,bf]
theorem TL {p:Proof} (h:SzP p):BG p p=some true:=by
 unfold BG
 rw [Tr (by simp),zF h.2.1,obs,aH,bf,oL,obs,aH,bf,oL,obs,aH,bf,oL,obs,aH,bf,zF h.2.2.1,obs,aH,bf,oL,obs,aH,bf,MK h.2.2.2,obs,aH,bf]
end
end Go.AI.Fn
