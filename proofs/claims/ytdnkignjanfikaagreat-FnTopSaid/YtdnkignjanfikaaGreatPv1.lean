/- Part. -/
import Derived.Test.YtdnkignjanfikaaGreatPv0
set_option linter.unusedVariables false
set_option linter.unusedSimpArgs false
namespace Go.AI.Fn
section
def tkM (s:Source) (t:List UInt8):Source:=⟨s.Script,s.At,H (s.State++(b1s++(lD t.length++t))),0⟩
theorem c35 {s:Source} (t:List UInt8) (h:Fo s):Fo (tkM s t):=⟨h.1,h.2,EU _,h.4,h.5,by simp [tkM],by simp [tkM]⟩
def beN (l:List UInt8):Int:=l.foldl (fun n c=>n*256+(c.toNat:Int)) 0
def a7i (l:List UInt8):Int:=beN l%2130706433
def yt (s:Source):Source×Ext:=
 if s.Script.length=0 then (⟨s.Script,s.At,s.State,s.Count+1⟩,⟨a7i ((H (s.State++(Wr++lD s.Count))).take 8),a7i (((H (s.State++(Wr++lD s.Count))).drop 8).take 8)⟩)
 else (⟨s.Script,s.At+1,s.State,s.Count⟩,s.Script.getD (s.At%(s.Script.length:Int)).toNat e0)
theorem a4B (l:List UInt8):okF (a7i l):=nm _
theorem a1F {s:Source} (h:Fo s):okE (yt s).2:=by
 unfold yt
 split
 ·exact ⟨a4B _,a4B _⟩
 ·exact h.scr.getD _
theorem a7I {s:Source} (h:Fo s) (a:s.At<1000000) (hc:s.Count<1000000):Fo (yt s).1:=by
 unfold yt
 split
 ·exact ⟨h.1,h.2,h.3,h.4,h.5,by have:=h.6;simp;omega,by simp;omega⟩
 ·exact ⟨h.1,h.2,h.3,by have:=h.4;simp;omega,by simp;omega,h.6,h.7⟩
theorem a05 {s:Source} {t:List UInt8} (a:s.State.length=32) (b:t.length<=1000000):ur s t=some (tkM s t):=by
 unfold ur
 have c:=gg (t.length:Int)
 rw [aS (by simp only [ab,ah];omega),a51,obs,aS (by simp only [a8,ab,ah];omega),
  aS (by simp only [a8,ab,ah];omega),N5 (by simp only [a8,ab,ah];omega),obs,tkM]
 simp [b1s]
theorem RF (l:List UInt8) (c:UInt8):beN (l++[c])=beN l*256+(c.toNat:Int):=by simp [beN,gG]
theorem Qo {t:List UInt8} (h:t.length=8):wT t=some (a7i t):=by
 unfold wT
 have key:Loop (nH t) (0,0)=some (a7i t,8,false):=
  bq (fun k=>(beN (t.take k)%2130706433,(k:Int))) 8 (fun k b=>by
   have a:k<t.length:=by omega
   have c:=AX t[k]
   have d:0<=beN (t.take k)%2130706433/\beN (t.take k)%2130706433<2130706433:=by omega
   simp only [nH]
   rw [brd om,cJ a,obs]
   simp (disch:=omega) only [ai,dw]
   rw [cB a,RF,mX1];rfl) (by
   simp only [nH]
   rw [brn dcd,aX om];rfl)
 rw [key];rfl
theorem a9i {s:Source} (h:Fo s):zO s=some (yt s):=by
 have i:=h.1
 have j:=h.3
 have c:=h.4
 have m:=h.5
 have n:=h.6
 have o:=h.7
 unfold zO yt
 by_cases a:s.Script.length=0
 ·have p:=gg s.Count
  rw [brn om,aa a,aS (by simp only [ab,ah];omega),a51,obs,aS (by simp only [a8,ab,ah];omega),N5 (by simp only [a8,ab,ah];omega),obs]
  have e:s.State++[100,114,97,119]++lD s.Count=s.State++(Wr++lD s.Count):=by simp [Wr]
  rw [e]
  have q:=EU (s.State++(Wr++lD s.Count))
  rw [ke om om om,obs,Qo (by simp;omega),obs,ke om om om,obs,Qo (by simp;omega),obs,ai _ om om]
  rfl
 ·have d:=dD s.At (b:=(s.Script.length:Int)) om
  have f:=cV s.At (b:=(s.Script.length:Int)) om
  rw [brd om,a7 a,brd om,dw _ _ c,ai _ om om]
  have e:atL s.Script (s.At%(s.Script.length:Int))=some (s.Script.getD (s.At%(s.Script.length:Int)).toNat e0):=by
   have:=c0w (l:=s.Script) (k:=(s.At%(s.Script.length:Int)).toNat) om
   rwa [fD d] at this
  rw [e];rfl
theorem ZM {s:Source} (h:s.Script.length<=1000000):Dj s=some s:=by
 unfold Dj;rw [aS (by simp;omega)];simp
theorem b4N {l:List UInt8} {scr:List Ext} (h:l.length<=1000000):Gk l scr=some ⟨scr,0,H (b8h++l),0⟩:=by
 unfold Gk
 rw [aS (by simp only [ab,ah];omega),N5 (by simp only [a8,ab,ah];omega),obs];rfl
theorem a3W {l:List UInt8} {scr:List Ext} (h:scr.length<=64) (a:j6 scr):Fo ⟨scr,0,H (b8h++l),0⟩:=⟨h,a,EU _,by simp,by simp,by simp,by simp⟩
theorem a6o {l:List (List UInt8)} {m:bV} {B:Int} (h:Src B m) (f:B+3<Big) (h0:1<l.length) (i:l.length<=100): ∃x m',mP l m=some (x,m')/\x∈l/\Src (B+3) m':=by
 unfold mP
 obtain ⟨x,j,e1,a,b,_,c⟩:=ku (n:=(l.length:Int)) h om
 rw [cm om,e1,obs]
 obtain ⟨y,d,_,e⟩:=W2 (l:=l) a (by have:=b;omega)
 dsimp only
 rw [d]
 exact ⟨_,_,rfl,e,c⟩
structure Few (s:Source) (k:Int):Prop where
 ok:Fo s
 a:s.At<=k
 c:s.Count<=k
theorem Few.mono {s:Source} {j k:Int} (h:Few s j) (a:j<=k):Few s k:=⟨h.1,by have:=h.2;omega,by have:=h.3;omega⟩
theorem Few.take {s:Source} {k:Int} (h:Few s k) (t:List UInt8):Few (tkM s t) (k+1):=⟨c35 t h.1,by have:=h.2;simp [tkM];omega,by have:=h.3;have:=h.1.c0;simp [tkM];omega⟩
theorem Few.draw {s:Source} {k:Int} (h:Few s k) (a:k<1000000):Few (yt s).1 (k+1):=by
 have b:=h.2
 have c:=h.3
 refine ⟨a7I h.1 om om, ?_, ?_⟩<;>(unfold yt;split<;>dsimp only<;>omega)
theorem a4C {c4 c6:Int} {c5:List UInt8} {i B k:Int} {m:bV} {s:Source} (h:Src B m) (r:Few s k) (o:0<=i) (hi:i<=4) (z:k<=100) (hB:B+6*i<Big):
 ∃e,Loop (iP c4 c5 c6) (i,m.code,m.at_,m.seed,s.Script,s.At,s.State,s.Count)=some e/\Src (B+6*i) ⟨e.2.2.1,e.2.2.2.1,e.2.2.2.2.1⟩/\Few ⟨e.2.2.2.2.2.1,e.2.2.2.2.2.2.1,e.2.2.2.2.2.2.2.1,e.2.2.2.2.2.2.2.2⟩ (k+i):=by
 refine rg (step:=iP c4 c5 c6) (fun x=>0<=x.1/\x.1<=i/\Src (B+6*(i-x.1)) ⟨x.2.1,x.2.2.1,x.2.2.2.1⟩/\Few ⟨x.2.2.2.2.1,x.2.2.2.2.2.1,x.2.2.2.2.2.2.1,x.2.2.2.2.2.2.2⟩ (k+(i-x.1))) (fun x=>x.1.toNat) _ ?_ (i,m.code,m.at_,m.seed,s.Script,s.At,s.State,s.Count) ⟨o,by dsimp only;omega,h.mono dmo,r.mono dmo⟩
 rintro ⟨j,c,c2,c3,d,d2,d3,d4⟩ ⟨u,v,f,a⟩
 dsimp only at u v f a
 simp only [iP]
 by_cases p:j>0
 ·left
  rw [brd p]
  obtain ⟨b,m1,e1,q⟩:=zZ (n:=2) f om
  rw [e1,obs]
  cases b
  ·dsimp only
   rw [bu,a9i a.1,obs,ai _ om om]
   exact ⟨_,rfl,⟨by dsimp only;omega,by dsimp only;omega,q.mono dmo,(a.draw om).mono dmo⟩,by dsimp only;omega⟩
  ·dsimp only
   obtain ⟨y,m2,e2,_,w⟩:=a6o (l:=[[],[116,101,120,116]]) q om dcd dcd
   have hy:y.length<=1000:=by
    have:y∈[[],[116,101,120,116]]:=by assumption
    simp only [aW,List.mem_nil_iff,or_false] at this
    rcases this with rfl|rfl<;>simp
   rw [dj,e2,obs,a05 (t:=y) a.1.3 om,obs,ai _ om om]
   exact ⟨_,rfl,⟨by dsimp only;omega,by dsimp only;omega,w.mono dmo,(a.take y).mono dmo⟩,by dsimp only;omega⟩
 ·right
  rw [brn p]
  have:j=0:=by omega
  subst this
  exact ⟨_,rfl,f.mono om,a.mono om⟩
theorem b9o {c4 c6:Int} {c5:List UInt8} {i B k:Int} {m:bV} {s:Source} (h:Src B m) (b:Few s k) (a:0<=i) (hi:i<=4) (c:k<=100) (d:B+6*i<Big):
 ∃e,Loop (ni c4 c5 c6) (i,m.code,m.at_,m.seed,s.Script,s.At,s.State,s.Count)=some e/\Src (B+6*i) ⟨e.2.2.1,e.2.2.2.1,e.2.2.2.2.1⟩/\Few ⟨e.2.2.2.2.2.1,e.2.2.2.2.2.2.1,e.2.2.2.2.2.2.2.1,e.2.2.2.2.2.2.2.2⟩ (k+i):=
 a4C (c4:=c4) (c5:=c5) (c6:=c6) h b a hi c d
end
section
theorem a7F {n:Int} (x:UInt8) (h0:0<=n) (c:n<72057594037927936):Cy .u64 (ct .u64 n 8) (IntKind.wrap .u64 (x.toNat:Int))=n*256+x.toNat:=by
 have d:=AX x
 have e1:ct .u64 n 8=n*256:=by
  have:n*2^(min (8:Int).toNat (IntKind.bits .u64))=n*256:=by
   have:(2:Int)^(min (8:Int).toNat (IntKind.bits .u64))=256:=by decide
   rw [this]
  unfold ct
  rw [this,ra _ om om]
 rw [e1,ra (x.toNat:Int) om om]
 unfold Cy
 obtain ⟨m,rfl⟩:=qf h0
 have e2:(BitVec.ofInt (IntKind.bits .u64) ((m:Int)*256)|||BitVec.ofInt (IntKind.bits .u64) (x.toNat:Int)).toNat=m*256+x.toNat:=by
  rw [BitVec.toNat_or,ix,ix]
  have a:(((m:Int)*256)%((2^(IntKind.bits .u64):Nat):Int)).toNat=m<<<8:=by
   rw [show ((2^(IntKind.bits .u64):Nat):Int)=18446744073709551616 by decide,rC];omega
  have b:((x.toNat:Int)%((2^(IntKind.bits .u64):Nat):Int)).toNat=x.toNat:=by
   rw [show ((2^(IntKind.bits .u64):Nat):Int)=18446744073709551616 by decide];omega
  rw [a,b, <-Nat.shiftLeft_add_eq_or_of_lt (show x.toNat<2^8 by omega),rC]
 rw [e2,ra _ om om]
 omega
theorem a2A: ∀(l:List UInt8) (k:Nat),k<=8->k<=l.length->0<=beN (l.take k)/\beN (l.take k)<256^k
 |l,0,_,_=>by simp [beN]
 |l,k+1,h,a=>by
  have ⟨h0,b⟩:=a2A l k om om
  have c:=AX l[k]
  rw [cB om,RF]
  have:(256:Int)^(k+1)=256^k*256:=fX _ _
  rw [this]
  generalize (256:Int)^k=p at*
  omega
theorem c77: ∀k:Nat,k<8->(256:Int)^k<=72057594037927936:=by decide
theorem OR {t:List UInt8} (h:t.length=8):Dq t=some (a7i t):=by
 unfold Dq
 have key:Loop (oL t (t.length:Int)) (0,0)=some (beN t,(t.length:Int),false):=by
  have key:=bq (step:=oL t (t.length:Int)) (fun k=>(beN (t.take k),(k:Int))) t.length (e:=(beN t,(t.length:Int),false)) (fun k a=> ?_) ?_
  ·exact key
  ·have ⟨h0,b⟩:=a2A t k om om
   have c:=c77 k om
   simp only [oL]
   rw [brd om,cJ a,obs,a7F _ h0 om,ai _ om om,cB a,RF];rfl
  ·simp only [oL]
   rw [brn om,ae om,bw]
 have ⟨h0,b⟩:=a2A t 8 om om
 rw [aX om] at h0 b
 rw [key,obs]
 dsimp only
 rw [dw _ _ h0,ai _ om om];rfl
theorem mi {s:Source} {t:List UInt8} (b:s.State.length=32) (c:t.length<=1000000):dI t s=some (tkM s t):=by
 unfold dI
 have a:[s.State,[97,98,115,111,114,98],lD (t.length:Int),t].flatten=s.State++(b1s++(lD t.length++t)):=by simp [b1s]
 rw [aS om,CH,obs,yh (by rw [a];simp only [a8,gg,b1s,ab,ah];omega) sm,obs,a];rfl
theorem Vr {s:Source} (h:Fo s):il s=some ((yt s).2,(yt s).1):=by
 have i:=h.1
 have j:=h.3
 have c:=h.4
 have m:=h.5
 have n:=h.6
 have o:=h.7
 unfold il yt
 by_cases a:s.Script.length=0
 ·have p:=gg s.Count
  have q:=EU (s.State++(Wr++lD s.Count))
  have e:[s.State,[100,114,97,119],lD s.Count].flatten=s.State++(Wr++lD s.Count):=by simp [Wr]
  rw [brn om,aa a,aS om,CH,obs,yh (by rw [e];simp only [a8,gg,Wr,ab,ah];omega) sm,obs,e,aS om,
   ke om om om,obs,OR (by simp;omega),obs,ke om om om,obs,OR (by simp;omega),obs,ai _ om om]
  rfl
 ·have d:=dD s.At (b:=(s.Script.length:Int)) om
  have f:=cV s.At (b:=(s.Script.length:Int)) om
  rw [brd om,a7 a,brd om,ai (s.At+1) om om,ai (s.At+1-1) om om,show s.At+1-1=s.At by omega,dw _ _ c]
  have e:atL s.Script (s.At%(s.Script.length:Int))=some (s.Script.getD (s.At%(s.Script.length:Int)).toNat e0):=by
   have:=c0w (l:=s.Script) (k:=(s.At%(s.Script.length:Int)).toNat) om
   rwa [fD d] at this
  rw [e];rfl
def drS (s:Source):Nat->Source
 |0=>s
 |j+1=>(yt (drS s j)).1
def drL (s:Source) (n:Nat):List Ext:=(List.range n).map fun j=>(yt (drS s j)).2
theorem xC (s:Source) (n:Nat):(drL s n).length=n:=by simp [drL]
theorem E7 {s:Source} {k:Int} (h:Few s k) (a:k<=999890): ∀j:Nat,j<=100->Few (drS s j) (k+j)
 |0,_=>h.mono om
 |j+1,b=>((E7 h a j om).draw om).mono om
theorem MZ {s:Source} {k:Int} (h:Few s k) (b:k<=999890) {n:Nat} (hn:n<=100):j6 (drL s n):=fun x c=>by
 obtain ⟨j,a,rfl⟩:=bf.1 c
 have a:=bS.1 a
 exact a1F (E7 h b j om).1
theorem b1Y (s:Source) (n:Nat):drL s (n+1)=drL s n++[(yt (drS s n)).2]:=by simp [drL,ed]
theorem wR {s:Source} {k:Int} (h:Few s k) (a:k<=999890) {n:Nat} (hn:n<=100):gI (n:Int) s=some (drL s n,drS s n):=by
 unfold gI
 have key:=bq (step:=gY (n:Int)) (fun j=>(drL s j,(j:Int),(drS s j).Script,(drS s j).At,(drS s j).State,(drS s j).Count)) n (e:=(drL s n,(n:Int),false,(drS s n).Script,(drS s n).At,(drS s n).State,(drS s n).Count)) (fun j b=> ?_) ?_
 ·have key':Loop (gY (n:Int)) ([],0,s.Script,s.At,s.State,s.Count)=_:=key
  rw [key'];rfl
 ·simp only [gY]
  rw [brd om,Vr (E7 h a j om).1,obs,aS (by simp only [a8,xC,ag];omega),ai _ om om, <-b1Y];rfl
 ·simp only [gY]
  rw [brn om,ae om]
theorem Oz {s:Source} (h:s.Script.length<=1000000):mh s=some s:=by
 unfold mh di
 rw [aS om];rfl
theorem Wm {s:Source} (h:Fo s):ui s=some true:=by
 have:=h.1
 rw [IV om,Qa.2 h]
variable {s:Source} {k:Int}
theorem b59 {a b c:Int} (h:a<=c) (g:b<=c):mx a b<=c:=by unfold mx;split<;>assumption
def plM (l:List Ext) (m:Int):List Int:=l.map fun x=>x.A%m
theorem OL {l:List Ext} {m:Int} (b:l.length<=1000) (ok:j6 l) (c:0<m):Dk l m=some (plM l m):=by
 unfold Dk
 have key:Loop (oi m l (l.length:Int)) ([],0)=some (plM l m,(l.length:Int),false):=
  bq (step:=oi m l (l.length:Int)) (fun j=>(plM (l.take j) m,(j:Int))) l.length (fun j a=>by
   simp only [oi]
   rw [brd om,cJ a,obs,brd om,aS (by simp only [a8,plM,aw,aD,ag];omega),ai _ om om,dw _ _ (ok.get a).1.1,cB a]
   simp only [plM,bW,aM,eu,zQ]) (by
   simp only [oi]
   rw [brn om,ae om,bw])
 rw [key];rfl
end
section
def toK (x:Ext):K:=⟨⟨x.A%2130706433,x.B%2130706433⟩,⟨nm _,nm _⟩⟩
theorem tZ {x:Ext} (h:okE x):(toK x).1=x:=CF (CX h.1) (CX h.2)
theorem j2 (l:List Ext):(l.flatMap e8).length=8*l.length:=by
 induction l with
 |nil=>rfl
 |cons x l ih=>simp only [dA,a8,ih,c3Y,ab];omega
def rsM (s:Source) (g:List K):Source:=tkM s ((kv g).flatMap e8)
def rdM (s:Source) (g:List K):K:=toK (yt (rsM s g)).2
def nsM (s:Source) (g:List K):Source:=(yt (rsM s g)).1
theorem Kn {s:Source} {k:Int} (h:Few s k) (a:k<=999990) (g:List K):Few (nsM s g) (k+2):=by
 have:=(h.take ((kv g).flatMap e8)).draw om
 rw [show k+1+1=k+2 by omega] at this;exact this
theorem c1b {s:Source} {k:Int} (h:Few s k) (g:List K):(rdM s g).1=(yt (rsM s g)).2:=tZ (a1F (h.take _).1)
theorem Az {s:Source} (h:Fo s) {g:List K} (a:g.length<=1000):bM (kv g) s=some (rsM s g):=by
 have e:=j2 (kv g)
 rw [bB] at e
 unfold bM
 rw [ij (by rw [bB];omega),obs,mi h.3 om];rfl
theorem Zb {s:Source} {k:Int} (h:Few s k) (g:List K):il (rsM s g)=some ((rdM s g).1,nsM s g):=by
 rw [Vr (s:=rsM s g) (h.take _).1,c1b h];rfl
def pvM (kind:Nat) (bh:List K->Source->Source):Nat->List K->List (List K)->Source->List (List K)×List K×List (List K)×Source
 |0,P,T,s=>([],[],T,s)
 |v+1,P,T,s=>(rdK kind T (2^v)::(pvM kind bh v (P++[rdM s (rdK kind T (2^v))]) (bdK (rdM s (rdK kind T (2^v))) T) (bh (P++[rdM s (rdK kind T (2^v))]) (nsM s (rdK kind T (2^v))))).1,
   rdM s (rdK kind T (2^v))::(pvM kind bh v (P++[rdM s (rdK kind T (2^v))]) (bdK (rdM s (rdK kind T (2^v))) T) (bh (P++[rdM s (rdK kind T (2^v))]) (nsM s (rdK kind T (2^v))))).2.1,
   (pvM kind bh v (P++[rdM s (rdK kind T (2^v))]) (bdK (rdM s (rdK kind T (2^v))) T) (bh (P++[rdM s (rdK kind T (2^v))]) (nsM s (rdK kind T (2^v))))).2.2)
def bh0:List K->Source->Source:=fun _ s=>s
def b7I (bh:List K->Source->Source):Prop:= ∀P s k,Few s k->k<=999990->Few (bh P s) (k+1)
theorem b45:b7I bh0:=fun P s k h _=>h.mono om
variable {kind:Nat} {bh:List K->Source->Source}
theorem zt (v:Nat):2^(v+1)=2*2^v:=by rw [aZ,ep]
theorem OkT.up {v:Nat} {T:List (List K)} (h:OkT kind (2^(v+1)) T) (r:K):OkT kind (2^v) (bdK r T):=by
 rw [zt] at h;exact h.bd r
theorem NE: ∀(v:Nat) (P:List K) (T:List (List K)) (s:Source),(pvM kind bh v P T s).1.length=v/\(pvM kind bh v P T s).2.1.length=v
 |0,P,T,s=>⟨rfl,rfl⟩
 |v+1,P,T,s=>by simp only [pvM,ab];exact ⟨by rw [(NE v _ _ _).1],by rw [(NE v _ _ _).2]⟩
theorem R0: ∀(v:Nat) (P:List K) (T:List (List K)) (s:Source),OkT kind (2^v) T->OkT kind 1 (pvM kind bh v P T s).2.2.1
 |0,P,T,s,h=>h
 |v+1,P,T,s,h=>R0 v _ _ _ (h.up _)
theorem X5 (hb:b7I bh): ∀(v:Nat) (P:List K) (T:List (List K)) (s:Source) (k:Int),Few s k->k+3*v<=999990->Few (pvM kind bh v P T s).2.2.2 (k+3*v)
 |0,P,T,s,k,h,hk=>by rw [show k+3*((0:Nat):Int)=k by omega];exact h
 |v+1,P,T,s,k,h,hk=>by
  have:=X5 hb v (P++[rdM s (rdK kind T (2^v))]) (bdK (rdM s (rdK kind T (2^v))) T) _ _ (hb (P++[rdM s (rdK kind T (2^v))]) _ _ (Kn h om (rdK kind T (2^v))) om) om
  rw [show k+2+1+3*(v:Int)=k+3*((v+1:Nat):Int) by omega] at this
  exact this
theorem Ht: ∀(v:Nat) (P:List K) (T:List (List K)) (s:Source), ∀g∈(pvM kind bh v P T s).1,g.length=kind+2
 |0,P,T,s,g,a=>by simp [pvM] at a
 |v+1,P,T,s,g,a=>by
  simp only [pvM,aW] at a
  rcases a with rfl|a
  ·exact HJ _ _ _
  ·exact Ht v _ _ _ g a
theorem b5l {T:List (List K)} (h:0<T.length):atL (kvv T) 0=some (kv (T.getD 0 [])):=Ha (j:=0) h
theorem c6h: ∀v:Nat,v<=6->1<=2^v/\2^v<=64:=by decide
theorem M6: ∀(v:Nat) (Q:List K) (T:List (List K)) (s:Source) (k:Int) (R:List (List Ext)) (P:List Ext),OkT kind (2^v) T->Few s k->k+2*v<=999990->v<=6->R.length+v<=1000->P.length+v<=1000->
 Loop (dC ([]:List Ext) (kind:Int)) (R,P,kvv T,s.Script,s.At,s.State,s.Count)=
  some (R++kvv (pvM kind bh0 v Q T s).1,P++kv (pvM kind bh0 v Q T s).2.1,kvv (pvM kind bh0 v Q T s).2.2.1,false,(pvM kind bh0 v Q T s).2.2.2.Script,(pvM kind bh0 v Q T s).2.2.2.At,(pvM kind bh0 v Q T s).2.2.2.State,(pvM kind bh0 v Q T s).2.2.2.Count)
 |0,Q,T,s,k,R,P,a,c,e,f,h,i=>by
  have j:=a.len
  have d:=a.kd
  refine dx ?_
  simp only [dC]
  rw [b5l om,obs,bB,a.tab 0 om,brn dcd,ae dcd]
  simp [pvM,kvv,kv,bh0]
 |v+1,Q,T,s,k,R,P,a,c,e,f,h,i=>by
  have j:=a.len
  have d:=a.kd
  have l:=c6h v om
  have b:=a
  rw [zt] at b
  rw [du (s':=(R++[kv (rdK kind T (2^v))],P++[(rdM s (rdK kind T (2^v))).1],kvv (bdK (rdM s (rdK kind T (2^v))) T),(nsM s (rdK kind T (2^v))).Script,(nsM s (rdK kind T (2^v))).At,(nsM s (rdK kind T (2^v))).State,(nsM s (rdK kind T (2^v))).Count)) ?_]
  ·rw [M6 v (Q++[rdM s (rdK kind T (2^v))]) _ _ _ _ _ (a.up _) (Kn c om _) om om (by rw [a8,ag];omega) (by rw [a8,ag];omega)]
   simp [pvM,kvv,kv,bh0]
  ·simp only [dC]
   rw [b5l om,obs,bB,a.tab 0 om,zt,brd om,Ex b om,obs,show Source.mk s.Script s.At s.State s.Count=s from rfl,Az c.1 (by rw [HJ];omega),obs,Zb c,obs]
   dsimp only
   rw [EC b om,obs,aS (by rw [a8,ag];omega),aS (by rw [a8,ag];omega)];rfl
def p5 (T:List (List K)):List K:=T.map fun t=>t.getD 0 0
theorem UV {T:List (List K)} {j:Nat} (a:j<T.length):(p5 T).take (j+1)=(p5 T).take j++[(T.getD j []).getD 0 0]:=by
 rw [cB (by simpa [p5] using a)];simp [p5,a]
theorem CN (T:List (List K)):(p5 T).length=T.length:=by simp [p5]
theorem a6P (T:List (List K)):p5 T=vp T 0:=rfl
theorem kv0 {l:List K} (h:0<l.length):atL (kv l) 0=some (l.getD 0 0).1:=uF (j:=0) h
theorem II {v:Nat} (Q:List K) {T:List (List K)} {s:Source} {k:Int} (c:OkT kind (2^v) T) (d:Few s k) (f:k+2*v<=999990) (h:v<=6):
 dh (kind:Int) (kvv T) s=some (kvv (pvM kind bh0 v Q T s).1,kv (pvM kind bh0 v Q T s).2.1,kv (p5 (pvM kind bh0 v Q T s).2.2.1),(pvM kind bh0 v Q T s).2.2.2):=by
 unfold dh
 rw [M6 v Q T s k [] [] c d f h (by rw [ah];omega) (by rw [ah];omega),obs]
 have a:=R0 (bh:=bh0) v Q T s c
 have l:=a.len
 have i:=a.kd
 generalize pvM kind bh0 v Q T s=q at*
 obtain ⟨q1,q2,q3,q4⟩:=q
 dsimp only at*
 have key:=bq (step:=da ([]++kvv q1) ([]++kv q2) (kvv q3) (((kvv q3).length:Nat):Int) q4.Script q4.At q4.State q4.Count) (fun j=>(kv ((p5 q3).take j),(j:Int))) q3.length (e:=(kv (p5 q3),(q3.length:Int),false)) (fun j b=> ?_) ?_
 ·have key':Loop (da ([]++kvv q1) ([]++kv q2) (kvv q3) (((kvv q3).length:Nat):Int) q4.Script q4.At q4.State q4.Count) ([],0)=_:=key
  rw [key'];rfl
 ·simp only [da,tW]
  rw [brd om,Ha b,obs,kv0 (by rw [a.tab j b];omega),obs,aS (by rw [a8,bB,aD,CN,ag];omega),ai _ om om,UV b,kvS];rfl
 ·simp only [da,tW]
  rw [brn om,ae om,aX (by rw [CN];omega)]
noncomputable instance c6d:DecidableEq K:=fun a b=>Classical.propDecidable _
noncomputable def vfM (kind:Nat) (bv:Nat->Source->Source):List (List K)->Nat->K->Source->Int×List K×K×Source
 |[],i,c,s=>(0,[],c,s)
 |g::R,i,c,s=>if g.length=kind+2 then (if g.getD 0 0+g.getD 1 0=c then
   ((vfM kind bv R (i+1) (lnK g (rdM s g)) (bv i (nsM s g))).1,rdM s g::(vfM kind bv R (i+1) (lnK g (rdM s g)) (bv i (nsM s g))).2.1,(vfM kind bv R (i+1) (lnK g (rdM s g)) (bv i (nsM s g))).2.2) else (10,[],c,s)) else (18,[],c,s)
def bv0:Nat->Source->Source:=fun _ s=>s
def c3A (bv:Nat->Source->Source):Prop:= ∀i s k,Few s k->k<=999990->Few (bv i s) (k+1)
theorem b4F:c3A bv0:=fun i s k h _=>h.mono om
variable {bv:Nat->Source->Source}
theorem XM (hb:c3A bv): ∀(R:List (List K)) (i:Nat) (c:K) (s:Source) (k:Int),Few s k->k+3*R.length<=999990->Few (vfM kind bv R i c s).2.2.2 (k+3*R.length)
 |[],i,c,s,k,h,hk=>by rw [ah,show k+3*((0:Nat):Int)=k by omega];exact h
 |g::R,i,c,s,k,h,hk=>by
  rw [ab] at hk ⊢
  rw [vfM]
  by_cases h1:g.length=kind+2
  ·by_cases h2:g.getD 0 0+g.getD 1 0=c
   ·rw [aa h1,aa h2]
    have:=XM hb R (i+1) (lnK g (rdM s g)) _ _ (hb i _ _ (Kn h om g) om) om
    rw [show k+2+1+3*(R.length:Int)=k+3*((R.length+1:Nat):Int) by omega] at this
    exact this
   ·rw [aa h1,a7 h2];exact h.mono om
  ·rw [a7 h1];exact h.mono om
theorem Xh: ∀(R:List (List K)) (i:Nat) (c:K) (s:Source),(vfM kind bv R i c s).1=0->(vfM kind bv R i c s).2.1.length=R.length
 |[],i,c,s,h=>rfl
 |g::R,i,c,s,h=>by
  rw [vfM] at h ⊢
  by_cases a:g.length=kind+2
  ·by_cases b:g.getD 0 0+g.getD 1 0=c
   ·rw [aa a,aa b] at h ⊢
    simp only [ab];rw [Xh R _ _ _ h]
   ·rw [aa a,a7 b] at h;exact absurd (show (10:Int)=0 from h) dcd
  ·rw [a7 a] at h;exact absurd (show (18:Int)=0 from h) dcd
theorem a6h: ∀(v:Nat) (P:List K) (T:List (List K)) (s:Source),OkT kind (2^v) T->(∀j,j<v-> ∀s',bv (P.length+j) s'=bh ((P++(pvM kind bh v P T s).2.1).take (P.length+j+1)) s')->
 vfM kind bv (pvM kind bh v P T s).1 P.length (wU kind T (2^v)) s=(0,(pvM kind bh v P T s).2.1,wU kind (pvM kind bh v P T s).2.2.1 1,(pvM kind bh v P T s).2.2.2)
 |0,P,T,s,h,a=>rfl
 |v+1,P,T,s,h,a=>by
  have b:=h
  rw [zt] at b
  have d: ∀i,i<4->(T.getD i []).length=2*2^v\/T.getD i []=[]:=fun i _=>by
   by_cases c:i<T.length
   ·exact .inl (b.tab i c)
   ·exact .inr (by simp [c])
  have l:=h.kd
  have e:(rdK kind T (2^v)).getD 0 0=wU kind (bdK 0 T) (2^v):=by rw [rdK,xc om];rfl
  have f:(rdK kind T (2^v)).getD 1 0=wU kind (bdK 1 T) (2^v):=by rw [rdK,xc om];rfl
  have k:(rdK kind T (2^v)).getD 0 0+(rdK kind T (2^v)).getD 1 0=wU kind T (2^(v+1)):=by rw [e,f,zt,a81 d]
  simp only [pvM] at a ⊢
  rw [vfM,aa (HJ _ _ _),aa k,a2y b]
  have e0:=a 0 om (nsM s (rdK kind T (2^v)))
  rw [cH,List.take_append,aX om,show P.length+1-P.length=1 by omega,jJ,u9] at e0
  rw [e0]
  have ih:=a6h v (P++[rdM s (rdK kind T (2^v))]) (bdK (rdM s (rdK kind T (2^v))) T) (bh (P++[rdM s (rdK kind T (2^v))]) (nsM s (rdK kind T (2^v)))) (h.up _) (fun j m s'=>by
   have:=a (j+1) om s'
   rw [a8,ag,aP,b8,show P.length+1+j=P.length+(j+1) by omega];exact this)
  rw [a8,ag] at ih
  rw [ih]
theorem c5z (a b:K):(a.1.A==b.1.A&&a.1.B==b.1.B)=decide (a=b):=by
 by_cases h:a=b
 ·subst h;simp
 ·rw [ae h]
  refine Bool.eq_false_iff.2 fun e=>h ?_
  simp only [aB,beq_iff_eq] at e
  exact K.ext (CF e.1 e.2)
theorem Z0 {α:Type} (a b:K) (x y:α):br (a.1.A==b.1.A) (br (a.1.B==b.1.B) x y) y=if a=b then x else y:=by
 have:=c5z a b
 cases c:(a.1.A==b.1.A)<;>cases d:(a.1.B==b.1.B)<;>rw [c,d] at this<;>simp at this<;>simp [this,br]
theorem atK {l:List K} {j:Nat} {i:Int} (hi:i=(j:Int)) (h:j<l.length):atL (kv l) i=some (l.getD j 0).1:=by subst hi;exact uF h
theorem UE {c7 c8:Int} (a:kind=1\/kind=2): ∀(R pre:List (List K)) (c:K) (s:Source) (k:Int) (P:List Ext),Few s k->k+3*R.length<=999990->P.length+R.length<=999990->pre.length+R.length<=999990->
 ((vfM kind bv0 R pre.length c s).1=0->Loop (bO (kind:Int) (kvv (pre++R)) ((pre++R).length:Int) c7 c8) (P,(pre.length:Int),s.Script,s.At,s.State,s.Count,c.1.A,c.1.B)=
   some (.inr (P++kv (vfM kind bv0 R pre.length c s).2.1,((pre++R).length:Int),false,(vfM kind bv0 R pre.length c s).2.2.2.Script,(vfM kind bv0 R pre.length c s).2.2.2.At,(vfM kind bv0 R pre.length c s).2.2.2.State,(vfM kind bv0 R pre.length c s).2.2.2.Count,
    (vfM kind bv0 R pre.length c s).2.2.1.1.A,(vfM kind bv0 R pre.length c s).2.2.1.1.B)))/\
 ((vfM kind bv0 R pre.length c s).1≠0-> ∃P' A B,Loop (bO (kind:Int) (kvv (pre++R)) ((pre++R).length:Int) c7 c8) (P,(pre.length:Int),s.Script,s.At,s.State,s.Count,c.1.A,c.1.B)=
   some (.inl (P',(vfM kind bv0 R pre.length c s).1,(vfM kind bv0 R pre.length c s).2.2.2.Script,(vfM kind bv0 R pre.length c s).2.2.2.At,(vfM kind bv0 R pre.length c s).2.2.2.State,(vfM kind bv0 R pre.length c s).2.2.2.Count,A,B)))
 |[],pre,c,s,k,P,d,m,n,o=>by
  refine ⟨fun _=>dx ?_,fun h=>absurd rfl h⟩
  simp only [bO,bL]
  rw [brn om,ae om]
  simp [vfM,kv]
 |g::R,pre,c,s,k,P,d,m,n,o=>by
  rw [ab] at m n o
  have hat:atL (kvv (pre++g::R)) (pre.length:Int)=some (kv g):=by rw [Ha sm];simp
  have b:(pre.length:Int)<((pre++g::R).length:Int):=by rw [a8,ab];omega
  rw [vfM]
  by_cases l:g.length=kind+2
  ·by_cases f:g.getD 0 0+g.getD 1 0=c
   ·rw [aa l,aa f]
    have ih:=UE (c7:=c7) (c8:=c8) a R (pre++[g]) (lnK g (rdM s g)) (nsM s g) (k+2) (P++[(rdM s g).1]) (Kn d om g) om (by rw [a8,ag];omega) (by rw [a8,ag];omega)
    rw [aP,b8,a8,ag] at ih
    have step:bO (kind:Int) (kvv (pre++g::R)) ((pre++g::R).length:Int) c7 c8 (P,(pre.length:Int),s.Script,s.At,s.State,s.Count,c.1.A,c.1.B)=
     some (.inl (P++[(rdM s g).1],((pre.length+1:Nat):Int),(nsM s g).Script,(nsM s g).At,(nsM s g).State,(nsM s g).Count,(lnK g (rdM s g)).1.A,(lnK g (rdM s g)).1.B)):=by
     simp only [bO]
     rw [brd b,hat,obs,xY a,obs,ai _ om om,m9 (by rw [bB];omega),atK (i:=0) (j:=0) rfl om,obs,atK (i:=1) (j:=1) rfl om,obs,jI (aI _) (aI _),obs]
     rw [show eA (g.getD 0 0).1 (g.getD 1 0).1=c.1 from congrArg Subtype.val f,bre rfl,bre rfl,show Source.mk s.Script s.At s.State s.Count=s from rfl,Az d.1 om,obs,Zb d,obs]
     dsimp only
     rw [Ok _ om,obs,aS (by rw [a8,ag];omega),ai _ om om];rfl
    refine ⟨fun h=> ?_,fun h=> ?_⟩
    ·rw [du step,ih.1 h]
     simp [kv,bv0]
    ·obtain ⟨P',A,B,e⟩:=ih.2 h
     exact ⟨P',A,B,by rw [du step,e];rfl⟩
   ·rw [aa l,a7 f]
    refine ⟨fun h=>absurd (show (10:Int)=0 from h) dcd,fun _=>⟨P,c.1.A,c.1.B,dx ?_⟩⟩
    simp only [bO]
    rw [brd b,hat,obs,xY a,obs,ai _ om om,m9 (by rw [bB];omega),atK (i:=0) (j:=0) rfl om,obs,atK (i:=1) (j:=1) rfl om,obs,jI (aI _) (aI _),obs]
    rw [show eA (g.getD 0 0).1 (g.getD 1 0).1=(g.getD 0 0+g.getD 1 0).1 from rfl,Z0,a7 f]
  ·rw [a7 l]
   refine ⟨fun h=>absurd (show (18:Int)=0 from h) dcd,fun _=>⟨P,c.1.A,c.1.B,dx ?_⟩⟩
   simp only [bO]
   rw [brd b,hat,obs,xY a,obs,ai _ om om,brb (by rw [bB];omega)]
theorem He (a:kind=1\/kind=2) {R:List (List K)} {c:K} {s:Source} {k:Int} (b:Few s k) (d:k+3*R.length<=999990):
 cZ (kind:Int) c.1 (kvv R) s=some (if (vfM kind bv0 R 0 c s).1=0 then (kv (vfM kind bv0 R 0 c s).2.1,(vfM kind bv0 R 0 c s).2.2.1.1,0,(vfM kind bv0 R 0 c s).2.2.2) else ([],e0,(vfM kind bv0 R 0 c s).1,(vfM kind bv0 R 0 c s).2.2.2)):=by
 have f:0<=k:=by have:=b.2;have:=b.1.4;omega
 have h:=UE (c7:=0) (c8:=0) a R [] c s k [] b d (by rw [ah];omega) (by rw [ah];omega)
 rw [bA,ah] at h
 unfold cZ
 rw [tW]
 by_cases h0:(vfM kind bv0 R 0 c s).1=0
 ·rw [aa h0]
  have:=h.1 h0
  rw [show (((0:Nat):Int))=0 from rfl] at this
  rw [this];rfl
 ·rw [a7 h0]
  obtain ⟨P',A,B,e⟩:=h.2 h0
  rw [show (((0:Nat):Int))=0 from rfl] at e
  rw [e];rfl
end
section
structure OkM (l:List aN) (R C:Int):Prop where
 len:l.length<=200
 ent: ∀x∈l,inE R C x
 srt: ∀k (hk:k<l.length), ∀y∈l.take k,ltE y l[k]
theorem UZ {x y z:aN} (h:ltE x y) (g:ltE y z):ltE x z:=by unfold ltE at*;omega
open Classical in
theorem HP {l:List aN} {R C:Int} (h:B5 l R C=true):OkM l R C:=by
 unfold B5 at h
 obtain ⟨f,e⟩:=gz h
 refine ⟨f,fun x i=> ?_,fun k=> ?_⟩
 ·obtain ⟨k,d,rfl⟩:=bp i
  by_cases c:inE R C l[k]
  ·exact c
  ·exact absurd ⟨_,Ad d,.inl c⟩ (e k)
 ·induction k with
  |zero=>intro d y a;simp at a
  |succ k ih=>
   intro d y a
   rw [cB om] at a
   have b:ltE l[k] l[k+1]:=by
    by_cases c:ltE l[k] l[k+1]
    ·exact c
    ·exact absurd ⟨_,Ad d,.inr ⟨by omega,_,Ad om,c⟩⟩ (e (k+1))
   rcases aJ.1 a with a|a
   ·exact UZ (ih om y a) b
   ·rw [bI.1 a];exact b
theorem c1A {R C:Int} {x:aN} (h:inE R C x):okF x.Value:=⟨by have:=h.2.2.1;omega,h.2.2.2⟩
def Pu (l:List aN):List UInt8:=l.flatMap fun x=>[UInt8.ofInt x.Row,UInt8.ofInt x.Col]++lD x.Value
theorem G7 (l:List aN):(Pu l).length=6*l.length:=by
 induction l with
 |nil=>rfl
 |cons x l ih=>simp only [Pu,dA,a8,ab] at*;rw [ih];simp [gg];omega
theorem a78 (l:List aN) (x:aN):Pu (l++[x])=Pu l++([UInt8.ofInt x.Row,UInt8.ofInt x.Col]++lD x.Value):=by simp [Pu]
def a94 (l:List aN):List UInt8:=lD (l.length:Int)++Pu l
def a0A (s:bD):List UInt8:=[115,121,115,116,101,109]++[UInt8.ofInt s.Rows,UInt8.ofInt s.Cols,UInt8.ofInt s.Publics]++a94 s.A++a94 s.B++a94 s.C
theorem b2G (l:List aN):(a94 l).length=4+6*l.length:=by rw [a94,a8,G7,gg]
theorem Ns {l2 L:List UInt8} {t t2 t3 l c4 c5 c6:List aN} {t4 c c2 c3:Int} (h:l.length<=200) (hL:L.length<=1000000):Loop (en l2 t t2 t3 t4 l (l.length:Int) c c2 c3 c4 c5 c6) (L,0)=some (L++Pu l,(l.length:Int),false):=by
 have key:=bq (step:=en l2 t t2 t3 t4 l (l.length:Int) c c2 c3 c4 c5 c6) (fun k=>(L++Pu (l.take k),(k:Int))) l.length (e:=(L++Pu l,(l.length:Int),false)) (fun k a=> ?_) ?_
 ·simpa [Pu] using key
 ·simp only [en]
  have hn:=G7 (l.take k)
  rw [aD] at hn
  rw [brd om,cJ a,obs,aS (by simp only [a8,ab,ah];omega),qN (by simp only [a8,ab,ah];omega),obs,ai _ om om,cB a,a78]
  simp only [aP,zQ]
 ·simp only [en]
  rw [brn om,ae om,bw]
theorem a2J {l2 L:List UInt8} {t t2 t3 l c4 c5 c6:List aN} {t4 c c2 c3:Int} (h:l.length<=200) (hL:L.length<=1000000):Loop (jC l2 t t2 t3 t4 l (l.length:Int) c c2 c3 c4 c5 c6) (L,0)=some (L++Pu l,(l.length:Int),false):=Ns (l2:=l2) (t:=t) (t2:=t2) (t3:=t3) (c4:=c4) (c5:=c5) (c6:=c6) (t4:=t4) (c:=c) (c2:=c2) (c3:=c3) h hL
theorem a3j {l2 L:List UInt8} {t t2 t3 l c4 c5 c6:List aN} {t4 c c2 c3:Int} (h:l.length<=200) (hL:L.length<=1000000):Loop (jH l2 t t2 t3 t4 l (l.length:Int) c c2 c3 c4 c5 c6) (L,0)=some (L++Pu l,(l.length:Int),false):=Ns (l2:=l2) (t:=t) (t2:=t2) (t3:=t3) (c4:=c4) (c5:=c5) (c6:=c6) (t4:=t4) (c:=c) (c2:=c2) (c3:=c3) h hL
theorem Pk {s:bD} (a:s.A.length<=200) (b:s.B.length<=200) (c:s.C.length<=200):jW s=some (a0A s):=by
 have d:=G7 s.A
 have e:=G7 s.B
 have c1:=G7 s.C
 unfold jW ez
 rw [aS (by simp only [a8,ab,ah];omega),obs]
 dsimp only
 rw [qN (by simp only [a8,ab,ah];omega),obs,Ns a (by simp only [a8,ab,ah,gg];omega),obs,
  qN (by simp only [a8,ab,ah,gg];omega),obs,a2J b (by simp only [a8,ab,ah,gg];omega),obs,
  qN (by simp only [a8,ab,ah,gg];omega),obs,a3j c (by simp only [a8,ab,ah,gg];omega),obs]
 simp only [a0A,a94,aP]
theorem b4r (s:bD):(a0A s).length=21+6*(s.A.length+s.B.length+s.C.length):=by
 simp only [a0A,a8,b2G,ab,ah];omega
end
section
def ja:List K->List K->K
 |a::xs,b::ys=>a*b+ja xs ys
 |_,_=>0
theorem a1G: ∀(a b:List K) (c:K),((kv a).zip (kv b)).foldl (fun c p=>eA c (eM p.1 p.2)) c.1=(c+ja a b).1
 |[],b,c=>by
  show c.1=(c+0).1
  exact congrArg Subtype.val (by exact kg)
 |_::_,[],c=>by
  show c.1=(c+0).1
  exact congrArg Subtype.val (by exact kg)
 |x::a,y::b,c=>by
  have:=a1G a b (c+x*y)
  show ((kv a).zip (kv b)).foldl _ (c+x*y).1=_
  rw [this]
  exact congrArg Subtype.val (by rw [ja];exact kg)
theorem Wc (a b:List K):a2o (kv a) (kv b)=(ja a b).1:=by
 have:=a1G a b 0
 rw [a2o]
 rw [show e0=(0:K).1 from rfl,this]
 exact congrArg Subtype.val (by exact kg)
theorem Tt (d:K): ∀(T Q:List K) (c:Nat),c<T.length->ja (T.set c (T.getD c 0+d)) Q=ja T Q+d*Q.getD c 0
 |[],_,c,h=>by simp at h
 |x::T,[],0,_=>by simp only [uY,ja,List.getD_nil];exact kg
 |x::T,y::Q,0,_=>by simp only [uY,ja,List.getD_cons_zero];exact kg
 |x::T,[],c+1,_=>by simp only [vC,ja,List.getD_nil];exact kg
 |x::T,y::Q,c+1,h=>by
  have:=Tt d T Q c (by simpa using h)
  simp only [vC,ja,List.getD_cons_succ,this];exact kg
def sK (R Q:List K):List aN->K
 |[]=>0
 |x::l=>R.getD x.Row.toNat 0*Q.getD x.Col.toNat 0*kF x.Value+sK R Q l
def btS (β:K) (R T:List K) (x:aN):List K:=T.set x.Col.toNat (T.getD x.Col.toNat 0+β*R.getD x.Row.toNat 0*kF x.Value)
theorem vn (β:K) (R:List K): ∀(l:List aN) (T:List K),(l.foldl (btS β R) T).length=T.length
 |[],T=>rfl
 |x::l,T=>by rw [bP,vn β R l,btS,aO]
theorem XC (β:K) (R Q:List K): ∀(l:List aN) (T:List K),(∀x∈l,x.Col.toNat<T.length)->ja (l.foldl (btS β R) T) Q=ja T Q+β*sK R Q l
 |[],T,_=>by rw [jd,sK];exact kg
 |x::l,T,h=>by
  rw [bP,XC β R Q l _ fun y hy=>by rw [btS,aO];exact h y (by simp [hy]),btS,Tt _ _ _ _ (h x sm),sK];exact kg
theorem c4h (l:List K) (j:Nat) (x:K):(kv l).set j x.1=kv (l.set j x):=by simp [kv,List.map_set]
theorem Rv {R T:List K} {β:K} {l t t2 t3 c4 c5 c6:List aN} {t4 c c2 c3 c9 c10 c11 c12 RR CC:Int} (d:OkM l RR CC) (i:(R.length:Int)=RR) (k:(T.length:Int)=CC):
 Loop (jh (kv R) t t2 t3 t4 l (l.length:Int) c c2 c3 c4 c5 c6 β.1.A β.1.B c9 c10 c11 c12) (kv T,0)=some (kv (l.foldl (btS β R) T),(l.length:Int),false):=by
 have m:=d.len
 have key:=bq (step:=jh (kv R) t t2 t3 t4 l (l.length:Int) c c2 c3 c4 c5 c6 β.1.A β.1.B c9 c10 c11 c12) (fun j=>(kv ((l.take j).foldl (btS β R) T),(j:Int))) l.length (e:=(kv (l.foldl (btS β R) T),(l.length:Int),false)) (fun j b=> ?_) ?_
 ·exact key
 ·simp only [jh]
  obtain ⟨h,hc,_⟩:=d.ent _ (b9 b)
  have f:=c1A (d.ent _ (b9 b))
  have hn:=vn β R (l.take j) T
  have a:atL (kv R) l[j].Row=some (R.getD l[j].Row.toNat 0).1:=by
   have:=uF (l:=R) (j:=l[j].Row.toNat) om
   rwa [fD h.1] at this
  rw [brd om,cJ b,obs,brd hc.1,brd (by rw [bB,hn];omega),MB om,obs,a,obs,show Ext.mk β.1.A β.1.B=β.1 from rfl,gq β.2 (aI _),obs,yr (Fh _ _) f,obs,
   jI (aI _) (a9N _ _),obs,brd hc.1,brd (by rw [bB,hn];omega),obs,ai _ om om,Zo, <-Kb f,cB b,gG]
  show some (Sum.inl ((kv _).set l[j].Col.toNat ((List.foldl (btS β R) T (l.take j)).getD l[j].Col.toNat 0+β*R.getD l[j].Row.toNat 0*kF l[j].Value).1,_))=_
  rw [c4h];rfl
 ·simp only [jh]
  rw [brn om,ae om,bw]
end
section
def A3 (out:List K) (p:K):List K:=out.map (fun a=>a*(1-p))++out.map (fun a=>a*p)
def eqK (P:List K):List K:=P.foldl A3 [1]
theorem c47 (out:List K) (p:K):eqS (kv out) p.1=kv (A3 out p):=by
 simp only [eqS,kv,A3,bW,fg];rfl
theorem b2L: ∀(P out:List K),(kv P).foldl eqS (kv out)=kv (P.foldl A3 out)
 |[],out=>rfl
 |p::P,out=>by
  show (kv P).foldl eqS (eqS (kv out) p.1)=_
  rw [c47,b2L P];rfl
theorem Gt (P:List K):eqT (kv P)=kv (eqK P):=b2L P [1]
def gK (A out:List K):List K:=A.flatMap fun e=>out.map fun x=>x*e
theorem b76 (A out:List K) (p:K):A3 (gK A out) p=gK (A3 A p) out:=by
 have h: ∀(q:K) (A:List K),(gK A out).map (fun a=>a*q)=gK (A.map (fun a=>a*q)) out:=fun q A=>by
  induction A with
  |nil=>rfl
  |cons a A ih=>
   simp only [gK,dA,aM,bW,fg] at ih ⊢
   rw [ih]
   congr 1
   refine bn fun x _=> ?_
   show x*a*q=x*(a*q)
   exact kg
 rw [A3,h,h,A3,gK,gK,gK,List.flatMap_append]
theorem a62 (out:List K): ∀(P A:List K),P.foldl A3 (gK A out)=gK (P.foldl A3 A) out
 |[],A=>rfl
 |p::P,A=>by
  show P.foldl A3 (A3 (gK A out) p)=_
  rw [b76,a62 out P];rfl
theorem ZJ (r:K) (P:List K):eqK (r::P)=gK (eqK P) (A3 [1] r):=by
 show P.foldl A3 (A3 [1] r)=_
 have:A3 [1] r=gK [1] (A3 [1] r):=by
  have h: ∀l:List K,gK [1] l=l:=fun l=>by
   show l.map (fun x=>x*1)++[]=l
   rw [bL]
   refine (bn fun x _=> ?_).trans (jO l)
   show x*1=x
   exact kg
  rw [h]
 rw [this,a62,a r];rfl
where
 a (r:K):gK [1] (A3 [1] r)=A3 [1] r:=by
   have h: ∀l:List K,gK [1] l=l:=fun l=>by
    show l.map (fun x=>x*1)++[]=l
    rw [bL]
    refine (bn fun x _=> ?_).trans (jO l)
    show x*1=x
    exact kg
   rw [h]
theorem EI (P:List K):(eqK P).length=2^P.length:=by
 have:=PW (kv P)
 rw [Gt,bB,bB] at this;exact this
theorem a1u (r:K): ∀(E t:List K),t.length=2*E.length->ja t (gK E (A3 [1] r))=ja (fdK r t) E
 |[],t,h=>by
  have:t=[]:=bN (by simpa using h)
  subst this;rfl
 |e::E,[],h=>by simp at h
 |e::E,[a],h=>by simp at h;omega
 |e::E,a::b::t,h=>by
  have ih:=a1u r E t (by simp only [ab] at h;omega)
  show a*(1*(1-r)*e)+(b*(1*r*e)+ja t (gK E (A3 [1] r)))=(a+r*(b-a))*e+ja (fdK r t) E
  rw [ih];exact kg
def FA (P t:List K):List K:=P.foldl (fun t r=>fdK r t) t
theorem PH: ∀(P t:List K),t.length=2^P.length->ja t (eqK P)=(FA P t).getD 0 0
 |[],t,h=>by
  match t,h with
  |[a],_=>show a*1+0=a;exact kg
 |r::P,t,h=>by
  rw [ab,zt] at h
  rw [ZJ,a1u r _ _ (by rw [EI];exact h),PH P _ (E8 r t _ h)];rfl
variable {kind:Nat} {bh:List K->Source->Source}
theorem Ql (i:Nat): ∀(v:Nat) (P:List K) (T:List (List K)) (s:Source),(pvM kind bh v P T s).2.2.1.getD i []=FA (pvM kind bh v P T s).2.1 (T.getD i [])
 |0,P,T,s=>rfl
 |v+1,P,T,s=>by
  simp only [pvM]
  rw [Ql i v,PU];rfl
theorem Ds (T:List (List K)) (i:Nat):(p5 T).getD i 0=(T.getD i []).getD 0 0:=uQ T 0 i
theorem WI {T:List (List K)}:wU kind T 1=cmK kind (p5 T):=by
 show 0+cmK kind (vp T 0)=_
 rw [a6P];exact kg
end
section
theorem c3J {α:Type} {g:Nat->Option α} {N:Nat} {r:α} (h: ∀n,g n=if N<=n then some r else none):lim g=some r:=by
 have a: ∃n r,g n=some r:=⟨N,r,by rw [h,aa (am _)]⟩
 unfold lim
 rw [dif_pos a]
 obtain ⟨r',b⟩:=a.choose_spec
 have:=h a.choose
 rw [b] at this ⊢
 split at this
 ·exact this
 ·cases this
theorem b6q (l:List K) (j:Nat):(kv l).take j=kv (l.take j):=by simp [kv]
theorem UM {l:List K} {j:Nat} (h:j<l.length):l.take (j+1)=l.take j++[l.getD j 0]:=by rw [cB h];simp [h]
theorem WY (l:List K) (x:K):kv (l++[x])=kv l++[x.1]:=by simp [kv]
theorem Jv: ∀k:Nat,k<=9->1<=2^k/\2^k<=512:=by decide
theorem b71 {l:List K} {m:Nat} {w:Int} (h:l.length=2*m) (a:m<=1000):Loop (oQ (kv l) w) ([],[],0)=some (kv (evs l),kv (ods l),(l.length:Int),false):=by
 have b:=mI l m h
 have c:=nr l m h
 have key:=bq (step:=oQ (kv l) w) (fun j=>(kv ((evs l).take j),kv ((ods l).take j),((2*j:Nat):Int))) m (e:=(kv (evs l),kv (ods l),(l.length:Int),false)) (fun j d=> ?_) ?_
 ·exact key
 ·simp only [oQ]
  have e1:atL (kv l) ((2*j:Nat):Int)=some ((evs l).getD j 0).1:=by rw [uF om,pQ]
  have e2:atL (kv l) ((2*j+1:Nat):Int)=some ((ods l).getD j 0).1:=by rw [uF om,sw]
  rw [brd (by rw [bB];omega),e1,obs,aS (by rw [a8,bB,aD,ag];omega),ai _ om om,show (((2*j:Nat):Int))+1=((2*j+1:Nat):Int) by omega,e2,obs,
   aS (by rw [a8,bB,aD,ag];omega),ai _ om om,show (((2*j:Nat):Int))+2=((2*(j+1):Nat):Int) by omega,UM om,UM om,WY,WY]
 ·simp only [oQ]
  rw [brn (by rw [bB];omega),ae (by rw [bB];omega),aX om,aX om,h]
def pwI (w:Int):Nat->Int
 |0=>1
 |j+1=>mF (pwI w j) w
theorem a2a (w:Int): ∀j,okF (pwI w j)
 |0=>c1f
 |j+1=>w7 _ _
theorem b4X (w:Int): ∀j,kF (pwI w j)=kF w^j
 |0=>rfl
 |j+1=>by rw [pwI,QH,b4X w j,pwS]
def NH (h j:Nat) (lo hi:Nat->K):List Ext:=(List.range (2*h)).map fun i=>if i<h then (if i<j then (lo i).1 else e0) else if i-h<j then (hi (i-h)).1 else e0
theorem a0F (h j:Nat) (lo hi:Nat->K):(NH h j lo hi).length=2*h:=by simp [NH]
theorem a74 (h:Nat) (lo hi:Nat->K):NH h 0 lo hi=List.replicate (2*h) e0:=by
 refine jp (by simp [NH]) fun i a b=> ?_
 simp [NH]
theorem b4Z {h j:Nat} {lo hi:Nat->K} (a:j<h):((NH h j lo hi).set j (lo j).1).set (j+h) (hi j).1=NH h (j+1) lo hi:=by
 refine jp (by simp [NH]) fun i b c=> ?_
 simp only [NH,List.getElem_set,List.getElem_map,vD]
 by_cases c1:j+h=i
 ·subst c1
  rw [aa rfl,a7 om,aa om,show j+h-h=j by omega]
 ·rw [a7 c1]
  by_cases c2:j=i
  ·subst c2
   rw [aa rfl,aa a,aa om]
  ·rw [a7 c2]
   by_cases c3:i<h
   ·rw [aa c3,aa c3]
    by_cases c4:i<j
    ·rw [aa c4,aa om]
    ·rw [a7 c4,a7 om]
   ·rw [a7 c3,a7 c3]
    by_cases c4:i-h<j
    ·rw [aa c4,aa om]
    ·rw [a7 c4,a7 om]
theorem a9o {h:Nat} {lo hi:Nat->K}:NH h h lo hi=kv ((List.range h).map lo++(List.range h).map hi):=by
 refine jp (by simp [NH,kv];omega) fun i a b=> ?_
 rw [a0F] at a
 simp only [NH,kv,List.getElem_map,vD,List.getElem_append,aw,dX]
 by_cases c:i<h
 ·simp [c]
 ·simp [c,show i-h<h by omega]
theorem c4B:(Ext.mk 0 0)=e0:=rfl
theorem b0b {E O:List K} {w:Int} {h:Nat} (hE:E.length=h) (d:O.length=h) (a:okF w) (f:h<=1000):
 Loop (og (kv E) (kv O) w (h:Int) (h:Int)) (List.replicate (2*h) e0,1,0)=some (kv (a2P E O (kF w) h++a2p E O (kF w) h),pwI w h,(h:Int),false):=by
 have key:=bq (step:=og (kv E) (kv O) w (h:Int) (h:Int)) (fun j=>(NH h j (fun j=>E.getD j 0+O.getD j 0*kF w^j) (fun j=>E.getD j 0-O.getD j 0*kF w^j),pwI w j,(j:Int))) h
  (e:=(kv (a2P E O (kF w) h++a2p E O (kF w) h),pwI w h,(h:Int),false)) (fun j b=> ?_) ?_
 ·rw [a74] at key;exact key
 ·simp only [og,aY]
  have c:eC (O.getD j 0).1 (pwI w j)=(O.getD j 0*kF w^j).1:=by rw [Zo, <-b4X, <-Kb (a2a w j)];rfl
  have i:=a0F h j (fun j=>E.getD j 0+O.getD j 0*kF w^j) (fun j=>E.getD j 0-O.getD j 0*kF w^j)
  rw [ai ((j:Int)+(h:Int)) om om,show (j:Int)+(h:Int)=((j+h:Nat):Int) by omega]
  simp only [aY]
  rw [brd om,brd om,brd (by rw [bB];omega),MB om,obs,yr (aI _) (a2a w j),obs,c,brd om,brd (by rw [bB];omega),MB om,obs,jI (aI _) (aI _),obs,
   brd om,brd (by rw [bB];omega),obs,mQ (aI _) (aI _),obs,brd om,brd om,Ad om,obs,brd om,brd om,Ad (by rw [aO];omega),obs,
   ml (a2a w j) a,obs,ai _ om om, <-b4Z b]
  rfl
 ·simp only [og]
  rw [brn om,ae om,a9o];rfl
theorem xb: ∀(n k:Nat) (l:List K) (w:Int),k<=9->okF w->l.length=2^k->rE n (kv l) w=if k+1<=n then some (kv (V k l (kF w))) else none
 |0,k,l,w,_,_,_=>by rw [a7 om];rfl
 |n+1,0,l,w,_,_,b=>by
  rw [aa om]
  unfold rE di
  rw [bB,b,bre sm,aS dcd];rfl
 |n+1,k+1,l,w,h,d,b=>by
  have o:=Jv (k+1) h
  have i:=Jv k om
  have j:l.length=2*2^k:=by rw [b,aZ];omega
  have e:=ID b
  have f:=J3 b
  have a:=w7 w w
  unfold rE
  rw [bB,cm om,b71 j om,obs,ml d d,obs]
  dsimp only
  by_cases c:k+1<=n
  ·have hE:=Dg k (evs l) (kF (mF w w)) e
   have m:=Dg k (ods l) (kF (mF w w)) f
   rw [xb n k (evs l) _ om a e,aa c,obs,obs,xb n k (ods l) _ om a f,aa c,obs,aa om,bB,hE,ai _ om om,a0O om om om,show ((2:Int)*((2^k:Nat):Int)).toNat=2*2^k by omega,c4B,b0b hE m d om,obs,QH];rfl
  ·rw [xb n k (evs l) _ om a e,a7 c,a7 om];rfl
theorem a0Q {k:Nat} {l:List K} {w:Int} (a:k<=9) (b:okF w) (c:l.length=2^k):SJ (kv l) w=some (kv (V k l (kF w))):=c3J fun n=>xb n k l w a b c
end
section
abbrev Tx:=List UInt8
def Tm (t:Tx):Tx:=0::t
def Tu (a b:Tx):Tx:=1::(a++b)
def hL (t:Tx):Tx:=H (Tm t)
def hN (a b:Tx):Tx:=H (Tu a b)
theorem a1i {l:List Tx} {k:Nat} (h:k<l.length):atL l (k:Int)=some (l.getD k []):=by simp [atL,h]
theorem Jt {t:Tx} (h:t.length<=1000000):wE t=some (Tm t):=by
 unfold wE;rw [aS (by simp only [ab,ah];omega)];rfl
theorem Cn {a b:Tx} (c:a.length<=1000000) (d:b.length<=1000000):ua a b=some (Tu a b):=by
 unfold ua
 rw [aS (by simp only [ab,ah];omega),aS (by simp only [a8,ab,ah];omega)];rfl
def upL (row:List Tx):List Tx:=(List.range (row.length/2)).map fun k=>hN (row.getD (2*k) []) (row.getD (2*k+1) [])
theorem b7F (row:List Tx):(upL row).length=row.length/2:=by simp [upL]
def Hs (l:List Tx):Prop:= ∀x∈l,x.length=32
theorem c4q (row:List Tx):Hs (upL row):=fun x a=>by
 obtain ⟨k,_,rfl⟩:=bf.1 a;exact EU _
theorem Hs.getD {l:List Tx} (h:Hs l) {k:Nat} (a:k<l.length):(l.getD k []).length=32:=by simp [a];exact h _ (b9 a)
theorem rf {α:Type} (f:Nat->α) (k:Nat):(List.range (k+1)).map f=(List.range k).map f++[f k]:=by rw [ed,bW];rfl
theorem b9p {l3:List (List Tx)} {row:List Tx} {m:Nat} (a:Hs row) (b:row.length=2*m) (c:m<=1000000):Loop (rW l3 row) ([],0)=some (upL row,((2*m:Nat):Int),false):=by
 have e:upL row=(List.range m).map fun k=>hN (row.getD (2*k) []) (row.getD (2*k+1) []):=by rw [upL,b];simp
 rw [e]
 exact bq (fun k=>((List.range k).map fun k=>hN (row.getD (2*k) []) (row.getD (2*k+1) []),((2*k:Nat):Int))) m (fun k d=>by
  have f:=a.getD (k:=2*k) om
  have h:=a.getD (k:=2*k+1) om
  simp only [rW]
  rw [brd om,a1i om,obs,ai _ om om,show (((2*k:Nat):Int))+1=((2*k+1:Nat):Int) by omega,a1i om,obs,Cn om om,obs,
   xO (by simp only [Tu,ab,a8];omega),obs,aS (by simp only [a8,aw,dX,ag];omega),ai _ om om,rf]
  rw [show (((2*k:Nat):Int))+2=((2*(k+1):Nat):Int) by omega];rfl) (by
  simp only [rW]
  rw [brn om,ae om])
def rowAt (row:List Tx) (j:Nat):List Tx:=iU (fun _ r=>upL r) j row
theorem K2 (row:List Tx) (j:Nat):rowAt row (j+1)=upL (rowAt row j):=rfl
theorem uC {row:List Tx} {k:Nat} (h:row.length=2^k): ∀j,j<=k->(rowAt row j).length=2^(k-j)
 |0,_=>by simpa [rowAt,iU] using h
 |j+1,hj=>by
  rw [K2,b7F,uC h j om,show k-j=(k-(j+1))+1 by omega,aZ];omega
theorem Y3 {row:List Tx} (h:Hs row): ∀j,Hs (rowAt row j)
 |0=>h
 |j+1=>c4q _
def w6 (row:List Tx) (k:Nat):List (List Tx):=(List.range (k+1)).map (rowAt row)
theorem b8x: ∀k:Nat,k<=9->1<=2^k/\2^k<=512:=by decide
theorem EH {k j:Nat} (a:j<k):2^(k-j)=2*2^(k-(j+1)):=by
 rw [show k-j=(k-(j+1))+1 by omega,aZ];omega
theorem a7V {row:List Tx} {k:Nat} (c:Hs row) (a:row.length=2^k) (f:k<=9):Loop oj ([row],row)=some (w6 row k,rowAt row k,false):=by
 have key:=bq (step:=oj) (fun j=>(w6 row j,rowAt row j)) k (e:=(w6 row k,rowAt row k,false)) (fun j d=>by
  have b:=uC a j om
  have h:=EH d
  have i:=b8x (k-(j+1)) om
  simp only [oj]
  rw [brd om,b9p (m:=2^(k-(j+1))) (Y3 c j) om om,obs]
  dsimp only
  rw [aS (by simp only [w6,a8,aw,dX,ag];omega)]
  rw [w6,w6,rf _ (j+1),K2]) (by
  have b:=uC a k om
  rw [kU,kP] at b
  simp only [oj]
  rw [brn om,ae om])
 exact key
def c0C (l:List Tx):Prop:= ∀x∈l,x.length<=1000
theorem Q9 (l:List Tx):Hs (l.map hL):=fun x a=>by obtain ⟨y,_,rfl⟩:=bf.1 a;exact EU _
theorem Z2 {l:List Tx} {k:Nat} (c:c0C l) (d:l.length=2^k) (b:k<=9):Gx l=some (w6 (l.map hL) k):=by
 have e:=b8x k b
 unfold Gx
 have key:Loop (rK l (l.length:Int)) ([],0)=some (l.map hL,(l.length:Int),false):=
  bq (fun j=>((l.take j).map hL,(j:Int))) l.length (fun j a=>by
   have f:=c _ (b9 a)
   simp only [rK]
   rw [brd om,cJ a,obs,Jt om,obs,xO (by simp only [Tm,ab];omega),obs,aS (by simp only [a8,aw,aD,ag];omega),ai _ om om,cB a,bW]
   rfl) (by
   simp only [rK]
   rw [brn om,ae om,bw])
 rw [key,obs]
 dsimp only
 rw [a7V (Q9 l) (by rw [aw,d]) b,obs]
def Wx (row:List Tx) (k:Nat):Tx:=(rowAt row k).getD 0 []
theorem Ho (row:List Tx) (k:Nat):(w6 row k).length=k+1:=by simp [w6]
theorem a97 {row:List Tx} {k j:Nat} (h:j<=k):atL (w6 row k) (j:Int)=some (rowAt row j):=by
 rw [cJ (by rw [Ho];omega)];simp [w6]
theorem ZT {row:List Tx} {k:Nat} (a:row.length=2^k) (c:k<=9):Av (w6 row k)=some (Wx row k):=by
 unfold Av
 have b:=uC a k (am _)
 rw [kU,kP] at b
 rw [Ho,ai _ om om,show (((k+1:Nat):Int))-1=(k:Int) by omega,a97 (am _),obs]
 have e:=a1i (l:=rowAt row k) (k:=0) om
 rw [show ((0:Nat):Int)=0 from rfl] at e
 rw [e];rfl
def sib (i:Nat):Nat:=if i%2=0 then i+1 else i-1
theorem c2t: ∀i:Nat,i<512->sx .i64 (i:Int) 1=(sib i:Int):=by decide+kernel
def wh (row:List Tx) (k i:Nat):List Tx:=(List.range k).map fun j=>(rowAt row j).getD (sib (i/2^j)) []
theorem UP (row:List Tx) (k i:Nat):(wh row k i).length=k:=by simp [wh]
theorem T8 {i k j:Nat} (hi:i<2^k) (a:j<k):i/2^j<2^(k-j):=by
 rw [j0 (Nat.pow_pos dcd), <-Nat.pow_add]
 rwa [show k-j+j=k by omega]
theorem a9X {i m:Nat} (h:i<2*m):sib i<2*m:=by unfold sib;split<;>omega
theorem a0t (i j:Nat):i/2^j/2=i/2^(j+1):=by rw [qC,aZ]
theorem a9f {row:List Tx} {k i j:Nat} (b:row.length=2^k) (e:k<=9) (hi:i<2^k) (a:j<k):atL (rowAt row j) (sx .i64 ((i/2^j:Nat):Int) 1)=some ((rowAt row j).getD (sib (i/2^j)) []):=by
 have c:=uC b j om
 have f:=T8 hi a
 have h:=b8x (k-j) om
 have d:=EH a
 rw [c2t _ om,a1i (by rw [c,d];exact a9X om)]
theorem a7T (q:Nat) (h:q<=1000000):IntKind.wrap .i64 ((q:Int)/2)=((q/2:Nat):Int):=by
 rw [ai _ om om];omega
theorem a0D {row:List Tx} {k i:Nat} (b:row.length=2^k) (a:k<=9) (hi:i<2^k):Gs (w6 row k) i=some (wh row k i):=by
 unfold Gs
 have f:=b8x k a
 rw [Ho,ai _ om om,ke om om (by rw [Ho];omega),obs]
 have e:((w6 row k).drop (Int.toNat 0)).take ((((k+1:Nat):Int)-1).toNat-Int.toNat 0)=(List.range k).map (rowAt row):=by
  rw [show (((k+1:Nat):Int)-1).toNat=k by omega]
  show ((w6 row k).take k)=_
  rw [w6, <-List.map_take,List.take_range,dp om]
 rw [e]
 have el:((List.range k).map (rowAt row)).length=k:=by simp
 rw [el]
 have key:Loop (o9 ((List.range k).map (rowAt row)) (k:Int)) ([],(i:Int),0)=some (wh row k i,((i/2^k:Nat):Int),(k:Int),false):=by
  have key:=bq (step:=o9 ((List.range k).map (rowAt row)) (k:Int)) (fun j=>(wh row j i,((i/2^j:Nat):Int),(j:Int))) k (e:=(wh row k i,((i/2^k:Nat):Int),(k:Int),false)) (fun j c=>by
   have d:i/2^j<=i:=Nat.div_le_self _ _
   simp only [o9]
   rw [brd om,cJ om,obs,List.getElem_map,vD,a9f b a hi c,obs,aS (by simp only [a8,UP,ag];omega),pR _ _ (by exact vM _),a7T _ (by exact fW d om),ai _ om om,wh,wh,rf, <-a0t]
   rfl) (by
   simp only [o9]
   rw [brn om,ae om])
  simpa [wh] using key
 rw [key];rfl
end
section
def vW (i:Nat) (leaf:Tx) (path:List Tx):Nat->Tx
 |0=>Tm leaf
 |j+1=>if i/2^j%2=1 then Tu (path.getD j []) (H (vW i leaf path j)) else Tu (H (vW i leaf path j)) (path.getD j [])
def Pn (i:Nat) (leaf:Tx) (path:List Tx) (j:Nat):List Tx:=(List.range (j+1)).map (vW i leaf path)
theorem Ax (i:Nat) (leaf:Tx) (path:List Tx) (j:Nat):(Pn i leaf path j).length=j+1:=by simp [Pn]
theorem a0T {i:Nat} {leaf:Tx} {path:List Tx} {j m:Nat} (h:m<=j):atL (Pn i leaf path j) (m:Int)=some (vW i leaf path m):=by
 rw [cJ (by rw [Ax];omega)];simp [Pn]
theorem a90 {l:List Tx} (h:Hs l):(l.any fun x=> !decide (x.length=32))=false:=by
 rw [vZ];intro x a;simp [h x a]
theorem c3O {path:List Tx} (b:path.length<=1000) (a:Hs path):cD path=some false:=by
 unfold cD dF
 rw [zi (step:=dl path (path.length:Int)) (p:=fun x=> !decide (x.length=32)) (f:=CY) om (fun x _=>by unfold CY;rw [BB];rfl) (fun t=>rfl),a90 a]
theorem a6b {l:List Tx} {k i:Nat} (a:l.length=2^k) (hi:i<2^k): ∀j,j<=k->H (vW i (l.getD i []) (wh (l.map hL) k i) j)=(rowAt (l.map hL) j).getD (i/2^j) []
 |0,_=>by
  have h:i<l.length:=by omega
  simp [vW,rowAt,iU,h,hL]
 |j+1,n=>by
  have ih:=a6b a hi j om
  have b:(l.map hL).length=2^k:=by rw [aw,a]
  have o:=uC b j om
  have d:=T8 hi (show j<k by omega)
  have p:=EH (show j<k by omega)
  have e:(wh (l.map hL) k i).getD j []=(rowAt (l.map hL) j).getD (sib (i/2^j)) []:=by
   have:j<k:=by omega
   simp [wh,this]
  have f:i/2^(j+1)=i/2^j/2:=(a0t i j).symm
  rw [vW,ih,e,K2,f]
  generalize i/2^j=q at d
  have m:(upL (rowAt (l.map hL) j)).getD (q/2) []=hN ((rowAt (l.map hL) j).getD (2*(q/2)) []) ((rowAt (l.map hL) j).getD (2*(q/2)+1) []):=by
   have:q/2<(rowAt (l.map hL) j).length/2:=by omega
   simp [upL,this]
  rw [m]
  unfold hN sib
  by_cases c:q%2=1
  ·rw [aa c,a7 om,show 2*(q/2)=q-1 by omega,show q-1+1=q by omega]
  ·rw [a7 c,aa om,show 2*(q/2)=q by omega]
theorem b0m {l:List Tx} {k i:Nat} (a:l.length=2^k) (hi:i<2^k):H (vW i (l.getD i []) (wh (l.map hL) k i) k)=Wx (l.map hL) k:=by
 rw [a6b a hi k (am _),Nat.div_eq_of_lt hi];rfl
theorem c1l {l:List Tx} {k i:Nat} (b:l.length=2^k) (hi:i<2^k):Hs (wh (l.map hL) k i):=fun x c=>by
 obtain ⟨j,a,rfl⟩:=bf.1 c
 have a:=bS.1 a
 have d:(l.map hL).length=2^k:=by rw [aw,b]
 have e:=uC d j om
 have f:=EH a
 have h:=T8 hi a
 exact (Y3 (Q9 l) j).getD (by rw [e,f];exact a9X om)
end
section
theorem c4b: ∀k:Nat,k<=9->Hz ((2^k:Nat):Int)=some (k:Int)
 |0,_=>rfl
 |1,_=>rfl
 |2,_=>rfl
 |3,_=>rfl
 |4,_=>rfl
 |5,_=>rfl
 |6,_=>rfl
 |7,_=>rfl
 |8,_=>rfl
 |9,_=>rfl
theorem b3r (a:Int): ∀n:Nat,K.n (a^n)=K.n a^n
 |0=>by rw [kX,pw0];rfl
 |n+1=>by rw [fX,K.n_mul,b3r a n,pwS]
theorem c2F (a:Int):K.n (a%2130706433)=K.n a:=K.ext (by show eN (a%2130706433%2130706433)=eN (a%2130706433);rw [qj])
theorem VI (a:Int) (n:Nat):kF (pF a n)=kF a^n:=by rw [kF,pF,c2F,b3r];rfl
def sqI:Nat->Int->Int
 |0,x=>x
 |n+1,x=>sqI n (mF x x)
theorem a2j: ∀(n:Nat) (x:Int),kF (sqI n x)=kF x^2^n
 |0,x=>by rw [sqI,kP,pw1]
 |n+1,x=>by rw [sqI,a2j n,QH,a1a, <-SG,aZ,ep]
def rtK (k:Nat):K:=kF (LW k)
theorem PG (k:Nat):rtK k=kF 3^(127*2^(24-k)):=by rw [rtK,LW,VI]
theorem c7h:sqI 23 (pF 3 127)=2130706432:=by decide+kernel
theorem c71:sqI 24 (pF 2 127)=1:=by decide+kernel
theorem c6J:kF 2130706432= -1:=K.ext (CF dcd rfl)
theorem c5c:kF 3^(127*2^23)= -1:=by rw [Hk, <-VI, <-a2j,c7h,c6J]
theorem c6V:kF 2^(127*2^24)=1:=by rw [Hk, <-VI, <-a2j,c71];rfl
theorem c0a {k:Nat} (h:k<=24):Rt k (rtK k):=by
 cases k with
 |zero=>trivial
 |succ j=>
  show rtK (j+1)^2^j= -1
  rw [PG, <-Hk,Nat.mul_assoc, <-Nat.pow_add,show 24-(j+1)+j=23 by omega,c5c]
theorem c5L {k:Nat} (h:k+1<=24):rtK (k+1)*rtK (k+1)=rtK k:=by
 rw [PG,PG, <-SG]
 congr 1
 rw [show 24-k=(24-(k+1))+1 by omega,aZ];omega
theorem b83 {k:Nat} (h:k<=24):rtK k^2^k=1:=by
 cases k with
 |zero=>
  rw [PG,kP,pw1,show 127*2^(24-0)=2*(127*2^23) by decide,SG,c5c];exact kg
 |succ j=>
  have:=c0a h
  rw [aZ,ep,SG,show rtK (j+1)^2^j= -1 from this];exact kg
theorem c6r {k:Nat} (h:k<=24):2^k*(127*2^(24-k))=2130706432:=by
 rw [Nat.mul_left_comm, <-Nat.pow_add,show k+(24-k)=24 by omega]
theorem b9N {x:K} {k:Nat} (h:k<=24) (a:x^2^k=1):x^2130706432=1:=by
 rw [<-c6r h,Hk,a,a4a]
theorem c0y {a:Int} (h:kF a^2130706432=1):kF (iF a)*kF a=1:=by
 rw [iF,VI, <-pwS];exact h
theorem c5i:kF 2^2130706432=1:=by
 have:=c6V
 rw [show 127*2^24=2130706432 by decide] at this;exact this
theorem b5H:kF (iF 2)*2=1:=c0y c5i
theorem b5u {k:Nat} (h:k<=24) (i:Nat):(rtK k^i)^2130706432=1:=b9N h (by rw [b8G,b83 h,a4a])
def fpK (k i:Nat) (a b r:K):K:=(a+b)*kF (iF 2)+r*(a-b)*(kF (iF 2)*kF (iF (pF (LW k) i)))
theorem a5h (a:Int):okF (iF a):=Zl _ _
theorem c6Z:okF 2:=⟨by decide,by decide⟩
theorem It {k i:Nat} (a b r:K) (c:k<=9) (hi:i<=1000):oO ((2^k:Nat):Int) i a.1 b.1 r.1=some (fpK k i a b r).1:=by
 unfold oO
 rw [E6 c6Z,obs,c4b k c,obs,UR om,obs,Rq (ZC k) om om,obs,jI a.2 b.2,obs,yr (a56 _ _) (a5h 2),obs,mQ a.2 b.2,obs,
  gq r.2 (IG _ _),obs,E6 (Zl _ _),obs,ml (a5h 2) (a5h _),obs,yr (Fh _ _) (w7 _ _),obs,jI (a9N _ _) (a9N _ _),obs,aY,Zo,Zo, <-Kb (a5h 2), <-Kb (w7 _ _),QH];rfl
theorem c5m {k i:Nat} (b:k<=9) (E O r:K):fpK k i (E+O*rtK k^i) (E-O*rtK k^i) r=E+r*O:=by
 have c:=b5H
 have d:kF (iF (pF (LW k) i))*rtK k^i=1:=by
  have:=c0y (a:=pF (LW k) i) (by rw [VI];exact b5u om i)
  rw [VI] at this;exact this
 unfold fpK
 generalize kF (iF 2)=t at*
 generalize kF (iF (pF (LW k) i))=y at*
 generalize rtK k^i=x at*
 exact kg
def fwK (k:Nat) (W:List K) (r:K):List K:=(List.range (2^k)).map fun i=>fpK (k+1) i (W.getD i 0) (W.getD (i+2^k) 0) r
theorem HG (k:Nat) (W:List K) (r:K):(fwK k W r).length=2^k:=by simp [fwK]
theorem Jj {k:Nat} {W:List K} (r:K) (a:k+1<=9) (b:W.length=2^(k+1)):Ao (kv W) r.1=some (kv (fwK k W r)):=by
 have d:=Jv (k+1) a
 have f:2^(k+1)=2*2^k:=by rw [aZ];omega
 unfold Ao
 have c:IntKind.wrap .i64 (((2^(k+1):Nat):Int).tdiv 2)=((2^k:Nat):Int):=by rw [pR _ _ om,ai _ om om];omega
 rw [bB,b,c]
 have key:=bq (step:=ly (kv W) ((2^k:Nat):Int) ((2^k:Nat):Int) r.1.A r.1.B) (fun j=>(kv ((List.range j).map fun i=>fpK (k+1) i (W.getD i 0) (W.getD (i+2^k) 0) r),(j:Int))) (2^k)
  (e:=(kv (fwK k W r),((2^k:Nat):Int),false)) (fun j h=> ?_) ?_
 ·have key':Loop (ly (kv W) ((2^k:Nat):Int) ((2^k:Nat):Int) r.1.A r.1.B) ([],0)=_:=key
  rw [key'];rfl
 ·simp only [ly]
  rw [brd om,uF om,obs,ai ((j:Int)+_) om om,show (j:Int)+((2^k:Nat):Int)=((j+2^k:Nat):Int) by omega,uF om,obs,bB,b,
   It _ _ r a om,obs,aS (by simp only [a8,bB,aw,dX,ag];omega),ai _ om om,ed,bW,ov,WY];rfl
 ·simp only [ly]
  rw [brn om,ae om];rfl
theorem c6U {k:Nat} {l:List K} (r:K) (e:k+1<=9) (b:l.length=2^(k+1)):fwK k (V (k+1) l (rtK (k+1))) r=V k (cb r (evs l) (ods l)) (rtK k):=by
 have c:=ID b
 have d:=J3 b
 rw [b1P k _ _ _ c d]
 have hE:=Dg k _ (rtK k) c
 have f:=Dg k _ (rtK k) d
 refine lr (by rw [HG,pJ om,hE]) fun j a=> ?_
 rw [HG] at a
 rw [fwK,xc a,b2V a,jf j,b3K a,nW om,c5L om,c5m e]
def DF (l:List K) (n:Nat):List K:=l++List.replicate (n-l.length) 0
theorem tw {l:List K} {n:Nat} (h:l.length<=n):(DF l n).length=n:=by simp [DF];omega
theorem Au (l:List K) (n j:Nat):(DF l n).getD j 0=l.getD j 0:=by
 unfold DF
 by_cases h:j<l.length
 ·rw [c6z h]
 ·obtain ⟨i,rfl⟩: ∃i,j=l.length+i:=⟨j-l.length,by omega⟩
  rw [c4A,b6a];simp
theorem b9z {l:List K} {a b:Nat} (h:l.length=2*a) (c:a<=b):evs (DF l (2*b))=DF (evs l) b:=by
 have d:=mI l a h
 refine lr (by rw [mI _ b (tw om),tw om]) fun j _=> ?_
 rw [pQ,Au,Au,pQ]
theorem b7u {l:List K} {a b:Nat} (h:l.length=2*a) (c:a<=b):ods (DF l (2*b))=DF (ods l) b:=by
 have d:=nr l a h
 refine lr (by rw [nr _ b (tw om),tw om]) fun j _=> ?_
 rw [sw,Au,Au,sw]
theorem c2l {r:K} {a b:List K} {n:Nat} (h:a.length=b.length) (hn:a.length<=n):cb r (DF a n) (DF b n)=DF (cb r a b) n:=by
 have c:=tw (l:=a) hn
 have f:=tw (l:=b) (n:=n) om
 have i:=pJ (r:=r) h
 have d:=pJ (r:=r) (a:=DF a n) (b:=DF b n) om
 have e:=tw (l:=cb r a b) (n:=n) om
 refine lr (by rw [d,c,e]) fun j _=> ?_
 rw [nW om,Au,Au,Au,nW h]
def Enc (m t:Nat) (l:List K):List K:=V (m+t) (DF l (2^(m+t))) (rtK (m+t))
theorem ED (m t:Nat):2^m<=2^(m+t):=Nat.pow_le_pow_right om om
theorem Rr {m t:Nat} {l:List K} (h:l.length=2^m):(DF l (2^(m+t))).length=2^(m+t):=tw (by rw [h];exact ED m t)
theorem b8j {m t:Nat} {l:List K} (h:l.length=2^m):(Enc m t l).length=2^(m+t):=Dg _ _ _ (Rr h)
theorem b00 {m t:Nat} {l:List K} (r:K) (c:m+t+1<=9) (h:l.length=2^(m+1)):fwK (m+t) (Enc (m+1) t l) r=Enc m t (cb r (evs l) (ods l)):=by
 have e:m+1+t=m+t+1:=by omega
 have a:=ED m t
 have b:l.length=2*2^m:=by rw [h,aZ];omega
 have d:=ID h
 have f:=J3 h
 unfold Enc
 rw [e,c6U r c (tw (by rw [h, <-e];exact ED _ _)),aZ,ep,b9z b a,b7u b a,c2l om om]
theorem b9g: ∀m:Nat,m<=9-> ∀t:Nat,t<=9->ct .i64 ((2^m:Nat):Int) (t:Int)=((2^(m+t):Nat):Int):=by decide+kernel
theorem b6i: ∀m:Nat,m<=9-> ∀t:Nat,t<=m->cc .i64 ((2^m:Nat):Int) (t:Int)=((2^(m-t):Nat):Int):=by decide+kernel
theorem c2e (n:Nat):kv (List.replicate n 0)=List.replicate n e0:=by rw [kv,vN];rfl
theorem b1Z (a b:List K):kv (a++b)=kv a++kv b:=by simp [kv]
theorem c0W (l:List K) (n:Nat):kv (DF l n)=kv l++List.replicate (n-l.length) e0:=by rw [DF,b1Z,c2e]
theorem LA {m t:Nat} {l:List K} (a:m+t<=9) (h:l.length=2^m):zX (kv l) (t:Int)=some (kv (Enc m t l)):=by
 have c:=Jv (m+t) a
 have b:=ED m t
 unfold zX
 have hc:yX (List.replicate (((2^(m+t):Nat):Int).toNat) (Ext.mk 0 0)) 0 (min (kv l).length (List.replicate (((2^(m+t):Nat):Int).toNat) (Ext.mk 0 0)).length) (kv l)=kv (DF l (2^(m+t))):=by
  rw [aL,aY,bB,h,dp b,c0W,h,yX]
  simp [bB,h,e0]
  exact aX (by rw [bB,h];omega)
 rw [brd om,bB,h,b9g m om t om,a0O om om om, <-h, <-bB l,hc]
 unfold a6e
 rw [bB,Rr h,c4b _ a,obs,UR om,obs,a0Q a (ZC _) (Rr h),obs,obs];rfl
end
section
def stK (l:List K) (j:Nat):List K:=(List.range l.length).map fun m=>if m/2^j%2=1 then l.getD m 0-l.getD (m-2^j) 0 else l.getD m 0
theorem lK (l:List K) (j:Nat):(stK l j).length=l.length:=by simp [stK]
def stP (l:List K) (j i:Nat):List K:=(List.range l.length).map fun m=>if m<i/\m/2^j%2=1 then l.getD m 0-l.getD (m-2^j) 0 else l.getD m 0
theorem EJ (l:List K) (j i:Nat):(stP l j i).length=l.length:=by simp [stP]
theorem PY {l:List K} {j i m:Nat} (h:m<l.length):(stP l j i).getD m 0=if m<i/\m/2^j%2=1 then l.getD m 0-l.getD (m-2^j) 0 else l.getD m 0:=by rw [stP,xc h]
theorem b5I (l:List K):(List.range l.length).map (fun m=>l.getD m 0)=l:=lr sm fun j a=>by
 rw [aw,dX] at a;rw [xc a]
theorem b2W (l:List K) (j:Nat):stP l j 0=l:=by
 rw [stP];exact (bn fun m _=>by rw [a7 om]).trans (b5I l)
theorem b6Y (l:List K) (j:Nat):stP l j l.length=stK l j:=by
 rw [stP,stK]
 refine bn fun m a=> ?_
 have:=bS.1 a
 by_cases c:m/2^j%2=1
 ·rw [aa ⟨this,c⟩,aa c]
 ·rw [a7 fun h=>c h.2,a7 c]
theorem b2h {l:List K} {j i:Nat} (h:i/2^j%2=0):stP l j (i+1)=stP l j i:=by
 rw [stP,stP]
 refine bn fun m a=> ?_
 by_cases c:m/2^j%2=1
 ·have:m≠i:=fun e=>by subst e;omega
  by_cases c2:m<i
  ·rw [aa ⟨by omega,c⟩,aa ⟨c2,c⟩]
  ·rw [a7 om,a7 om]
 ·rw [a7 fun h=>c h.2,a7 fun h=>c h.2]
theorem b5S {l:List K} {j i:Nat} (hi:i<l.length) (h:i/2^j%2=1):(stP l j i).set i (l.getD i 0-l.getD (i-2^j) 0)=stP l j (i+1):=by
 refine lr (by rw [aO,EJ,EJ]) fun m a=> ?_
 rw [aO,EJ] at a
 rw [PY a]
 by_cases c:m=i
 ·subst c
  rw [aa ⟨by omega,h⟩]
  simp [EJ,a]
 ·have:((stP l j i).set i (l.getD i 0-l.getD (i-2^j) 0)).getD m 0=(stP l j i).getD m 0:=by
   simp [dV,show ¬i=m by omega]
  rw [this,PY a]
  by_cases c2:m/2^j%2=1
  ·by_cases c3:m<i
   ·rw [aa ⟨c3,c2⟩,aa ⟨by omega,c2⟩]
   ·rw [a7 om,a7 om]
  ·rw [a7 fun h=>c2 h.2,a7 fun h=>c2 h.2]
theorem c6X: ∀i:Nat,i<64-> ∀j:Nat,j<6->(dc .i64 (i:Int) ((2^j:Nat):Int)==0)=decide (i/2^j%2=0):=by decide+kernel
theorem c79: ∀i:Nat,i<64-> ∀j:Nat,j<6->i/2^j%2=1->sx .i64 (i:Int) ((2^j:Nat):Int)=((i-2^j:Nat):Int)/\2^j<=i/\(i-2^j)/2^j%2=0:=by decide+kernel
def cfK:Nat->List K->List K
 |0,l=>l
 |j+1,l=>stK (cfK j l) j
theorem vq (l:List K): ∀j,(cfK j l).length=l.length
 |0=>rfl
 |j+1=>by rw [cfK,lK,vq l j]
theorem c4Q: ∀k:Nat,k<=6->1<=2^k/\2^k<=64:=by decide
theorem a0J (k:Nat) (a:k+1<=9):IntKind.wrap .i64 (((2^(k+1):Nat):Int).tdiv 2)=((2^k:Nat):Int):=by
 have b:=Jv (k+1) a
 have c:2^(k+1)=2*2^k:=by rw [aZ];omega
 rw [pR _ _ om,ai _ om om];omega
def lfK (k:Nat) (W:List K) (i:Nat):List UInt8:=[(W.getD i 0).1,(W.getD (i+2^k) 0).1].flatMap e8
def lvK (k:Nat) (W:List K):List (List UInt8):=(List.range (2^k)).map (lfK k W)
theorem HB (k:Nat) (W:List K):(lvK k W).length=2^k:=by simp [lvK]
theorem b8z (k:Nat) (W:List K) (i:Nat):(lfK k W i).length=16:=by rw [lfK,j2];rfl
theorem a95 (k:Nat) (W:List K):c0C (lvK k W):=fun x a=>by
 obtain ⟨i,_,rfl⟩:=bf.1 a;rw [b8z];omega
def wrK (k:Nat) (W:List K):List UInt8:=Wx ((lvK k W).map hL) k
theorem b5O {row:List Tx} {k:Nat} (h:Hs row) (a:row.length=2^k):(Wx row k).length=32:=(Y3 h k).getD (by rw [uC a k (am k),kU];decide)
theorem PS (k:Nat) (W:List K):(wrK k W).length=32:=b5O (Q9 _) (by rw [aw,HB])
end
section
def a7Q (n:Nat) (p:Nat->Bool):Bool:=(List.range n).all p
theorem Q5 {n:Nat} {p:Nat->Bool}:a7Q n p=true↔ ∀j,j<n->p j=true:=by simp [a7Q]
theorem a65 {n:Nat} {p:Nat->Bool} (h: ∀j,j<n->p j=true):a7Q n p=true:=Q5.2 h
theorem b5L {n:Nat} {p:Nat->Bool} {k:Nat} (a:k<n) (h:p k=false):a7Q n p=false:=by
 refine Bool.eq_false_iff.2 fun e=> ?_
 rw [Q5.1 e k a] at h;cases h
theorem b5s {E1 E2 R:Type} {step:Int->Option (Int⊕(E1⊕E2))} (n:Nat) (p:Nat->Bool) (e1:Nat->E1) {e2:E2} {f:E1->Option R} {g:E2->Option R} {x y:R} (d: ∀k,k<n->p k=true->step (k:Int)=some (.inl ((k+1:Nat):Int)))
 (h: ∀k,k<n->p k=false->step (k:Int)=some (.inr (.inl (e1 k)))) (i:step (n:Int)=some (.inr (.inr e2))) (j: ∀e,f e=some x) (l:g e2=some y):
 (Loop step 0).bind (alt f g)=some (if a7Q n p=true then y else x):=by
 rcases AN (step:=step) (fun k=>(k:Int)) n p (fun k=> .inl (e1 k)) d h i with ⟨b,c⟩|⟨k,m,b,_,c⟩
 ·have a:Loop step 0=_:=c
  rw [a,aa (a65 b),obs,vK,l]
 ·have a:Loop step 0=_:=c
  rw [a,a7 (by rw [b5L m b];decide),obs,rX,j]
theorem b2j {b:Bool}:(if b=true then true else false)=b:=by cases b<;>rfl
def h32 (x:List UInt8):Bool:=decide (x.length=32)
theorem NT {l:List (List UInt8)} (a:l.length<=1099511627776):iG l=some (l.all h32):=by
 unfold iG co cy
 rw [zi (step:=cj l (l.length:Int)) (p:=fun x=> !h32 x) (f:=j3) a (fun x _=>by unfold j3;rw [BB];rfl) (fun t=>rfl),obs,xU]
def UD (size:Int) (g:List Ext):Bool:=decide ((g.length:Int)=size)&&g.all vY
def qP (R:List (List Ext)) (many size:Int):Bool:=decide ((R.length:Int)=many)&&R.all (UD size)
theorem SZ {α C:Type} {p:α->Bool} {f:α->C->Option (Bool×C)} {l:List α} {c:C} (o:l.length<=1099511627776) (m: ∀x∈l,f x c=some (p x,c)) {step:Int×C->Option ((Int×C)⊕((Int×C)⊕(Int×Bool×C)))}
 (b: ∀t,step (t,c)=br (decide (t<(l.length:Int))) ((atL l t).bind fun x=>(f x c).bind fun r=>br r.1 (some (.inr (.inl (t,r.2)))) (some (.inl (IntKind.wrap .i64 (t+1),r.2)))) (some (.inr (.inr (t,decide (t<(l.length:Int)),c))))):
 ∃n:Int,Loop step (0,c)=some (if l.any p then .inl (n,c) else .inr (n,false,c))/\0<=n:=by
 have key:=AN (step:=step) (fun k=>((k:Int),c)) l.length (fun k=> !((l[k]?.map p).getD false)) (fun k=> .inl ((k:Int),c)) (e:= .inr ((l.length:Int),false,c)) (fun k a d=>by
  have h:p l[k]=false:=by simpa [a] using d
  rw [b,brd om,cJ a,obs,m _ (b9 a),obs,h,bu,ai _ om om];rfl)
  (fun k a d=>by
   have h:p l[k]=true:=by simpa [a] using d
   rw [b,brd om,cJ a,obs,m _ (b9 a),obs,h,dj])
  (by rw [b,brn om,ae om])
 rcases key with ⟨i,j⟩|⟨k,a,i,_,j⟩
 ·exact ⟨(l.length:Int),by rw [a58 (fun k a=>by simpa [a] using i k a)];exact j,by omega⟩
 ·exact ⟨(k:Int),by rw [Q7 a (by simpa [a] using i)];exact j,by omega⟩
theorem B3 {R:List (List Ext)} {many size:Int} (b:R.length<=1099511627776) (d: ∀g∈R,g.length<=1099511627776):rA R many size=some (qP R many size):=by
 unfold rA qP
 by_cases h:(R.length:Int)=many
 ·rw [bre h,aj h]
  obtain ⟨n,e,hn⟩:=SZ (c:=size) (p:=fun g=> !UD size g) (f:=ti) (l:=R) b (fun x i=>by
   unfold ti UD
   by_cases a:(x.length:Int)=size
   ·rw [m9 a,Dr (d x i),obs,aj a];rfl
   ·rw [brb a,ae a];rfl) (step:=cN R (R.length:Int)) (fun t=>rfl)
  unfold cU dm
  rw [e, <-xU (UD size)]
  cases (R.any fun g=> !UD size g)
  ·rfl
  ·simp only [aa,obs,rX,aj (show n>=0 from hn)];rfl
 ·rw [cm h,ae h];rfl
def a6C (vars:Int) (t:Setting) (q:cx) (j:Nat):Bool:=decide (((q.Paths.getD j []).length:Int)=vars+t.Rate-1-j)&&(q.Paths.getD j []).all h32
def Tf (vars:Int) (t:Setting) (q:cx):Bool:=decide ((q.Pairs.length:Int)=2*vars)&&(q.Pairs.all vY&&(decide ((q.Paths.length:Int)=vars)&&a7Q vars.toNat (a6C vars t q)))
def okO (o:bJ) (vars:Int) (t:Setting):Bool:=decide (1<=vars/\vars<=6)&&(setB t&&(qP o.Rounds vars 3&&(decide ((o.Roots.length:Int)=vars-1)&&(o.Roots.all h32&&(vY o.Last&&(decide (0<=o.Nonce/\o.Nonce<=65535)&&(decide ((o.Queries.length:Int)=t.Queries)&&o.Queries.all (Tf vars t))))))))
structure SmO (o:bJ):Prop where
 rn:o.Rounds.length<=1099511627776
 rr: ∀g∈o.Rounds,g.length<=1099511627776
 ro:o.Roots.length<=1099511627776
 qn:o.Queries.length<=1099511627776
 qp: ∀q∈o.Queries,q.Pairs.length<=1099511627776
 qt: ∀q∈o.Queries, ∀p∈q.Paths,p.length<=1099511627776
theorem b4b {l:List (List (List UInt8))} {j:Nat} (h:j<l.length):atL l (j:Int)=some (l.getD j []):=by rw [cJ h];simp [h]
theorem b5o {l:List (List (List UInt8))} {j:Nat} (h:j<l.length):l.getD j []∈l:=by simp [h]
theorem Ys {q:cx} {vars:Int} {t:Setting} (h:1<=vars/\vars<=6) (d:setB t=true) (a:q.Pairs.length<=1099511627776) (c: ∀p∈q.Paths,p.length<=1099511627776):zU q vars t=some (Tf vars t q):=by
 have i:=lM d
 unfold zU Tf
 rw [ai _ om om]
 by_cases c1:(q.Pairs.length:Int)=2*vars
 ·rw [m9 c1,aj c1,Dr a,obs]
  cases m:q.Pairs.all vY
  ·rfl
  ·rw [aQ,bu]
   by_cases c2:(q.Paths.length:Int)=vars
   ·rw [m9 c2,aj c2]
    have hn:vars.toNat=q.Paths.length:=by omega
    have key:=b5s (step:=mV vars q.Paths (q.Paths.length:Int) q.Pairs q.Paths t.Rate t.Queries t.Grind) vars.toNat (a6C vars t q) (fun _=>()) (e2:=((vars.toNat:Int),false)) (f:=fun _=>some false) (g:=fun _=>some true) (x:=false) (y:=true) (fun k e a=>by
     have b:=c _ (b5o (l:=q.Paths) (j:=k) om)
     simp only [a6C,aB,aA] at a
     simp only [mV]
     rw [brd om,b4b om,obs,ai (vars+t.Rate) om om,ai (vars+t.Rate-1) om om,ai (vars+t.Rate-1-k) om om,m9 a.1,NT b,obs,a.2,aQ,bu,ai _ om om];rfl) (fun k e a=>by
     have b:=c _ (b5o (l:=q.Paths) (j:=k) om)
     simp only [mV]
     rw [brd om,b4b om,obs,ai (vars+t.Rate) om om,ai (vars+t.Rate-1) om om,ai (vars+t.Rate-1-k) om om]
     by_cases c3:((q.Paths.getD k []).length:Int)=vars+t.Rate-1-k
     ·rw [m9 c3,NT b,obs]
      rw [a6C,aj c3,bk] at a
      rw [a];rfl
     ·rw [brb c3]) (by
     simp only [mV]
     rw [brn om,ae om]) (fun _=>rfl) rfl
    rw [b2j] at key
    rw [key];rfl
   ·rw [brb c2,ae c2];rfl
 ·rw [brb c1,ae c1];rfl
theorem RA {o:bJ} {vars:Int} {t:Setting} (S:SmO o):ye o vars t=some (okO o vars t):=by
 unfold ye okO
 rw [Hx,obs]
 by_cases a:1<=vars/\vars<=6
 ·rw [aj a,aj a.1,aj a.2,Bool.and_self,dj,nN,obs,bk]
  cases d:setB t
  ·rfl
  ·rw [dj,B3 S.rn S.rr,obs,bk]
   cases h:qP o.Rounds vars 3
   ·rfl
   ·rw [dj,ai _ om om,bk]
    by_cases c1:(o.Roots.length:Int)=vars-1
    ·rw [bre c1,aj c1,NT S.ro,obs,bk]
     cases i:o.Roots.all h32
     ·rfl
     ·rw [dj,wq,obs,bk]
      cases j:vY o.Last
      ·rfl
      ·rw [dj,Hx,obs,bk]
       by_cases c2:0<=o.Nonce/\o.Nonce<=65535
       ·rw [aj c2,aj c2.1,aj c2.2,Bool.and_self,dj,bk]
        by_cases c3:(o.Queries.length:Int)=t.Queries
        ·rw [bre c3,aj c3,bk]
         obtain ⟨n,e,hn⟩:=SZ (c:=(vars,t.Rate,t.Queries,t.Grind)) (p:=fun q=> !Tf vars t q) (f:=fun x c=>(dS x c.1 ⟨c.2.1,c.2.2.1,c.2.2.2⟩).bind fun r=>some (r.1,r.2.1,r.2.2.Rate,r.2.2.Queries,r.2.2.Grind)) (l:=o.Queries) S.qn (fun x b=>by
          unfold dS xg
          show ((((zU x vars t).bind _).bind _).bind _)=_
          rw [Ys a d (S.qp x b) (S.qt x b)];rfl) (step:=bi o.Queries (o.Queries.length:Int)) (fun z=>by
          show bi _ _ (z,vars,t.Rate,t.Queries,t.Grind)=_
          simp only [bi]
          congr 1
          cases atL o.Queries z with
          |none=>rfl
          |some x=>
           simp only [obs]
           cases dS x vars ⟨t.Rate,t.Queries,t.Grind⟩<;>rfl)
         unfold iZ bU ca
         rw [e, <-xU (Tf vars t)]
         cases (o.Queries.any fun q=> !Tf vars t q)
         ·rfl
         ·simp only [aa,obs,rX,aj (show n>=0 from hn)]
        ·rw [cm c3,ae c3];rfl
       ·rw [ae c2]
        have:(decide (0<=o.Nonce)&&decide (o.Nonce<=65535))=false:=by
         rw [<-Bool.decide_and];exact ae c2
        rw [this];rfl
    ·rw [cm c1,ae c1];rfl
 ·rw [ae a]
  have:(decide (1<=vars)&&decide (vars<=6))=false:=by
   rw [<-Bool.decide_and];exact ae a
  rw [this];rfl
end
section
theorem b8N {α:Type} {l:List α} {d:α} {j:Nat} (h:j<l.length):atL l (j:Int)=some (l.getD j d):=by rw [cJ h];simp [h]
end
section
def wdK:Nat->List K->List K->List K
 |_,W,[]=>W
 |m,W,r::P=>wdK (m-1) (fwK (m-1) W r) P
def Cl:Nat->List K->List K->List (List K)
 |_,_,[]=>[]
 |m,W,r::P=>W::Cl (m-1) (fwK (m-1) W r) P
def B9:Nat->List K->List K->List (List UInt8)
 |_,_,[]=>[]
 |m,W,r::P=>(if P.length=0 then [] else [wrK (m-2) (fwK (m-1) W r)])++B9 (m-1) (fwK (m-1) W r) P
theorem Kw: ∀(P:List K) (m:Nat) (W:List K),(Cl m W P).length=P.length
 |[],_,_=>rfl
 |r::P,m,W=>by rw [Cl,ab,Kw P,ab]
theorem a0a: ∀(P:List K) (m:Nat) (W:List K),(B9 m W P).length=P.length-1
 |[],_,_=>rfl
 |r::P,m,W=>by
  rw [B9,a8,a0a P,ab]
  split
  ·rw [ah];omega
  ·rw [ag];omega
theorem b3j: ∀(P:List K) (m:Nat) (W:List K),Hs (B9 m W P)
 |[],_,_=>fun x a=>by simp [B9] at a
 |r::P,m,W=>fun x a=>by
  rw [B9,aJ] at a
  rcases a with a|a
  ·split at a
   ·cases a
   ·rw [bI] at a;subst a;exact PS _ _
  ·exact b3j P _ _ x a
def bhO (v ρ:Nat) (W P:List K) (s:Source):Source:=if P.length<v then tkM s (wrK (v+ρ-P.length-1) (wdK (v+ρ) W P)) else s
theorem b2H (v ρ:Nat) (W:List K):b7I (bhO v ρ W):=fun P s k h a=>by
 unfold bhO;split
 ·exact h.take _
 ·exact h.mono om
end
section
def prK:Nat->List (List K)->Nat->List K
 |_,[],_=>[]
 |m,W::Ws,k=>W.getD (k%2^(m-1)) 0::W.getD (k%2^(m-1)+2^(m-1)) 0::prK (m-1) Ws (k%2^(m-1))
def ptK:Nat->List (List K)->Nat->List (List (List UInt8))
 |_,[],_=>[]
 |m,W::Ws,k=>wh ((lvK (m-1) W).map hL) (m-1) (k%2^(m-1))::ptK (m-1) Ws (k%2^(m-1))
def a0u:Nat->List (List K)->Prop
 |_,[]=>True
 |m,W::Ws=>W.length=2^m/\1<=m/\a0u (m-1) Ws
theorem XS: ∀(P:List K) (m:Nat) (W:List K),W.length=2^m->P.length<=m->a0u m (Cl m W P)
 |[],_,_,_,_=>trivial
 |r::P,m,W,h,hm=>by
  rw [ab] at hm
  exact ⟨h,by omega,XS P (m-1) _ (HG _ _ _) om⟩
def qsM (m:Nat) (Ws:List (List K)) (p:Int):cx:=⟨kv (prK m Ws p.toNat),ptK m Ws p.toNat⟩
end
section
variable {kind:Nat}
theorem b6k {s:Source} {k:Int} (h:Few s k) (b:k<=900000): ∃n,mW s=some n/\100000<=n/\n<=1000000:=by
 have a:=b59 h.2 h.3
 have h0:0<=mx s.At s.Count:=by have:=h.1.4;have:=h.1.6;unfold mx;split<;>assumption
 unfold mW
 rw [ai _ om om]
 exact ⟨_,rfl,by omega,by omega⟩
end
section
def opW (v ρ:Nat) (t:List K):List K:=Enc v ρ (cfK v t)
def opQ (v ρ:Nat) (t P:List K) (s:Source):List (List K)×List K×List (List K)×Source:=pvM 1 (bhO v ρ (opW v ρ t)) v [] [t,eqK P] s
def opL (v ρ:Nat) (t P:List K) (s:Source):K:=((opQ v ρ t P s).2.2.1.getD 0 []).getD 0 0
def opS (v ρ:Nat) (t P:List K) (s:Source):Source:=rsM (opQ v ρ t P s).2.2.2 [opL v ρ t P s]
def opT (v ρ n:Nat) (t P:List K) (s:Source):Source:=tkM (opS v ρ t P s) (lD (n:Int))
def opO (v ρ nq n:Nat) (t P:List K) (s:Source):bJ:=
 ⟨kvv (opQ v ρ t P s).1,B9 (v+ρ) (opW v ρ t) (opQ v ρ t P s).2.1,(opL v ρ t P s).1,(n:Int),(plM (drL (opT v ρ n t P s) nq) ((2^(v+ρ-1):Nat):Int)).map (qsM (v+ρ) (Cl (v+ρ) (opW v ρ t) (opQ v ρ t P s).2.1))⟩
noncomputable def opG (v ρ nq:Nat) (t P:List K) (s:Source):Option Nat->bJ×Source×Bool
 |none=>(⟨[],[],⟨0,0⟩,0,[]⟩,opS v ρ t P s,false)
 |some n=>(opO v ρ nq n t P s,drS (opT v ρ n t P s) nq,true)
noncomputable def Mw (v ρ nq bits:Nat) (t P:List K) (s:Source):bJ×Source×Bool:=opG v ρ nq t P s (vi (opS v ρ t P s).State bits)
theorem JP {v ρ nq bits:Nat} {t P:List K} {s:Source} (h:vi (opS v ρ t P s).State bits=none):Mw v ρ nq bits t P s=(⟨[],[],⟨0,0⟩,0,[]⟩,opS v ρ t P s,false):=by
 rw [Mw,h,opG]
theorem Kk {v ρ nq bits n:Nat} {t P:List K} {s:Source} (h:vi (opS v ρ t P s).State bits=some n):Mw v ρ nq bits t P s=(opO v ρ nq n t P s,drS (opT v ρ n t P s) nq,true):=by
 rw [Mw,h,opG]
theorem Er {v ρ:Nat} {t:List K} (a:t.length=2^v):(opW v ρ t).length=2^(v+ρ):=b8j (by rw [vq];exact a)
theorem b89 {v:Nat} {t P:List K} (b:t.length=2^v) (c:P.length=v):OkT 1 (2^v) [t,eqK P]:=⟨.inl rfl,rfl,fun i hi=>by
 have a:i<2:=hi
 match i,a with
 |0,_=>exact b
 |1,_=>exact (EI P).trans (by rw [c])⟩
variable {v ρ:Nat} {t P:List K} {s:Source} {k:Int}
theorem a4x (a:Few s k) (b:k+3*v<=900):Few (opQ v ρ t P s).2.2.2 (k+3*v):=X5 (b2H v ρ _) v [] _ s k a om
theorem a57 (a:Few s k) (b:k+3*v<=900):Few (opS v ρ t P s) (k+3*v+1):=(a4x a b).take _
theorem a6u (a:Few s k) (b:k+3*v<=900) (n:Nat):Few (opT v ρ n t P s) (k+3*v+1+1):=(a57 a b).take _
theorem c49 {l:List Ext} (h:j6 l) {m:Nat} (c:1<=m) (d:m<=1000000): ∀x∈plM l (m:Int),0<=x/\x<=1000000:=fun x a=>by
 obtain ⟨y,e,rfl⟩:=bf.1 a
 have h0:=dD y.A (b:=(m:Int)) om
 have f:=cV y.A (b:=(m:Int)) om
 omega
theorem a5P: ∀(Ws:List (List K)) (m k:Nat),(prK m Ws k).length=2*Ws.length
 |[],_,_=>rfl
 |W::Ws,m,k=>by rw [prK,ab,ab,a5P Ws,ab];omega
theorem b3X: ∀(Ws:List (List K)) (m k:Nat),m<=9->a0u m Ws->(ptK m Ws k).length=Ws.length/\ ∀j,j<Ws.length->((ptK m Ws k).getD j []).length=m-1-j/\Hs ((ptK m Ws k).getD j [])
 |[],_,_,_,_=>⟨rfl,fun j a=>absurd a sm⟩
 |W::Ws,m,k,c,h=>by
  obtain ⟨d,e,b⟩:=h
  have ih:=b3X Ws (m-1) (k%2^(m-1)) om b
  have f:=Jv (m-1) om
  refine ⟨by rw [ptK,ab,ih.1,ab],fun j a=> ?_⟩
  rw [ab] at a
  cases j with
  |zero=>exact ⟨(UP _ _ _).trans om,c1l (HB _ _) (fO _ om)⟩
  |succ j=>
   have:=ih.2 j om
   exact ⟨this.1.trans om,this.2⟩
theorem a4y {l:List Tx} (h:Hs l):l.all h32=true:=an.2 fun x a=>by simp only [h32,aA];exact h x a
theorem PX (v ρ:Nat) (t P:List K) (s:Source):(opQ v ρ t P s).1.length=v/\(opQ v ρ t P s).2.1.length=v:=NE v _ _ _
theorem c3W {Ws:List (List K)} {st:Setting} {p:Int} (d:a0u (v+ρ) Ws) (b:Ws.length=v) (e:v+ρ<=9) (e1:st.Rate=(ρ:Int)) (i:1<=v):Tf (v:Int) st (qsM (v+ρ) Ws p)=true:=by
 have c:=b3X Ws (v+ρ) p.toNat e d
 have f:((kv (prK (v+ρ) Ws p.toNat)).length:Int)=2*(v:Int):=by rw [bB,a5P,b];omega
 have h:(((ptK (v+ρ) Ws p.toNat).length:Nat):Int)=(v:Int):=by rw [c.1,b]
 unfold Tf qsM
 dsimp only
 rw [aj f,bk,ZI.2 (An _),bk,aj h,bk]
 refine a65 fun j k=> ?_
 have a:=c.2 j om
 unfold a6C
 dsimp only
 rw [a4y a.2,dO,aA,a.1,e1];omega
theorem c1P {st:Setting} {nq n:Nat} (e:t.length=2^v) (a:1<=v) (m:v<=6) (hρ:ρ<=3) (b:setB st=true) (e1:st.Rate=(ρ:Int)) (e2:st.Queries=(nq:Int)) (hn:n<65536):okO (opO v ρ nq n t P s) (v:Int) st=true:=by
 have d:=PX v ρ t P s
 have f:=XS (opQ v ρ t P s).2.1 (v+ρ) (opW v ρ t) (Er e) om
 have h:=Kw (opQ v ρ t P s).2.1 (v+ρ) (opW v ρ t)
 have i:qP (kvv (opQ v ρ t P s).1) (v:Int) 3=true:=by
  unfold qP
  rw [tW,d.1,aj rfl,bk]
  refine an.2 fun x c=> ?_
  obtain ⟨g,j,rfl⟩:=bf.1 c
  have:=Ht v _ _ _ g j
  unfold UD
  rw [bB,this,ZI.2 (An g)];rfl
 have k:(((B9 (v+ρ) (opW v ρ t) (opQ v ρ t P s).2.1).length:Nat):Int)=(v:Int)-1:=by rw [a0a,d.2];omega
 have l:((((plM (drL (opT v ρ n t P s) nq) ((2^(v+ρ-1):Nat):Int)).map (qsM (v+ρ) (Cl (v+ρ) (opW v ρ t) (opQ v ρ t P s).2.1))).length:Nat):Int)=st.Queries:=by
  rw [aw,plM,aw,xC,e2]
 unfold okO opO
 dsimp only
 rw [aj om,b,i,aj k,a4y (b3j _ _ _),uP.2 (aI _),aj om,aj l]
 simp only [bk]
 refine an.2 fun x c=> ?_
 obtain ⟨p,_,rfl⟩:=bf.1 c
 exact c3W f om om e1 a
end
section
theorem b3N (m j:Nat):(2*m)/2^(j+1)%2=m/2^j%2:=by rw [aZ,ep (2^j) 2, <-qC,Nat.mul_div_cancel_left m om]
theorem b92 (m j:Nat):(2*m+1)/2^(j+1)%2=m/2^j%2:=by rw [aZ,ep (2^j) 2, <-qC,show (2*m+1)/2=m by omega]
theorem zz {l:List K} {j m:Nat} (h:m<l.length):(stK l j).getD m 0=if m/2^j%2=1 then l.getD m 0-l.getD (m-2^j) 0 else l.getD m 0:=by rw [stK,xc h]
theorem c41 {l:List K} {n j:Nat} (h:l.length=2*n):evs (stK l (j+1))=stK (evs l) j:=by
 have a:=mI l n h
 refine lr (by rw [mI _ n (by rw [lK];exact h),lK,a]) fun m b=> ?_
 rw [mI _ n (by rw [lK];exact h)] at b
 rw [pQ,zz om,zz om,b3N,pQ,pQ,aZ,show 2*m-2^j*2=2*(m-2^j) by omega]
theorem c1C {l:List K} {n j:Nat} (h:l.length=2*n):ods (stK l (j+1))=stK (ods l) j:=by
 have b:=nr l n h
 refine lr (by rw [nr _ n (by rw [lK];exact h),lK,b]) fun m d=> ?_
 rw [nr _ n (by rw [lK];exact h)] at d
 rw [sw,zz om,zz om,b92,sw,sw]
 by_cases c:m/2^j%2=1
 ·have e:2^j<=m:=by
   refine Nat.le_of_not_lt fun a=> ?_
   rw [Nat.div_eq_of_lt a] at c;omega
  rw [aa c,aa c,aZ,show 2*m+1-2^j*2=2*(m-2^j)+1 by omega]
 ·rw [a7 c,a7 c]
theorem b7B {l:List K} {n:Nat} (h:l.length=2*n):evs (stK l 0)=evs l:=by
 refine lr (by rw [mI _ n (by rw [lK];exact h),mI _ n h]) fun m a=> ?_
 rw [mI _ n (by rw [lK];exact h)] at a
 rw [pQ,zz om,kP,Nat.div_one,a7 om,pQ]
theorem b7h {l:List K} {n:Nat} (h:l.length=2*n):ods (stK l 0)=cb (-1) (ods l) (evs l):=by
 have a:=nr l n h
 have c:=mI l n h
 refine lr (by rw [nr _ n (by rw [lK];exact h),pJ om,a]) fun m b=> ?_
 rw [nr _ n (by rw [lK];exact h)] at b
 rw [sw,zz om,kP,Nat.div_one,aa om,nW om,sw,pQ,show 2*m+1-1=2*m by omega]
 exact kg
theorem b3B {n:Nat} {l:List K} (h:l.length=2*n): ∀v,evs (cfK (v+1) l)=cfK v (evs (stK l 0))
 |0=>rfl
 |v+1=>by
  rw [cfK,c41 (by rw [vq];exact h),b3B h v];rfl
theorem b3Q {n:Nat} {l:List K} (h:l.length=2*n): ∀v,ods (cfK (v+1) l)=cfK v (ods (stK l 0))
 |0=>rfl
 |v+1=>by
  rw [cfK,c1C (by rw [vq];exact h),b3Q h v];rfl
theorem c4W {a b:List K} (r:K) (h:a.length=b.length) (j:Nat):stK (cb r a b) j=cb r (stK a j) (stK b j):=by
 refine lr (by rw [lK,pJ h,pJ (by rw [lK,lK];exact h),lK]) fun m c=> ?_
 rw [lK,pJ h] at c
 have d:(stK a j).length=(stK b j).length:=by rw [lK,lK];exact h
 rw [zz (by rw [pJ h];exact c),nW d m,zz c,zz om]
 split
 ·rw [nW h,nW h];exact kg
 ·rw [nW h]
theorem c00 {a b:List K} (r:K) (h:a.length=b.length): ∀v,cfK v (cb r a b)=cb r (cfK v a) (cfK v b)
 |0=>rfl
 |v+1=>by rw [cfK,c00 r h v,c4W r (by rw [vq,vq];exact h)];rfl
theorem c6w {l:List K} {n:Nat} (r:K) (h:l.length=2*n):cb r (evs l) (cb (-1) (ods l) (evs l))=fdK r l:=by
 have b:=nr l n h
 have a:=mI l n h
 refine lr (by rw [pJ (by rw [pJ om];omega),a,E8 r l n h]) fun m c=> ?_
 rw [nW (by rw [pJ om];omega),nW om,pQ,sw,Ez r l n m h];exact kg
theorem b6C {l:List K} {v:Nat} (r:K) (h:l.length=2^(v+1)):cb r (evs (cfK (v+1) l)) (ods (cfK (v+1) l))=cfK v (fdK r l):=by
 have a:l.length=2*2^v:=by rw [h,aZ];omega
 have e1:=mI l _ a
 have e2:=nr l _ a
 rw [b3B a,b3Q a,b7B a,b7h a, <-c00 r (by rw [pJ om];omega),c6w r a]
theorem b2X {ρ:Nat} (hρ:ρ<=3): ∀(P:List K) (v:Nat) (t:List K),P.length<=v->v<=6->t.length=2^v->wdK (v+ρ) (Enc v ρ (cfK v t)) P=Enc (v-P.length) ρ (cfK (v-P.length) (FA P t))
 |[],v,t,_,_,_=>rfl
 |r::P,v,t,b,d,a=>by
  rw [ab] at b
  obtain ⟨u,rfl⟩: ∃u,v=u+1:=⟨v-1,by omega⟩
  have c:t.length=2*2^u:=by rw [a,aZ];omega
  rw [wdK,show u+1+ρ-1=u+ρ by omega,b00 r om (by rw [vq];exact a),b6C r a,b2X hρ P u _ om om (E8 r t _ c),ab,show u+1-(P.length+1)=u-P.length by omega];rfl
theorem a6l: ∀(n:Nat) (x:K),ev (List.replicate n 0) x=0
 |0,_=>rfl
 |n+1,x=>by rw [nY,ev,a6l n x];exact kg
theorem b5P (ρ:Nat) (hρ:ρ<=9) (a:K) (j:Nat) (b:j<2^ρ):(Enc 0 ρ [a]).getD j 0=a:=by
 have c:=Jv ρ hρ
 unfold Enc
 rw [ce,c1Q ρ _ _ (tw (by simp;omega)) (c0a om) j b,DF,b1t,a6l,ev,ev]
 clear c b
 exact kg
end
section
def eaK:List K->List K->K->K
 |x::A,b::B,c=>eaK A B (c*(x*b+(1-x)*(1-b)))
 |_,_,c=>c
theorem c0r (r c:K): ∀l:List K,fdK r (sc c l)=sc c (fdK r l)
 |[]=>rfl
 |[a]=>rfl
 |a::b::l=>by
  show (c*a+r*(c*b-c*a))::fdK r (sc c l)=(c*(a+r*(b-a)))::sc c (fdK r l)
  rw [c0r r c l,show c*a+r*(c*b-c*a)=c*(a+r*(b-a)) from kg]
theorem b57 (c:K): ∀(R l:List K),FA R (sc c l)=sc c (FA R l)
 |[],l=>rfl
 |r::R,l=>by
  show FA R (fdK r (sc c l))=sc c (FA R (fdK r l))
  rw [c0r,b57 c R]
theorem a69 (r p:K): ∀E:List K,fdK r (gK E (A3 [1] p))=sc (r*p+(1-r)*(1-p)) E
 |[]=>rfl
 |e::E=>by
  show (1*(1-p)*e+r*(1*p*e-1*(1-p)*e))::fdK r (gK E (A3 [1] p))=((r*p+(1-r)*(1-p))*e)::sc _ E
  rw [a69 r p E,show 1*(1-p)*e+r*(1*p*e-1*(1-p)*e)=(r*p+(1-r)*(1-p))*e from kg]
theorem a2s: ∀(R P:List K) (c:K),R.length=P.length->c*(FA R (eqK P)).getD 0 0=eaK R P c
 |[],[],c,_=>by show c*1=c;exact kg
 |[],p::P,c,h=>by simp at h
 |r::R,[],c,h=>by simp at h
 |r::R,p::P,c,h=>by
  rw [ab,ab] at h
  show c*(FA R (fdK r (eqK (p::P)))).getD 0 0=eaK R P (c*(r*p+(1-r)*(1-p)))
  rw [ZJ,a69,b57,c0O, <-a2s R P _ om];exact kg
theorem Vs (f:Nat->K): ∀n,sO (n+1) f=f 0+sO n fun k=>f (k+1)
 |0=>by show (0:K)+f 0=f 0+0;exact kg
 |n+1=>by rw [sO,Vs f n,sO];exact kg
theorem a5q: ∀(t e:List K),t.length=e.length->sO t.length (fun k=>t.getD k 0*e.getD k 0)=ja t e
 |[],[],_=>rfl
 |[],b::e,h=>by simp at h
 |a::t,[],h=>by simp at h
 |a::t,b::e,h=>by
  rw [ab,Vs]
  show a*b+sO t.length (fun k=>t.getD k 0*e.getD k 0)=a*b+ja t e
  rw [a5q t e (by simpa using h)]
theorem a5K {t e:List K} {n:Nat} (a:t.length=n) (b:e.length=n):wU 1 [t,e] n=ja t e:=by
 rw [<-a5q t e om,a];rfl
def Nq:Nat->List K->List K->List (List UInt8)
 |_,_,[]=>[]
 |m,W,r::P=>wrK (m-1) W::Nq (m-1) (fwK (m-1) W r) P
theorem Vy: ∀(P:List K) (m:Nat) (W:List K),P≠[]->wrK (m-1) W::B9 m W P=Nq m W P
 |[],_,_,h=>absurd rfl h
 |[r],m,W,_=>rfl
 |r::r2::P,m,W,_=>by
  rw [B9,Nq, <-Vy (r2::P) (m-1) _ sm,a7 sm,b8,show m-1-1=m-2 by omega]
theorem a5a: ∀(P:List K) (m:Nat) (W:List K) (j:Nat),j+1<P.length->(B9 m W P).getD j []=wrK (m-(j+1)-1) (wdK m W (P.take (j+1)))
 |[],_,_,j,h=>by simp at h
 |[r],m,W,j,h=>by simp at h
 |r::r2::P,m,W,0,_=>by
  rw [B9,a7 sm,b8,show m-(0+1)-1=m-2 by omega];rfl
 |r::r2::P,m,W,j+1,h=>by
  rw [B9,a7 sm,b8,show m-(j+1+1)-1=m-1-(j+1)-1 by omega]
  exact a5a (r2::P) (m-1) _ j (by simpa using h)
def Hi (a b:K):List UInt8:=[a.1,b.1].flatMap e8
def b7q (due:Option K) (x:K):Prop:= ∃d,due=some d/\x≠d
noncomputable instance c2A (due:Option K) (x:K):Decidable (b7q due x):=Classical.propDecidable _
noncomputable def qcK (l:K):Nat->List (List UInt8)->List K->List (List (List UInt8))->List K->Nat->Option K->Int
 |m,rt::rts,a::b::prs,p::pths,r::P,k,due=>
  if (H (vW (k%2^(m-1)) (Hi a b) p (m-1))==rt)=false then 9
  else if b7q due (if 2^(m-1)<=k then b else a) then 12
  else qcK l (m-1) rts prs pths P (k%2^(m-1)) (some (fpK m (k%2^(m-1)) a b r))
 |_,_,_,_,_,_,due=>if due=some l then 0 else 13
noncomputable def qsC (l:K) (m:Nat) (rts:List (List UInt8)) (D:List K):List Int->List cx->Int
 |p::ps,q::qs=>if qcK l m rts (q.Pairs.map toK) q.Paths D p.toNat none=0 then qsC l m rts D ps qs else qcK l m rts (q.Pairs.map toK) q.Paths D p.toNat none
 |_,_=>0
theorem a5S (l:K): ∀(P:List K) (m:Nat) (W:List K) (k:Nat) (due:Option K),W.length=2^m->P.length<=m->m<=9->k<2^m->(∀d,due=some d->d=W.getD k 0)->(P=[]->due≠none)->(∀j,j<2^(m-P.length)->(wdK m W P).getD j 0=l)->
 qcK l m (Nq m W P) (prK m (Cl m W P) k) (ptK m (Cl m W P) k) P k due=0
 |[],m,W,k,due,s,o,t,p,b,hn,f=>by
  have e:=f k (by rw [ah,nV];exact p)
  cases due with
  |none=>exact absurd rfl (hn rfl)
  |some d=>
   have i:=b d rfl
   have u:d=l:=i.trans e
   subst u
   show (if some d=some d then (0:Int) else 13)=0
   rw [aa rfl]
 |r::P,m,W,k,due,s,o,t,p,b,hn,f=>by
  rw [ab] at o
  obtain ⟨q,rfl⟩: ∃q,m=q+1:=⟨m-1,by omega⟩
  have w:=Jv q om
  have x:2^(q+1)=2*2^q:=by rw [aZ];omega
  have hat:k%2^q<2^q:=fO _ om
  have a:H (vW (k%2^q) (Hi (W.getD (k%2^q) 0) (W.getD (k%2^q+2^q) 0)) (wh ((lvK q W).map hL) q (k%2^q)) q)=wrK q W:=by
   have:=b0m (l:=lvK q W) (HB q W) hat
   rw [show (lvK q W).getD (k%2^q) []=Hi (W.getD (k%2^q) 0) (W.getD (k%2^q+2^q) 0) by simp [lvK,hat];rfl] at this
   exact this
  have c:(if 2^q<=k then W.getD (k%2^q+2^q) 0 else W.getD (k%2^q) 0)=W.getD k 0:=by
   split
   ·rename_i h
    rw [show k%2^q+2^q=k by rw [Nat.mod_eq_sub_mod h,jo om];omega]
   ·rename_i h
    rw [jo om]
  have n:fpK (q+1) (k%2^q) (W.getD (k%2^q) 0) (W.getD (k%2^q+2^q) 0) r=(fwK q W r).getD (k%2^q) 0:=by rw [fwK,xc hat]
  have ih:=a5S l P q (fwK q W r) (k%2^q) (some (fpK (q+1) (k%2^q) (W.getD (k%2^q) 0) (W.getD (k%2^q+2^q) 0) r)) (HG _ _ _) om om hat (fun d b=>by cases b;exact n) (fun _ h=>by cases h) (fun j v=>f j (by rw [ab,show q+1-(P.length+1)=q-P.length by omega];exact v))
  simp only [Nq,Cl,prK,ptK,qcK,cX]
  rw [a7 (by rw [a];simp),a7 (by rintro ⟨d,i,e⟩;rw [c] at e;exact e (b d i).symm)]
  exact ih
def bvO (v:Nat) (rts:List (List UInt8)) (j:Nat) (s:Source):Source:=if j+1<v then tkM s (rts.getD j []) else s
theorem a9L (v:Nat) (rts:List (List UInt8)):c3A (bvO v rts):=fun j s k h a=>by
 unfold bvO;split
 ·exact h.take _
 ·exact h.mono om
noncomputable def chC (m bits nq:Nat) (root:List UInt8) (P:List K) (rts:List (List UInt8)) (l:K) (nonce:Int) (qs:List cx) (q:Int×List K×K×Source):Int:=
 if q.1=0 then
  if l*eaK q.2.1 P 1=q.2.2.1 then
   if tx (rsM q.2.2.2 [l]).State bits nonce=true then qsC l m (root::rts) q.2.1 (plM (drL (tkM (rsM q.2.2.2 [l]) (lD nonce)) nq) ((2^(m-1):Nat):Int)) qs
   else 14
  else 11
 else q.1
def chS (nq:Nat) (l:K) (nonce:Int) (q:Int×List K×K×Source):Source:=drS (tkM (rsM q.2.2.2 [l]) (lD nonce)) nq
variable {v ρ:Nat} {t P:List K} {s:Source} {k:Int}
theorem a5r {l:K} {m:Nat} {D W:List K} (b:W.length=2^m) (c:D.length<=m) (f:m<=9) (a:D≠[]) (i: ∀j,j<2^(m-D.length)->(wdK m W D).getD j 0=l): ∀ps:List Int,(∀p∈ps,0<=p/\p<((2^m:Nat):Int))->qsC l m (Nq m W D) D ps (ps.map (qsM m (Cl m W D)))=0
 |[],_=>rfl
 |p::ps,h=>by
  have q:=h p sm
  have k:=a5S l D m W p.toNat none b c f om (fun d n=>by cases n) (fun h=>absurd h a) i
  have e:((qsM m (Cl m W D) p).Pairs).map toK=prK m (Cl m W D) p.toNat:=by
   show (kv (prK m (Cl m W D) p.toNat)).map toK=_
   rw [kv,fg]
   refine (bn fun x _=> ?_).trans (jO _)
   exact K.ext (tZ x.2)
  rw [aM,qsC,e]
  rw [show (qsM m (Cl m W D) p).Paths=ptK m (Cl m W D) p.toNat from rfl,aa k,a5r b c f a i ps fun x o=>h x (by simp [o])]
theorem b6m {nq bits n:Nat} (d:t.length=2^v) (a:P.length=v) (h:1<=v) (o:v<=6) (hρ:ρ<=3) (i:vi (opS v ρ t P s).State bits=some n) (l:Few s k) (p:k<=800) (q:nq<=8):
 vfM 1 (bvO v (B9 (v+ρ) (opW v ρ t) (opQ v ρ t P s).2.1)) (opQ v ρ t P s).1 0 (ja t (eqK P)) s=(0,(opQ v ρ t P s).2.1,opL v ρ t P s*eaK (opQ v ρ t P s).2.1 P 1,(opQ v ρ t P s).2.2.2):=by
 have b:=PX v ρ t P s
 have key:=a6h (kind:=1) (bh:=bhO v ρ (opW v ρ t)) (bv:=bvO v (B9 (v+ρ) (opW v ρ t) (opQ v ρ t P s).2.1)) v [] [t,eqK P] s (b89 d a) (fun j r s'=>by
  rw [ah,bA,ce]
  show bvO v (B9 (v+ρ) (opW v ρ t) (opQ v ρ t P s).2.1) j s'=bhO v ρ (opW v ρ t) ((opQ v ρ t P s).2.1.take (j+1)) s'
  rw [bvO,bhO,aD,b.2,dp om]
  by_cases c:j+1<v
  ·rw [aa c,aa c,a5a _ _ _ _ (by rw [b.2];exact c)]
  ·rw [a7 c,a7 c])
 rw [a5K d (by rw [EI,a]),ah] at key
 refine key.trans ?_
 have e:(opQ v ρ t P s).2.2.1.getD 1 []=FA (opQ v ρ t P s).2.1 (eqK P):=Ql 1 v [] [t,eqK P] s
 have f:=a2s (opQ v ρ t P s).2.1 P 1 (by rw [b.2,a])
 have m:wU 1 (opQ v ρ t P s).2.2.1 1=opL v ρ t P s*eaK (opQ v ρ t P s).2.1 P 1:=by
  rw [WI,cmK,aa rfl,Ds,Ds,e, <-f]
  show opL v ρ t P s*_=_
  generalize (FA (opQ v ρ t P s).2.1 (eqK P)).getD 0 0=y
  generalize opL v ρ t P s=x
  clear f e key i l
  exact kg
 rw [<-m];rfl
theorem b7L {nq bits n:Nat} (i:t.length=2^v) (w:P.length=v) (z:1<=v) (hv:v<=6) (hρ:ρ<=3) (hg:vi (opS v ρ t P s).State bits=some n) (l:Few s k) (hk:k<=800) (p:nq<=8):
 chC (v+ρ) bits nq (wrK (v+ρ-1) (opW v ρ t)) P (B9 (v+ρ) (opW v ρ t) (opQ v ρ t P s).2.1) (opL v ρ t P s) n (opO v ρ nq n t P s).Queries (0,(opQ v ρ t P s).2.1,opL v ρ t P s*eaK (opQ v ρ t P s).2.1 P 1,(opQ v ρ t P s).2.2.2)=0:=by
 have m:=PX v ρ t P s
 have o:=Qy hg
 have hfT:=a6u (v:=v) (ρ:=ρ) (t:=t) (P:=P) l om n
 have hk0:0<=k:=by have:=l.2;have:=l.1.4;omega
 have c:(opQ v ρ t P s).2.1≠[]:=fun h=>by rw [h,ah] at m;omega
 have hpp:=Jv (v+ρ-1) om
 have hpq:2^(v+ρ)=2*2^(v+ρ-1):=by
  obtain ⟨q,p⟩: ∃q,v+ρ=q+1:=⟨v+ρ-1,by omega⟩
  rw [p,cX,aZ];omega
 have d: ∀j,j<2^(v+ρ-(opQ v ρ t P s).2.1.length)->(wdK (v+ρ) (opW v ρ t) (opQ v ρ t P s).2.1).getD j 0=opL v ρ t P s:=fun j r=>by
  have e:(opQ v ρ t P s).2.2.1.getD 0 []=FA (opQ v ρ t P s).2.1 t:=Ql 0 v [] [t,eqK P] s
  have f:(FA (opQ v ρ t P s).2.1 t).length=1:=by
   rw [<-e]
   have:=R0 (kind:=1) (bh:=bhO v ρ (opW v ρ t)) v [] [t,eqK P] s (b89 i w)
   exact this.tab 0 (by rw [this.len];omega)
  rw [opW,b2X hρ _ v t om hv i,m.2,kU]
  rw [m.2,show v+ρ-v=ρ by omega] at r
  unfold opL
  rw [e]
  match u:FA (opQ v ρ t P s).2.1 t,f with
  |[a],_=>exact b5P ρ om a j r
 unfold chC
 rw [aa rfl,aa rfl,aa (show tx (rsM (opQ v ρ t P s).2.2.2 [opL v ρ t P s]).State bits n=true from o.2.1)]
 rw [Vy _ _ _ c]
 exact a5r (Er i) om om c d _ fun x u=>by
  obtain ⟨y,hy,rfl⟩:=bf.1 u
  have h0:=dD y.A (b:=((2^(v+ρ-1):Nat):Int)) om
  have h3:=cV y.A (b:=((2^(v+ρ-1):Nat):Int)) om
  omega
end
section
theorem c6N: ∀i:Nat,i<512-> ∀j:Nat,j<9->(dc .i64 (cc .i64 (i:Int) (j:Int)) 1==1)=decide (i/2^j%2=1):=by decide+kernel
theorem c1B {i k:Nat} {leaf:Tx} {path:List Tx} (hi:i<512) (l:k<=9) (m:leaf.length<=1000) (b:path.length=k) (a:Hs path):KR i leaf path=some (Pn i leaf path k):=by
 unfold KR
 rw [Jt om,obs,b]
 have key:Loop (rB i path k) ([Tm leaf],0)=some (Pn i leaf path k,(k:Int),false):=by
  refine bq (step:=rB i path k) (fun j=>(Pn i leaf path j,(j:Int))) k (fun j n=> ?_) ?_
  ·have o:=a.getD (k:=j) om
   have p:=EU (vW i leaf path j)
   simp only [rB]
   have e:=a0T (i:=i) (leaf:=leaf) (path:=path) (am j)
   rw [cJ (by rw [Ax];omega),Option.some.injEq] at e
   have e2:(Pn i leaf path j)[(j:Int).toNat]? =some (vW i leaf path j):=by
    rw [aY,Ad (by rw [Ax];omega),e]
   have d:(vW i leaf path j).length<=100000000:=by
    cases j with
    |zero=>simp only [vW,Tm,ab];omega
    |succ j=>
     have f:=a.getD (k:=j) om
     have h:=EU (vW i leaf path j)
     simp only [vW]
     split<;>simp only [Tu,ab,a8]<;>omega
   rw [brd om,a1i om,obs,brd om,brd (by rw [Ax];omega),e2,obs,xO d,obs,brd om,c6N i hi j om]
   by_cases c:i/2^j%2=1
   ·rw [brd c,Cn om om,obs,aS (by simp only [a8,Ax,ag];omega),ai _ om om,Pn,Pn,rf _ (j+1)]
    simp only [vW,aa c];rfl
   ·rw [brn c,Cn om om,obs,aS (by simp only [a8,Ax,ag];omega),ai _ om om,Pn,Pn,rf _ (j+1)]
    simp only [vW,a7 c];rfl
  ·simp only [rB]
   rw [brn om,ae om]
 rw [key];rfl
theorem c3d {root:Tx} {i k:Nat} {leaf:Tx} {path:List Tx} (hi:i<512) (b:k<=9) (h:leaf.length<=64) (c:path.length=k) (a:Hs path):HF root ((2^k:Nat):Int) i leaf path=some (H (vW i leaf path k)==root):=by
 unfold HF
 have d:(vW i leaf path k).length<=100000000:=by
  cases k with
  |zero=>simp only [vW,Tm,ab];omega
  |succ j=>
   have e:=a.getD (k:=j) om
   have f:=EU (vW i leaf path j)
   simp only [vW]
   split<;>simp only [Tu,ab,a8]<;>omega
 rw [brn om,c4b k b,obs,m9 om,c3O om a,obs,bu,c1B hi b om c a,obs,Ax,ai _ om om,show (((k+1:Nat):Int))-1=(k:Int) by omega,a0T (am k),obs,xO d];rfl
theorem b0D: ∀k:Nat,k<=9->ct .i64 1 (k:Int)=((2^k:Nat):Int):=by decide+kernel
end
section
theorem b4x {l:List K} {j:Nat} (k:l.length<=64) (b:j<6):Loop (fL ((2^j:Nat):Int) (l.length:Int)) (kv l,0)=some (kv (stK l j),(l.length:Int),false):=by
 have key:=bq (step:=fL ((2^j:Nat):Int) (l.length:Int)) (fun i=>(kv (stP l j i),(i:Int))) l.length (e:=(kv (stK l j),(l.length:Int),false)) (fun i hi=> ?_) ?_
 ·have key':Loop (fL ((2^j:Nat):Int) (l.length:Int)) (kv (stP l j 0),0)=_:=key
  rw [b2W] at key';exact key'
 ·simp only [fL]
  have f:=c6X i om j b
  have d:(kv (stP l j i)).length=l.length:=by rw [bB,EJ]
  have m:1<=2^j:=Nat.one_le_two_pow
  have a:(dc .i64 (i:Int) ((2^j:Nat):Int) !=0)= !decide (i/2^j%2=0):=by rw [bne,f]
  rw [brd om,a]
  by_cases c:i/2^j%2=0
  ·rw [aj c,aQ,bu,ai _ om om,b2h c];rfl
  ·obtain ⟨n,o,p⟩:=c79 i om j b om
   have h:IntKind.wrap .i64 ((i:Int)-((2^j:Nat):Int))=((i-2^j:Nat):Int):=by rw [ai _ om om];omega
   rw [ae c,lF,dj,h]
   simp only [aY]
   rw [brd om,brd om,MB (by rw [EJ];omega),obs,brd om,brd om,MB (by rw [EJ];omega),obs,PY hi,a7 om,PY om,a7 om,mQ (aI _) (aI _),obs,brd om,brd om,obs,ai _ om om, <-b5S hi om]
   rw [kv,kv,List.map_set];rfl
 ·simp only [fL]
  rw [brn om,ae om,b6Y]
theorem Sf {l:List K} {v:Nat} (h:l.length=2^v) (b:v<=6):A0 (kv l)=some (kv (cfK v l)):=by
 have i:=c4Q v b
 unfold A0 vl
 have key:=bq (step:=hG) (fun j=>(kv (cfK j l),((2^j:Nat):Int))) v (e:=(kv (cfK v l),((2^v:Nat):Int),false)) (fun j c=> ?_) ?_
 ·have key':Loop hG (kv l,1)=_:=key
  rw [bA,aS (by rw [bB];omega),key'];rfl
 ·have d:2^j<2^v:=Nat.pow_lt_pow_right om c
  have k:1<=2^j:=Nat.one_le_two_pow
  have f:=vq l j
  simp only [hG,bB]
  have a:=b4x (l:=cfK j l) (j:=j) om om
  rw [brd om,a,obs,ai _ om om,aZ];simp [cfK]
 ·have f:=vq l v
  simp only [hG,bB]
  rw [brn om,ae om]
theorem a0m {k:Nat} {W:List K} (a:k+1<=9) (b:W.length=2^(k+1)):Ag (kv W)=some (lvK k W):=by
 have d:=Jv (k+1) a
 have f:2^(k+1)=2*2^k:=by rw [aZ];omega
 have c:=a0J k a
 unfold Ag
 rw [bB,b,c]
 have key:=bq (step:=lv (kv W) ((2^k:Nat):Int) ((2^k:Nat):Int)) (fun j=>((List.range j).map (lfK k W),(j:Int))) (2^k) (e:=(lvK k W,((2^k:Nat):Int),false)) (fun j h=> ?_) ?_
 ·have key':Loop (lv (kv W) ((2^k:Nat):Int) ((2^k:Nat):Int)) ([],0)=_:=key
  rw [key'];rfl
 ·simp only [lv]
  rw [brd om,uF om,obs,ai ((j:Int)+_) om om,show (j:Int)+((2^k:Nat):Int)=((j+2^k:Nat):Int) by omega,uF om,obs,ij sm,obs,
   aS (by simp only [a8,aw,dX,ag];omega),ai _ om om,ed,bW,ov];rfl
 ·simp only [lv]
  rw [brn om,ae om];rfl
def wtK (m:Nat) (W:List K):cQ:=⟨kv W,w6 ((lvK (m-1) W).map hL) (m-1)⟩
def CJ:Nat->List (List K)->List cQ
 |_,[]=>[]
 |m,W::Ws=>wtK m W::CJ (m-1) Ws
theorem LQ: ∀(Ws:List (List K)) (m:Nat),(CJ m Ws).length=Ws.length
 |[],_=>rfl
 |W::Ws,m=>by rw [CJ,ab,LQ Ws,ab]
theorem H5 {k:Nat} {W:List K} (a:k+1<=9) (b:W.length=2^(k+1)):AQ (kv W)=some (wtK (k+1) W):=by
 unfold AQ
 rw [a0m a b,obs,Z2 (a95 k W) (HB k W) om,obs];rfl
theorem Rb (k:Nat) (W:List K) (a:k<=9):Av (wtK (k+1) W).rows=some (wrK k W):=ZT (by rw [aw,cX,HB]) a
end
section
theorem Z8 {ρ:Nat} {V:Int} {bh:List K->Source->Source} (u:b7I bh) (hρ:ρ<=3): ∀(v:Nat) (Q:List K) (T:List (List K)) (W:List K) (s:Source) (k:Int) (pre:List cQ) (R:List (List Ext)) (P:List Ext) (Rt:List (List UInt8)),
 OkT 1 (2^(v+1)) T->W.length=2^(v+1+ρ)->Few s k->k+3*(v+1)<=1000->v+1<=6->R.length+(v+1)<=1000->P.length+(v+1)<=1000->Rt.length+(v+1)<=1000->(pre.length:Int)+v+1=V->V<=1000->
 (∀(P':List K) (s':Source),P'≠[]->P'.length<=v+1->bh (Q++P') s'=if P'.length<v+1 then tkM s' (wrK (v+1+ρ-P'.length-1) (wdK (v+1+ρ) W P')) else s')->
 Loop (ck ([]:List Ext) 1) (pre++[wtK (v+1+ρ) W],R,P,Rt,kvv T,s.Script,s.At,s.State,s.Count,V,0,0,0)=
  some (pre++CJ (v+1+ρ) (Cl (v+1+ρ) W (pvM 1 bh (v+1) Q T s).2.1),R++kvv (pvM 1 bh (v+1) Q T s).1,P++kv (pvM 1 bh (v+1) Q T s).2.1,Rt++B9 (v+1+ρ) W (pvM 1 bh (v+1) Q T s).2.1,kvv (pvM 1 bh (v+1) Q T s).2.2.1,false,
   (pvM 1 bh (v+1) Q T s).2.2.2.Script,(pvM 1 bh (v+1) Q T s).2.2.2.At,(pvM 1 bh (v+1) Q T s).2.2.2.State,(pvM 1 bh (v+1) Q T s).2.2.2.Count,V,0,0,0):=by
 intro v
 induction v with
 |zero=>
  intro Q T W s k pre R P Rt d o l w x y z h3 hV m f
  have hl:=d.len
  have a:=d
  rw [zt] at a
  have i:W.length=2^(ρ+1):=by rw [o];congr 1;omega
  have c:=f [rdM s (rdK 1 T (2^0))] (nsM s (rdK 1 T (2^0))) sm sm
  rw [a7 sm] at c
  have j:uD 1 (kvv T)=some (kv (rdK 1 T (2^0))):=Ex a om
  have ho:=(d.up (rdM s (rdK 1 T (2^0))))
  have b:(pre++[wtK (0+1+ρ) W])[pre.length]? =some (wtK (0+1+ρ) W):=by simp
  rw [du (s':=(pre++[wtK (0+1+ρ) W],R++[kv (rdK 1 T (2^0))],P++[(rdM s (rdK 1 T (2^0))).1],Rt,kvv (bdK (rdM s (rdK 1 T (2^0))) T),(nsM s (rdK 1 T (2^0))).Script,(nsM s (rdK 1 T (2^0))).At,(nsM s (rdK 1 T (2^0))).State,(nsM s (rdK 1 T (2^0))).Count,V,0,0,0)) ?_]
  ·rw [dx (e:=(pre++[wtK (0+1+ρ) W],R++[kv (rdK 1 T (2^0))],P++[(rdM s (rdK 1 T (2^0))).1],Rt,kvv (bdK (rdM s (rdK 1 T (2^0))) T),false,(nsM s (rdK 1 T (2^0))).Script,(nsM s (rdK 1 T (2^0))).At,(nsM s (rdK 1 T (2^0))).State,(nsM s (rdK 1 T (2^0))).Count,V,0,0,0)) ?_]
   ·simp only [pvM,c,B9,Cl,CJ,kvv,kv,aM,eu,ah,reduceIte,bL]
   ·simp only [ck]
    rw [b5l (by simp [bdK];omega),obs,bB,ho.tab 0 (by simp [bdK];omega),brn dcd,ae dcd]
  ·simp only [ck,ph]
   rw [b5l om,obs,bB,d.tab 0 om,brd dcd,j,obs,show Source.mk s.Script s.At s.State s.Count=s from rfl,Az l.1 (by rw [HJ];omega),obs,Zb l,obs]
   dsimp only
   rw [EC a om,obs,aS (by rw [a8,ag];omega),aS (by rw [a8,ag];omega),a8,ag,ai (((pre.length+1:Nat):Int)-1) om om,show ((pre.length+1:Nat):Int)-1=(pre.length:Int) by omega]
   simp only [aY]
   rw [brd om,brd om,b,obs]
   rw [show (wtK (0+1+ρ) W).word=kv W from rfl,Jj _ om i,obs,bre om,obs]
 |succ v ih=>
  intro Q T W s k pre R P Rt d o l w x y z h3 hV m f
  have hl:=d.len
  have hp:=c6h (v+1) om
  have a:=d
  rw [zt] at a
  have p:v+1+1+ρ-1=v+1+ρ:=by omega
  have i:W.length=2^(v+1+ρ+1):=by rw [o];congr 1;omega
  have c:=f [rdM s (rdK 1 T (2^(v+1)))] (nsM s (rdK 1 T (2^(v+1)))) sm sm
  simp only [wdK,ag,p] at c
  rw [aa om,show v+1+ρ-1=v+ρ by omega] at c
  have q: ∀(P':List K) (s':Source),P'≠[]->P'.length<=v+1->bh (Q++[rdM s (rdK 1 T (2^(v+1)))]++P') s'=if P'.length<v+1 then tkM s' (wrK (v+1+ρ-P'.length-1) (wdK (v+1+ρ) (fwK (v+1+ρ) W (rdM s (rdK 1 T (2^(v+1))))) P')) else s':=fun P' s' hne hle=>by
   have:=f (rdM s (rdK 1 T (2^(v+1)))::P') s' sm (by rw [ab];omega)
   rw [aP,b8,this,ab,wdK,p,show v+1+1+ρ-(P'.length+1)-1=v+1+ρ-P'.length-1 by omega]
   by_cases hc:P'.length<v+1
   ·rw [aa hc,aa om]
   ·rw [a7 hc,a7 om]
  have j:uD 1 (kvv T)=some (kv (rdK 1 T (2^(v+1)))):=Ex a om
  have b:(pre++[wtK (v+1+1+ρ) W])[pre.length]? =some (wtK (v+1+1+ρ) W):=by simp
  have h:(pre++[wtK (v+1+1+ρ) W]++[wtK (v+1+ρ) (fwK (v+1+ρ) W (rdM s (rdK 1 T (2^(v+1)))))])[pre.length+1]? =some (wtK (v+1+ρ) (fwK (v+1+ρ) W (rdM s (rdK 1 T (2^(v+1)))))):=by simp
  have n:=Kn l om (rdK 1 T (2^(v+1)))
  have r:=ih (Q++[rdM s (rdK 1 T (2^(v+1)))]) (bdK (rdM s (rdK 1 T (2^(v+1)))) T) (fwK (v+1+ρ) W (rdM s (rdK 1 T (2^(v+1))))) (bh (Q++[rdM s (rdK 1 T (2^(v+1)))]) (nsM s (rdK 1 T (2^(v+1))))) (k+2+1) (pre++[wtK (v+1+1+ρ) W])
   (R++[kv (rdK 1 T (2^(v+1)))]) (P++[(rdM s (rdK 1 T (2^(v+1)))).1]) (Rt++[wrK (v+ρ) (fwK (v+1+ρ) W (rdM s (rdK 1 T (2^(v+1)))))]) (d.up _) (HG _ _ _) (u _ _ _ n om) om om (by rw [a8,ag];omega) (by rw [a8,ag];omega) (by rw [a8,ag];omega)
   (by rw [a8,ag];omega) m q
  have t:=(NE (kind:=1) (bh:=bh) (v+1) (Q++[rdM s (rdK 1 T (2^(v+1)))]) (bdK (rdM s (rdK 1 T (2^(v+1)))) T) (bh (Q++[rdM s (rdK 1 T (2^(v+1)))]) (nsM s (rdK 1 T (2^(v+1)))))).2
  rw [du (s':=(pre++[wtK (v+1+1+ρ) W]++[wtK (v+1+ρ) (fwK (v+1+ρ) W (rdM s (rdK 1 T (2^(v+1)))))],R++[kv (rdK 1 T (2^(v+1)))],P++[(rdM s (rdK 1 T (2^(v+1)))).1],Rt++[wrK (v+ρ) (fwK (v+1+ρ) W (rdM s (rdK 1 T (2^(v+1)))))],kvv (bdK (rdM s (rdK 1 T (2^(v+1)))) T),(bh (Q++[rdM s (rdK 1 T (2^(v+1)))]) (nsM s (rdK 1 T (2^(v+1))))).Script,(bh (Q++[rdM s (rdK 1 T (2^(v+1)))]) (nsM s (rdK 1 T (2^(v+1))))).At,(bh (Q++[rdM s (rdK 1 T (2^(v+1)))]) (nsM s (rdK 1 T (2^(v+1))))).State,(bh (Q++[rdM s (rdK 1 T (2^(v+1)))]) (nsM s (rdK 1 T (2^(v+1))))).Count,V,0,0,0)) ?_]
  ·rw [r]
   have e1:pvM 1 bh (v+1+1) Q T s=(rdK 1 T (2^(v+1))::(pvM 1 bh (v+1) (Q++[rdM s (rdK 1 T (2^(v+1)))]) (bdK (rdM s (rdK 1 T (2^(v+1)))) T) (bh (Q++[rdM s (rdK 1 T (2^(v+1)))]) (nsM s (rdK 1 T (2^(v+1)))))).1,
    rdM s (rdK 1 T (2^(v+1)))::(pvM 1 bh (v+1) (Q++[rdM s (rdK 1 T (2^(v+1)))]) (bdK (rdM s (rdK 1 T (2^(v+1)))) T) (bh (Q++[rdM s (rdK 1 T (2^(v+1)))]) (nsM s (rdK 1 T (2^(v+1)))))).2.1,
    (pvM 1 bh (v+1) (Q++[rdM s (rdK 1 T (2^(v+1)))]) (bdK (rdM s (rdK 1 T (2^(v+1)))) T) (bh (Q++[rdM s (rdK 1 T (2^(v+1)))]) (nsM s (rdK 1 T (2^(v+1)))))).2.2):=rfl
   rw [e1]
   simp only [B9,Cl,CJ,p,t,kvv,kv,aM,aP,b8,show v+1+1+ρ-2=v+ρ by omega]
   rw [a7 om];rfl
  ·simp only [ck,ph]
   rw [b5l om,obs,bB,d.tab 0 om,zt,brd om,j,obs,show Source.mk s.Script s.At s.State s.Count=s from rfl,Az l.1 (by rw [HJ];omega),obs,Zb l,obs]
   dsimp only
   rw [EC a om,obs,aS (by rw [a8,ag];omega),aS (by rw [a8,ag];omega),show (pre++[wtK (v+1+1+ρ) W]).length=pre.length+1 by simp,ai (((pre.length+1:Nat):Int)-1) om om,show ((pre.length+1:Nat):Int)-1=(pre.length:Int) by omega]
   simp only [aY]
   rw [brd om,brd om,b,obs]
   rw [show (wtK (v+1+1+ρ) W).word=kv W from rfl,Jj _ om i,obs,cm om,H5 (k:=v+ρ) om (by rw [HG];congr 1;omega),obs,show v+ρ+1=v+1+ρ by omega]
   rw [show (pre++[wtK (v+1+1+ρ) W]++[wtK (v+1+ρ) (fwK (v+1+ρ) W (rdM s (rdK 1 T (2^(v+1)))))]).length=pre.length+1+1 by simp,aS om,ai (((pre.length+1+1:Nat):Int)-1) om om,show ((pre.length+1+1:Nat):Int)-1=((pre.length+1:Nat):Int) by omega]
   simp only [aY]
   rw [brd om,brd om,h,obs,show v+1+ρ=v+ρ+1 by omega,Rb _ _ om,obs,aS (by rw [a8,ag];omega),aS (by rw [PS];omega),mi n.1.3 (by rw [PS];omega),obs,obs,show v+ρ+1=v+1+ρ by omega,c]
end
section
theorem ZQ (p q:Nat):p%2^(q+1)%2^q=p%2^q:=Nat.mod_mod_of_dvd p ⟨2,by rw [aZ]⟩
theorem b7V: ∀(Ws:List (List K)) (m p:Nat),a0u m Ws->prK m Ws (p%2^m)=prK m Ws p
 |[],_,_,_=>rfl
 |W::Ws,m,p,h=>by
  obtain ⟨q,rfl⟩: ∃q,m=q+1:=⟨m-1,by have:=h.2.1;omega⟩
  simp only [prK,cX,ZQ]
theorem b9m: ∀(Ws:List (List K)) (m p:Nat),a0u m Ws->ptK m Ws (p%2^m)=ptK m Ws p
 |[],_,_,_=>rfl
 |W::Ws,m,p,h=>by
  obtain ⟨q,rfl⟩: ∃q,m=q+1:=⟨m-1,by have:=h.2.1;omega⟩
  simp only [ptK,cX,ZQ]
theorem Me {l5:List (List UInt8)} {l6:List cx} {t5:List Int} {t6 t7 N c17 c19 c20 c21 c22 c23 c24 c25 c27 c28 c29 c30:Int} {c16:List Ext} {c18:List UInt8} {c26:List (List Ext)}: ∀(Ws:List (List K)) (pre:List cQ) (m p:Nat) (A:List Ext) (B:List (List (List UInt8))),
 a0u m Ws->m<=9->pre.length+Ws.length<=100->A.length+2*Ws.length<=1000->B.length+Ws.length<=1000->p<=1000000->N=((pre++CJ m Ws).length:Int)->
 Loop (jM (pre++CJ m Ws) l5 l6 (p:Int) t5 t6 t7 N c16 c17 c18 c19 c20 c21 c22 c23 c24 c25 c26 c27 c28 c29 c30) (A,B,(pre.length:Int))=
  some (A++kv (prK m Ws p),B++ptK m Ws p,N,false)
 |[],pre,m,p,A,B,h,e,i,j,k,l,hN=>by
  rw [CJ,bL] at hN
  refine dx ?_
  simp only [jM]
  rw [brn om,ae om, <-hN]
  simp [prK,ptK,kv]
 |W::Ws,pre,m,p,A,B,h,e,i,j,k,l,hN=>by
  obtain ⟨n,o,a⟩:=h
  rw [ab] at i j k
  obtain ⟨q,rfl⟩: ∃q,m=q+1:=⟨m-1,by omega⟩
  have t:=Jv (q+1) e
  have u:2^(q+1)=2*2^q:=by rw [aZ];omega
  have r:=a0J q e
  have s:p%2^q<2^q:=fO _ om
  have b:(pre++CJ (q+1) (W::Ws)).length=pre.length+(Ws.length+1):=by rw [a8,LQ,ab]
  have f:(pre.length:Int)<N:=by rw [hN,b];omega
  have c:(pre++CJ (q+1) (W::Ws))[pre.length]? =some (wtK (q+1) W):=by simp [CJ]
  have d:(p:Int).tmod ((2^q:Nat):Int)=((p%2^q:Nat):Int):=by rw [dw _ _ om];omega
  have ih:=Me (l5:=l5) (l6:=l6) (t5:=t5) (t6:=t6) (t7:=t7) (N:=N) (c16:=c16) (c17:=c17) (c18:=c18) (c19:=c19) (c20:=c20) (c21:=c21) (c22:=c22) (c23:=c23) (c24:=c24) (c25:=c25) (c26:=c26) (c27:=c27) (c28:=c28) (c29:=c29) (c30:=c30)
   Ws (pre++[wtK (q+1) W]) q p (A++[(W.getD (p%2^q) 0).1,(W.getD (p%2^q+2^q) 0).1]) (B++[wh ((lvK q W).map hL) q (p%2^q)]) a om (by rw [a8,ag];omega)
   (by rw [a8];simp only [ab,ah];omega) (by rw [a8,ag];omega) om (by rw [hN,b,aP,a8,b8,ab,LQ])
  rw [aP,b8,a8,ag] at ih
  rw [du (s':=(A++[(W.getD (p%2^q) 0).1,(W.getD (p%2^q+2^q) 0).1],B++[wh ((lvK q W).map hL) q (p%2^q)],((pre.length+1:Nat):Int))) ?_]
  ·rw [show pre++CJ (q+1) (W::Ws)=pre++wtK (q+1) W::CJ q Ws from rfl,ih]
   simp only [prK,ptK,cX,b7V Ws q p a,b9m Ws q p a]
   simp [kv]
  ·simp only [jM,aY]
   rw [brd f,brd om,brd (by rw [b];omega),c,obs,show (wtK (q+1) W).word=kv W from rfl,bB,n,r,d,brd om,uF om,obs,ai (((p%2^q:Nat):Int)+_) om om,show ((p%2^q:Nat):Int)+((2^q:Nat):Int)=((p%2^q+2^q:Nat):Int) by omega,uF om,obs,
    aS (by rw [a8];simp only [ab,ah];omega),show (wtK (q+1) W).rows=w6 ((lvK q W).map hL) q from rfl,a0D (by rw [aw,HB]) om s,obs,aS (by rw [a8,ag];omega),ai _ om om];rfl
theorem R6 {l2:List (List UInt8)} {c2 c4 c5 c6 c7 c8 c9 c10 c12 c13 c14 c15:Int} {c:List Ext} {c3:List UInt8} {c11:List (List Ext)} {Ws:List (List K)} {m:Nat} {pl:List Int} (h:a0u m Ws) (d:m<=9) (i:Ws.length<=100) (k:pl.length<=1000) (e: ∀x∈pl,0<=x/\x<=1000000):
 Loop (iq (CJ m Ws) l2 pl (pl.length:Int) c c2 c3 c4 c5 c6 c7 c8 c9 c10 c11 c12 c13 c14 c15) ([],0)=some (pl.map (qsM m Ws),(pl.length:Int),false):=by
 refine bq (step:=iq (CJ m Ws) l2 pl (pl.length:Int) c c2 c3 c4 c5 c6 c7 c8 c9 c10 c11 c12 c13 c14 c15) (fun j=>((pl.take j).map (qsM m Ws),(j:Int))) pl.length (fun j a=> ?_) ?_
 ·have f:=e _ (b9 a)
  have b:=Me (l5:=l2) (l6:=(pl.take j).map (qsM m Ws)) (t5:=pl) (t6:=(pl.length:Int)) (t7:=(j:Int)) (N:=((CJ m Ws).length:Int)) (c16:=c) (c17:=c2) (c18:=c3) (c19:=c4) (c20:=c5) (c21:=c6) (c22:=c7) (c23:=c8) (c24:=c9) (c25:=c10) (c26:=c11) (c27:=c12) (c28:=c13) (c29:=c14) (c30:=c15)
   Ws [] m (pl[j].toNat) [] [] h d (by rw [ah];omega) (by rw [ah];omega) (by rw [ah];omega) om rfl
  rw [bA,fD f.1,ah] at b
  simp only [iq]
  rw [brd om,cJ a,obs,show ((0:Int))=((0:Nat):Int) from rfl,b,obs,aS (by rw [a8,aw,aD,ag];omega),ai _ om om,cB a,bW];rfl
 ·simp only [iq]
  rw [brn om,ae om,aX om]
variable {v ρ:Nat} {t P:List K} {s:Source} {k:Int}
theorem a6K {st:Setting} {nq bits:Nat} (b:t.length=2^v) (hP:P.length=v) (hv1:1<=v) (hv:v<=6) (hρ:ρ<=3) (hq1:nq<=8) (hb:bits<=12) (e1:st.Rate=(ρ:Int)) (e2:st.Queries=(nq:Int)) (e3:st.Grind=(bits:Int)) (l:Few s k) (hk:k<=800):
 te (kv t) (kv P) st s=some ((Mw v ρ nq bits t P s).1,(Mw v ρ nq bits t P s).2.2,(Mw v ρ nq bits t P s).2.1):=by
 have hk0:0<=k:=by have:=l.2;have:=l.1.4;omega
 have hp:=c4Q v hv
 have d:k+3*v<=900:=by omega
 obtain ⟨u,rfl⟩: ∃u,v=u+1:=⟨v-1,by omega⟩
 obtain ⟨q,o⟩: ∃q,u+1+ρ=q+1:=⟨u+ρ,by omega⟩
 have hfQ:=a4x (ρ:=ρ) (t:=t) (P:=P) l d
 have p:=a57 (ρ:=ρ) (t:=t) (P:=P) l d
 have a:=Z8 (V:=((u+1:Nat):Int)) (bh:=bhO (u+1) ρ (opW (u+1) ρ t)) (b2H (u+1) ρ _) hρ u [] [t,eqK P] (opW (u+1) ρ t) s k [] [] [] [] (b89 b hP) (Er b) l om hv (by rw [ah];omega) (by rw [ah];omega) (by rw [ah];omega) (by rw [ah];omega) om (fun P' s' _ _=>rfl)
 have c:OkT 1 1 (opQ (u+1) ρ t P s).2.2.1:=R0 (u+1) _ _ _ (b89 b hP)
 have hrl:=(PX (u+1) ρ t P s).2
 have w:=XS (opQ (u+1) ρ t P s).2.1 (u+1+ρ) (opW (u+1) ρ t) (Er b) om
 have hwl:=Kw (opQ (u+1) ρ t P s).2.1 (u+1+ρ) (opW (u+1) ρ t)
 have hT0:(opQ (u+1) ρ t P s).2.2.1.length=2:=c.len
 have f:=fun c9 c10 c11 c12 c13 c14 c15 c16 l7 l8 l9 l11=>bq (step:=cL l7 l8 l9 l11 (kvv (opQ (u+1) ρ t P s).2.2.1) (((kvv (opQ (u+1) ρ t P s).2.2.1).length:Nat):Int) c9 c10 c11 c12 c13 c14 c15 c16) (fun j=>(kv ((p5 (opQ (u+1) ρ t P s).2.2.1).take j),(j:Int))) (opQ (u+1) ρ t P s).2.2.1.length (e:=(kv (p5 (opQ (u+1) ρ t P s).2.2.1),((opQ (u+1) ρ t P s).2.2.1.length:Int),false)) (fun j hj=>by
  simp only [cL,tW]
  rw [brd om,Ha hj,obs,kv0 (by rw [c.tab j hj];omega),obs,aS (by rw [a8,bB,aD,CN,ag];omega),ai _ om om,UV hj,kvS];rfl) (by
  simp only [cL,tW]
  rw [brn om,ae om,aX (by rw [CN];omega)])
 have hps:dT 1 (kvv [t,eqK P]) s ((u+1:Nat):Int) 0 0 0 [wtK (u+1+ρ) (opW (u+1) ρ t)]=some (kvv (opQ (u+1) ρ t P s).1,kv (opQ (u+1) ρ t P s).2.1,kv (p5 (opQ (u+1) ρ t P s).2.2.1),(opQ (u+1) ρ t P s).2.2.2,((u+1:Nat):Int),0,0,0,CJ (u+1+ρ) (Cl (u+1+ρ) (opW (u+1) ρ t) (opQ (u+1) ρ t P s).2.1),B9 (u+1+ρ) (opW (u+1) ρ t) (opQ (u+1) ρ t P s).2.1):=by
  unfold dT
  rw [bA] at a
  rw [a,obs]
  simp only [bA]
  rw [show pvM 1 (bhO (u+1) ρ (opW (u+1) ρ t)) (u+1) [] [t,eqK P] s=opQ (u+1) ρ t P s from rfl]
  have z:=f (opQ (u+1) ρ t P s).2.2.2.Script (opQ (u+1) ρ t P s).2.2.2.At (opQ (u+1) ρ t P s).2.2.2.State (opQ (u+1) ρ t P s).2.2.2.Count ((u+1:Nat):Int) 0 0 0 (CJ (u+1+ρ) (Cl (u+1+ρ) (opW (u+1) ρ t) (opQ (u+1) ρ t P s).2.1)) (kvv (opQ (u+1) ρ t P s).1) (kv (opQ (u+1) ρ t P s).2.1) (B9 (u+1+ρ) (opW (u+1) ρ t) (opQ (u+1) ρ t P s).2.1)
  rw [u9] at z
  rw [show (([]:List Ext),(0:Int))=(kv [],((0:Nat):Int)) from rfl,z];rfl
 have hll:p5 (opQ (u+1) ρ t P s).2.2.1=[opL (u+1) ρ t P s,((opQ (u+1) ρ t P s).2.2.1.getD 1 []).getD 0 0]:=by
  match hx:(opQ (u+1) ρ t P s).2.2.1,hT0 with
  |[x,y],_=>simp only [p5,opL,hx];rfl
 unfold te
 rw [Sf b hv,obs,e1,LA (m:=u+1) (t:=ρ) om (by rw [vq];exact b),obs,show Enc (u+1) ρ (cfK (u+1) t)=opW (u+1) ρ t from rfl,H5 (k:=q) om (by rw [<-o];exact Er b),obs,sr (An P) (by rw [bB];omega),obs,Gt,bB,hP, <-o,
  show ([kv t,kv (eqK P)]:List (List Ext))=kvv [t,eqK P] from rfl,hps,obs]
 dsimp only
 rw [hll,show kv [opL (u+1) ρ t P s,((opQ (u+1) ρ t P s).2.2.1.getD 1 []).getD 0 0]=[(opL (u+1) ρ t P s).1,(((opQ (u+1) ρ t P s).2.2.1.getD 1 []).getD 0 0).1] from rfl,show atL [(opL (u+1) ρ t P s).1,(((opQ (u+1) ρ t P s).2.2.1.getD 1 []).getD 0 0).1] 0=some (opL (u+1) ρ t P s).1 from rfl,obs,
  show ([(opL (u+1) ρ t P s).1]:List Ext)=kv [opL (u+1) ρ t P s] from rfl,Az hfQ.1 sm,obs,show rsM (opQ (u+1) ρ t P s).2.2.2 [opL (u+1) ρ t P s]=opS (u+1) ρ t P s from rfl,e3,a2C p.1.3 hb,obs]
 cases hg:vi (opS (u+1) ρ t P s).State bits with
 |none=>
  dsimp only
  rw [JP hg,brd dcd]
 |some n=>
  have i:=a6u (ρ:=ρ) (t:=t) (P:=P) l d n
  dsimp only
  rw [Kk hg,brn (show ¬((n:Int)<0) from Int.not_lt.2 (vM n)),CH,obs,mi p.1.3 (by rw [gg];omega),obs,show tkM (opS (u+1) ρ t P s) (lD (n:Int))=opT (u+1) ρ n t P s from rfl,e2,wR i om om,obs,brd (by rw [LQ,hwl];omega)]
  have hgt:(CJ (u+1+ρ) (Cl (u+1+ρ) (opW (u+1) ρ t) (opQ (u+1) ρ t P s).2.1))[0]? =some (wtK (u+1+ρ) (opW (u+1) ρ t)):=by
   match hL:(opQ (u+1) ρ t P s).2.1,hrl with
   |r::L,_=>rfl
   |[],h=>exfalso;rw [ah] at h;omega
  have hpq:=Jv q om
  have hpl:=c49 (MZ i om (n:=nq) om) (m:=2^q) om om
  rw [hgt,obs,show (wtK (u+1+ρ) (opW (u+1) ρ t)).word=kv (opW (u+1) ρ t) from rfl,bB,Er b,o,a0J q om,OL (by rw [xC];omega) (MZ i om om) om,obs]
  rw [o] at w
  rw [R6 w om (by rw [Kw];omega) (by rw [plM,aw,xC];omega) hpl,obs,opO,o,cX]
end
end Go.AI.Fn
