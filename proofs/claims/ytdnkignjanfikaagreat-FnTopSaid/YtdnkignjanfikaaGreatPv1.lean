/- Part. -/
import Derived.Test.YtdnkignjanfikaaGreatPv0
set_option linter.unusedVariables false
set_option linter.unusedSimpArgs false
namespace Go.AI.Fn
section
def tkM (s:Source) (t:List UInt8):Source:=⟨s.Script,s.At,H (s.State++(b5e++(lG t.length++t))),0⟩
theorem c2j {s:Source} (t:List UInt8) (h:F3 s):F3 (tkM s t):=⟨h.1,h.2,Fk _,h.4,h.5,by simp [tkM],by simp [tkM]⟩
def beN (l:List UInt8):Int:=l.foldl (fun n c=>n*256+(c.toNat:Int)) 0
def a9z (l:List UInt8):Int:=beN l%2130706433
def yk (s:Source):Source×Ext:=
 if s.Script.length=0 then (⟨s.Script,s.At,s.State,s.Count+1⟩,⟨a9z ((H (s.State++(Yi++lG s.Count))).take 8),a9z (((H (s.State++(Yi++lG s.Count))).drop 8).take 8)⟩)
 else (⟨s.Script,s.At+1,s.State,s.Count⟩,s.Script.getD (s.At%(s.Script.length:Int)).toNat e0)
theorem a5C (l:List UInt8):okF (a9z l):=nu _
theorem a05 {s:Source} (h:F3 s):okE (yk s).2:=by
 unfold yk
 split
 ·exact ⟨a5C _,a5C _⟩
 ·exact h.scr.getD _
theorem a7N {s:Source} (h:F3 s) (a:s.At<1000000) (hc:s.Count<1000000):F3 (yk s).1:=by
 unfold yk
 split
 ·exact ⟨h.1,h.2,h.3,h.4,h.5,by have:=h.6;simp;omega,by simp;omega⟩
 ·exact ⟨h.1,h.2,h.3,by have:=h.4;simp;omega,by simp;omega,h.6,h.7⟩
theorem YE {s:Source} {t:List UInt8} (a:s.State.length=32) (b:t.length<=1000000):uM s t=some (tkM s t):=by
 unfold uM
 have c:=gc (t.length:Int)
 rw [aS (by simp only [ab,ah];omega),a69,obs,aS (by simp only [a8,ab,ah];omega),
  aS (by simp only [a8,ab,ah];omega),NR (by simp only [a8,ab,ah];omega),obs,tkM]
 simp [b5e]
theorem S7 (l:List UInt8) (c:UInt8):beN (l++[c])=beN l*256+(c.toNat:Int):=by simp [beN,gG]
theorem Tu {t:List UInt8} (h:t.length=8):wS t=some (a9z t):=by
 unfold wS
 have key:Loop (o1 t) (0,0)=some (a9z t,8,false):=
  bq (fun k=>(beN (t.take k)%2130706433,(k:Int))) 8 (fun k b=>by
   have a:k<t.length:=by omega
   have c:=AR t[k]
   have d:0<=beN (t.take k)%2130706433/\beN (t.take k)%2130706433<2130706433:=by omega
   simp only [o1]
   rw [brd om,cJ a,obs]
   simp (disch:=omega) only [ai,dv]
   rw [cA a,S7,mX1];rfl) (by
   simp only [o1]
   rw [brn dcd,aX om];rfl)
 rw [key];rfl
theorem a86 {s:Source} (h:F3 s):zW s=some (yk s):=by
 have i:=h.1
 have j:=h.3
 have c:=h.4
 have m:=h.5
 have n:=h.6
 have o:=h.7
 unfold zW yk
 by_cases a:s.Script.length=0
 ·have p:=gc s.Count
  rw [brn om,aa a,aS (by simp only [ab,ah];omega),a69,obs,aS (by simp only [a8,ab,ah];omega),NR (by simp only [a8,ab,ah];omega),obs]
  have e:s.State++[100,114,97,119]++lG s.Count=s.State++(Yi++lG s.Count):=by simp [Yi]
  rw [e]
  have q:=Fk (s.State++(Yi++lG s.Count))
  rw [kx om om om,obs,Tu (by simp;omega),obs,kx om om om,obs,Tu (by simp;omega),obs,ai _ om om]
  rfl
 ·have d:=dD s.At (b:=(s.Script.length:Int)) om
  have f:=cW s.At (b:=(s.Script.length:Int)) om
  rw [brd om,a7 a,brd om,dv _ _ c,ai _ om om]
  have e:atL s.Script (s.At%(s.Script.length:Int))=some (s.Script.getD (s.At%(s.Script.length:Int)).toNat e0):=by
   have:=c0C (l:=s.Script) (k:=(s.At%(s.Script.length:Int)).toNat) om
   rwa [fy d] at this
  rw [e];rfl
theorem Zj {s:Source} (h:s.Script.length<=1000000):D3 s=some s:=by
 unfold D3;rw [aS (by simp;omega)];simp
theorem b47 {l:List UInt8} {scr:List Ext} (h:l.length<=1000000):GO l scr=some ⟨scr,0,H (b6a++l),0⟩:=by
 unfold GO
 rw [aS (by simp only [ab,ah];omega),NR (by simp only [a8,ab,ah];omega),obs];rfl
theorem a2v {l:List UInt8} {scr:List Ext} (h:scr.length<=64) (a:j7 scr):F3 ⟨scr,0,H (b6a++l),0⟩:=⟨h,a,Fk _,by simp,by simp,by simp,by simp⟩
theorem a6m {l:List (List UInt8)} {m:bV} {B:Int} (h:Src B m) (f:B+3<Big) (h0:1<l.length) (i:l.length<=100): ∃x m',mR l m=some (x,m')/\x∈l/\Src (B+3) m':=by
 unfold mR
 obtain ⟨x,j,e1,a,b,_,c⟩:=kh (n:=(l.length:Int)) h om
 rw [cn om,e1,obs]
 obtain ⟨y,d,_,e⟩:=XX (l:=l) a (by have:=b;omega)
 dsimp only
 rw [d]
 exact ⟨_,_,rfl,e,c⟩
structure Few (s:Source) (k:Int):Prop where
 ok:F3 s
 a:s.At<=k
 c:s.Count<=k
theorem Few.mono {s:Source} {j k:Int} (h:Few s j) (a:j<=k):Few s k:=⟨h.1,by have:=h.2;omega,by have:=h.3;omega⟩
theorem Few.take {s:Source} {k:Int} (h:Few s k) (t:List UInt8):Few (tkM s t) (k+1):=⟨c2j t h.1,by have:=h.2;simp [tkM];omega,by have:=h.3;have:=h.1.c0;simp [tkM];omega⟩
theorem Few.draw {s:Source} {k:Int} (h:Few s k) (a:k<1000000):Few (yk s).1 (k+1):=by
 have b:=h.2
 have c:=h.3
 refine ⟨a7N h.1 om om, ?_, ?_⟩<;>(unfold yk;split<;>dsimp only<;>omega)
theorem a5Q {c4 c6:Int} {c5:List UInt8} {i B k:Int} {m:bV} {s:Source} (h:Src B m) (r:Few s k) (o:0<=i) (hi:i<=4) (z:k<=100) (hB:B+6*i<Big):
 ∃e,Loop (iH c4 c5 c6) (i,m.code,m.at_,m.seed,s.Script,s.At,s.State,s.Count)=some e/\Src (B+6*i) ⟨e.2.2.1,e.2.2.2.1,e.2.2.2.2.1⟩/\Few ⟨e.2.2.2.2.2.1,e.2.2.2.2.2.2.1,e.2.2.2.2.2.2.2.1,e.2.2.2.2.2.2.2.2⟩ (k+i):=by
 refine rg (step:=iH c4 c5 c6) (fun x=>0<=x.1/\x.1<=i/\Src (B+6*(i-x.1)) ⟨x.2.1,x.2.2.1,x.2.2.2.1⟩/\Few ⟨x.2.2.2.2.1,x.2.2.2.2.2.1,x.2.2.2.2.2.2.1,x.2.2.2.2.2.2.2⟩ (k+(i-x.1))) (fun x=>x.1.toNat) _ ?_ (i,m.code,m.at_,m.seed,s.Script,s.At,s.State,s.Count) ⟨o,by dsimp only;omega,h.mono dmo,r.mono dmo⟩
 rintro ⟨j,c,c2,c3,d,d2,d3,d4⟩ ⟨u,v,f,a⟩
 dsimp only at u v f a
 simp only [iH]
 by_cases p:j>0
 ·left
  rw [brd p]
  obtain ⟨b,m1,e1,q⟩:=zR (n:=2) f om
  rw [e1,obs]
  cases b
  ·dsimp only
   rw [bu,a86 a.1,obs,ai _ om om]
   exact ⟨_,rfl,⟨by dsimp only;omega,by dsimp only;omega,q.mono dmo,(a.draw om).mono dmo⟩,by dsimp only;omega⟩
  ·dsimp only
   obtain ⟨y,m2,e2,_,w⟩:=a6m (l:=[[],[116,101,120,116]]) q om dcd dcd
   have hy:y.length<=1000:=by
    have:y∈[[],[116,101,120,116]]:=by assumption
    simp only [aW,List.mem_nil_iff,or_false] at this
    rcases this with rfl|rfl<;>simp
   rw [dj,e2,obs,YE (t:=y) a.1.3 om,obs,ai _ om om]
   exact ⟨_,rfl,⟨by dsimp only;omega,by dsimp only;omega,w.mono dmo,(a.take y).mono dmo⟩,by dsimp only;omega⟩
 ·right
  rw [brn p]
  have:j=0:=by omega
  subst this
  exact ⟨_,rfl,f.mono om,a.mono om⟩
theorem b6o {c4 c6:Int} {c5:List UInt8} {i B k:Int} {m:bV} {s:Source} (h:Src B m) (b:Few s k) (a:0<=i) (hi:i<=4) (c:k<=100) (d:B+6*i<Big):
 ∃e,Loop (nm c4 c5 c6) (i,m.code,m.at_,m.seed,s.Script,s.At,s.State,s.Count)=some e/\Src (B+6*i) ⟨e.2.2.1,e.2.2.2.1,e.2.2.2.2.1⟩/\Few ⟨e.2.2.2.2.2.1,e.2.2.2.2.2.2.1,e.2.2.2.2.2.2.2.1,e.2.2.2.2.2.2.2.2⟩ (k+i):=
 a5Q (c4:=c4) (c5:=c5) (c6:=c6) h b a hi c d
end
section
theorem a9w {n:Int} (x:UInt8) (h0:0<=n) (c:n<72057594037927936):Cp .u64 (ct .u64 n 8) (IntKind.wrap .u64 (x.toNat:Int))=n*256+x.toNat:=by
 have d:=AR x
 have e1:ct .u64 n 8=n*256:=by
  have:n*2^(min (8:Int).toNat (IntKind.bits .u64))=n*256:=by
   have:(2:Int)^(min (8:Int).toNat (IntKind.bits .u64))=256:=by decide
   rw [this]
  unfold ct
  rw [this,rD _ om om]
 rw [e1,rD (x.toNat:Int) om om]
 unfold Cp
 obtain ⟨m,rfl⟩:=pQ h0
 have e2:(BitVec.ofInt (IntKind.bits .u64) ((m:Int)*256)|||BitVec.ofInt (IntKind.bits .u64) (x.toNat:Int)).toNat=m*256+x.toNat:=by
  rw [BitVec.toNat_or,ix,ix]
  have a:(((m:Int)*256)%((2^(IntKind.bits .u64):Nat):Int)).toNat=m<<<8:=by
   rw [show ((2^(IntKind.bits .u64):Nat):Int)=18446744073709551616 by decide,ru];omega
  have b:((x.toNat:Int)%((2^(IntKind.bits .u64):Nat):Int)).toNat=x.toNat:=by
   rw [show ((2^(IntKind.bits .u64):Nat):Int)=18446744073709551616 by decide];omega
  rw [a,b, <-Nat.shiftLeft_add_eq_or_of_lt (show x.toNat<2^8 by omega),ru]
 rw [e2,rD _ om om]
 omega
theorem a3h: ∀(l:List UInt8) (k:Nat),k<=8->k<=l.length->0<=beN (l.take k)/\beN (l.take k)<256^k
 |l,0,_,_=>by simp [beN]
 |l,k+1,h,a=>by
  have ⟨h0,b⟩:=a3h l k om om
  have c:=AR l[k]
  rw [cA om,S7]
  have:(256:Int)^(k+1)=256^k*256:=fW _ _
  rw [this]
  generalize (256:Int)^k=p at*
  omega
theorem c6X: ∀k:Nat,k<8->(256:Int)^k<=72057594037927936:=by decide
theorem OD {t:List UInt8} (h:t.length=8):CZ t=some (a9z t):=by
 unfold CZ
 have key:Loop (oC t (t.length:Int)) (0,0)=some (beN t,(t.length:Int),false):=by
  have key:=bq (step:=oC t (t.length:Int)) (fun k=>(beN (t.take k),(k:Int))) t.length (e:=(beN t,(t.length:Int),false)) (fun k a=> ?_) ?_
  ·exact key
  ·have ⟨h0,b⟩:=a3h t k om om
   have c:=c6X k om
   simp only [oC]
   rw [brd om,cJ a,obs,a9w _ h0 om,ai _ om om,cA a,S7];rfl
  ·simp only [oC]
   rw [brn om,ae om,bw]
 have ⟨h0,b⟩:=a3h t 8 om om
 rw [aX om] at h0 b
 rw [key,obs]
 dsimp only
 rw [dv _ _ h0,ai _ om om];rfl
theorem my {s:Source} {t:List UInt8} (b:s.State.length=32) (c:t.length<=1000000):dJ t s=some (tkM s t):=by
 unfold dJ
 have a:[s.State,[97,98,115,111,114,98],lG (t.length:Int),t].flatten=s.State++(b5e++(lG t.length++t)):=by simp [b5e]
 rw [aS om,De,obs,xM (by rw [a];simp only [a8,gc,b5e,ab,ah];omega) sm,obs,a];rfl
theorem UU {s:Source} (h:F3 s):il s=some ((yk s).2,(yk s).1):=by
 have i:=h.1
 have j:=h.3
 have c:=h.4
 have m:=h.5
 have n:=h.6
 have o:=h.7
 unfold il yk
 by_cases a:s.Script.length=0
 ·have p:=gc s.Count
  have q:=Fk (s.State++(Yi++lG s.Count))
  have e:[s.State,[100,114,97,119],lG s.Count].flatten=s.State++(Yi++lG s.Count):=by simp [Yi]
  rw [brn om,aa a,aS om,De,obs,xM (by rw [e];simp only [a8,gc,Yi,ab,ah];omega) sm,obs,e,aS om,
   kx om om om,obs,OD (by simp;omega),obs,kx om om om,obs,OD (by simp;omega),obs,ai _ om om]
  rfl
 ·have d:=dD s.At (b:=(s.Script.length:Int)) om
  have f:=cW s.At (b:=(s.Script.length:Int)) om
  rw [brd om,a7 a,brd om,ai (s.At+1) om om,ai (s.At+1-1) om om,show s.At+1-1=s.At by omega,dv _ _ c]
  have e:atL s.Script (s.At%(s.Script.length:Int))=some (s.Script.getD (s.At%(s.Script.length:Int)).toNat e0):=by
   have:=c0C (l:=s.Script) (k:=(s.At%(s.Script.length:Int)).toNat) om
   rwa [fy d] at this
  rw [e];rfl
def drS (s:Source):Nat->Source
 |0=>s
 |j+1=>(yk (drS s j)).1
def drL (s:Source) (n:Nat):List Ext:=(List.range n).map fun j=>(yk (drS s j)).2
theorem xg (s:Source) (n:Nat):(drL s n).length=n:=by simp [drL]
theorem EG {s:Source} {k:Int} (h:Few s k) (a:k<=999890): ∀j:Nat,j<=100->Few (drS s j) (k+j)
 |0,_=>h.mono om
 |j+1,b=>((EG h a j om).draw om).mono om
theorem NC {s:Source} {k:Int} (h:Few s k) (b:k<=999890) {n:Nat} (hn:n<=100):j7 (drL s n):=fun x c=>by
 obtain ⟨j,a,rfl⟩:=bf.1 c
 have a:=bS.1 a
 exact a05 (EG h b j om).1
theorem b4J (s:Source) (n:Nat):drL s (n+1)=drL s n++[(yk (drS s n)).2]:=by simp [drL,dY]
theorem wv {s:Source} {k:Int} (h:Few s k) (a:k<=999890) {n:Nat} (hn:n<=100):gI (n:Int) s=some (drL s n,drS s n):=by
 unfold gI
 have key:=bq (step:=gZ (n:Int)) (fun j=>(drL s j,(j:Int),(drS s j).Script,(drS s j).At,(drS s j).State,(drS s j).Count)) n (e:=(drL s n,(n:Int),false,(drS s n).Script,(drS s n).At,(drS s n).State,(drS s n).Count)) (fun j b=> ?_) ?_
 ·have key':Loop (gZ (n:Int)) ([],0,s.Script,s.At,s.State,s.Count)=_:=key
  rw [key'];rfl
 ·simp only [gZ]
  rw [brd om,UU (EG h a j om).1,obs,aS (by simp only [a8,xg,ag];omega),ai _ om om, <-b4J];rfl
 ·simp only [gZ]
  rw [brn om,ae om]
theorem Oj {s:Source} (h:s.Script.length<=1000000):mh s=some s:=by
 unfold mh dh
 rw [aS om];rfl
theorem XT {s:Source} (h:F3 s):uc s=some true:=by
 have:=h.1
 rw [Ir om,Tj.2 h]
variable {s:Source} {k:Int}
theorem b4p {a b c:Int} (h:a<=c) (g:b<=c):mx a b<=c:=by unfold mx;split<;>assumption
def plM (l:List Ext) (m:Int):List Int:=l.map fun x=>x.A%m
theorem OU {l:List Ext} {m:Int} (b:l.length<=1000) (ok:j7 l) (c:0<m):D0 l m=some (plM l m):=by
 unfold D0
 have key:Loop (oq m l (l.length:Int)) ([],0)=some (plM l m,(l.length:Int),false):=
  bq (step:=oq m l (l.length:Int)) (fun j=>(plM (l.take j) m,(j:Int))) l.length (fun j a=>by
   simp only [oq]
   rw [brd om,cJ a,obs,brd om,aS (by simp only [a8,plM,aw,aD,ag];omega),ai _ om om,dv _ _ (ok.get a).1.1,cA a]
   simp only [plM,bW,aM,eu,zT]) (by
   simp only [oq]
   rw [brn om,ae om,bw])
 rw [key];rfl
end
section
def toK (x:Ext):K:=⟨⟨x.A%2130706433,x.B%2130706433⟩,⟨nu _,nu _⟩⟩
theorem tQ {x:Ext} (h:okE x):(toK x).1=x:=CD (CM h.1) (CM h.2)
theorem iW (l:List Ext):(l.flatMap e8).length=8*l.length:=by
 induction l with
 |nil=>rfl
 |cons x l ih=>simp only [dA,a8,ih,c39,ab];omega
def rsM (s:Source) (g:List K):Source:=tkM s ((kv g).flatMap e8)
def rdM (s:Source) (g:List K):K:=toK (yk (rsM s g)).2
def nsM (s:Source) (g:List K):Source:=(yk (rsM s g)).1
theorem JD {s:Source} {k:Int} (h:Few s k) (a:k<=999990) (g:List K):Few (nsM s g) (k+2):=by
 have:=(h.take ((kv g).flatMap e8)).draw om
 rw [show k+1+1=k+2 by omega] at this;exact this
theorem c1X {s:Source} {k:Int} (h:Few s k) (g:List K):(rdM s g).1=(yk (rsM s g)).2:=tQ (a05 (h.take _).1)
theorem A1 {s:Source} (h:F3 s) {g:List K} (a:g.length<=1000):bL (kv g) s=some (rsM s g):=by
 have e:=iW (kv g)
 rw [bB] at e
 unfold bL
 rw [ij (by rw [bB];omega),obs,my h.3 om];rfl
theorem ZZ {s:Source} {k:Int} (h:Few s k) (g:List K):il (rsM s g)=some ((rdM s g).1,nsM s g):=by
 rw [UU (s:=rsM s g) (h.take _).1,c1X h];rfl
def pvM (kind:Nat) (bh:List K->Source->Source):Nat->List K->List (List K)->Source->List (List K)×List K×List (List K)×Source
 |0,P,T,s=>([],[],T,s)
 |v+1,P,T,s=>(rdK kind T (2^v)::(pvM kind bh v (P++[rdM s (rdK kind T (2^v))]) (bdK (rdM s (rdK kind T (2^v))) T) (bh (P++[rdM s (rdK kind T (2^v))]) (nsM s (rdK kind T (2^v))))).1,
   rdM s (rdK kind T (2^v))::(pvM kind bh v (P++[rdM s (rdK kind T (2^v))]) (bdK (rdM s (rdK kind T (2^v))) T) (bh (P++[rdM s (rdK kind T (2^v))]) (nsM s (rdK kind T (2^v))))).2.1,
   (pvM kind bh v (P++[rdM s (rdK kind T (2^v))]) (bdK (rdM s (rdK kind T (2^v))) T) (bh (P++[rdM s (rdK kind T (2^v))]) (nsM s (rdK kind T (2^v))))).2.2)
def bh0:List K->Source->Source:=fun _ s=>s
def b8a (bh:List K->Source->Source):Prop:= ∀P s k,Few s k->k<=999990->Few (bh P s) (k+1)
theorem b2D:b8a bh0:=fun P s k h _=>h.mono om
variable {kind:Nat} {bh:List K->Source->Source}
theorem zp (v:Nat):2^(v+1)=2*2^v:=by rw [aZ,eo]
theorem OkT.up {v:Nat} {T:List (List K)} (h:OkT kind (2^(v+1)) T) (r:K):OkT kind (2^v) (bdK r T):=by
 rw [zp] at h;exact h.bd r
theorem NE: ∀(v:Nat) (P:List K) (T:List (List K)) (s:Source),(pvM kind bh v P T s).1.length=v/\(pvM kind bh v P T s).2.1.length=v
 |0,P,T,s=>⟨rfl,rfl⟩
 |v+1,P,T,s=>by simp only [pvM,ab];exact ⟨by rw [(NE v _ _ _).1],by rw [(NE v _ _ _).2]⟩
theorem RX: ∀(v:Nat) (P:List K) (T:List (List K)) (s:Source),OkT kind (2^v) T->OkT kind 1 (pvM kind bh v P T s).2.2.1
 |0,P,T,s,h=>h
 |v+1,P,T,s,h=>RX v _ _ _ (h.up _)
theorem Yv (hb:b8a bh): ∀(v:Nat) (P:List K) (T:List (List K)) (s:Source) (k:Int),Few s k->k+3*v<=999990->Few (pvM kind bh v P T s).2.2.2 (k+3*v)
 |0,P,T,s,k,h,hk=>by rw [show k+3*((0:Nat):Int)=k by omega];exact h
 |v+1,P,T,s,k,h,hk=>by
  have:=Yv hb v (P++[rdM s (rdK kind T (2^v))]) (bdK (rdM s (rdK kind T (2^v))) T) _ _ (hb (P++[rdM s (rdK kind T (2^v))]) _ _ (JD h om (rdK kind T (2^v))) om) om
  rw [show k+2+1+3*(v:Int)=k+3*((v+1:Nat):Int) by omega] at this
  exact this
theorem Ht: ∀(v:Nat) (P:List K) (T:List (List K)) (s:Source), ∀g∈(pvM kind bh v P T s).1,g.length=kind+2
 |0,P,T,s,g,a=>by simp [pvM] at a
 |v+1,P,T,s,g,a=>by
  simp only [pvM,aW] at a
  rcases a with rfl|a
  ·exact Hp _ _ _
  ·exact Ht v _ _ _ g a
theorem b1z {T:List (List K)} (h:0<T.length):atL (kvv T) 0=some (kv (T.getD 0 [])):=FF (j:=0) h
theorem c4t: ∀v:Nat,v<=6->1<=2^v/\2^v<=64:=by decide
theorem KW: ∀(v:Nat) (Q:List K) (T:List (List K)) (s:Source) (k:Int) (R:List (List Ext)) (P:List Ext),OkT kind (2^v) T->Few s k->k+2*v<=999990->v<=6->R.length+v<=1000->P.length+v<=1000->
 Loop (dB ([]:List Ext) (kind:Int)) (R,P,kvv T,s.Script,s.At,s.State,s.Count)=
  some (R++kvv (pvM kind bh0 v Q T s).1,P++kv (pvM kind bh0 v Q T s).2.1,kvv (pvM kind bh0 v Q T s).2.2.1,false,(pvM kind bh0 v Q T s).2.2.2.Script,(pvM kind bh0 v Q T s).2.2.2.At,(pvM kind bh0 v Q T s).2.2.2.State,(pvM kind bh0 v Q T s).2.2.2.Count)
 |0,Q,T,s,k,R,P,a,c,e,f,h,i=>by
  have j:=a.len
  have d:=a.kd
  refine dx ?_
  simp only [dB]
  rw [b1z om,obs,bB,a.tab 0 om,brn dcd,ae dcd]
  simp [pvM,kvv,kv,bh0]
 |v+1,Q,T,s,k,R,P,a,c,e,f,h,i=>by
  have j:=a.len
  have d:=a.kd
  have l:=c4t v om
  have b:=a
  rw [zp] at b
  rw [dt (s':=(R++[kv (rdK kind T (2^v))],P++[(rdM s (rdK kind T (2^v))).1],kvv (bdK (rdM s (rdK kind T (2^v))) T),(nsM s (rdK kind T (2^v))).Script,(nsM s (rdK kind T (2^v))).At,(nsM s (rdK kind T (2^v))).State,(nsM s (rdK kind T (2^v))).Count)) ?_]
  ·rw [KW v (Q++[rdM s (rdK kind T (2^v))]) _ _ _ _ _ (a.up _) (JD c om _) om om (by rw [a8,ag];omega) (by rw [a8,ag];omega)]
   simp [pvM,kvv,kv,bh0]
  ·simp only [dB]
   rw [b1z om,obs,bB,a.tab 0 om,zp,brd om,DP b om,obs,show Source.mk s.Script s.At s.State s.Count=s from rfl,A1 c.1 (by rw [Hp];omega),obs,ZZ c,obs]
   dsimp only
   rw [DJ b om,obs,aS (by rw [a8,ag];omega),aS (by rw [a8,ag];omega)];rfl
def p6 (T:List (List K)):List K:=T.map fun t=>t.getD 0 0
theorem UJ {T:List (List K)} {j:Nat} (a:j<T.length):(p6 T).take (j+1)=(p6 T).take j++[(T.getD j []).getD 0 0]:=by
 rw [cA (by simpa [p6] using a)];simp [p6,a]
theorem Do (T:List (List K)):(p6 T).length=T.length:=by simp [p6]
theorem a8l (T:List (List K)):p6 T=uX T 0:=rfl
theorem kv0 {l:List K} (h:0<l.length):atL (kv l) 0=some (l.getD 0 0).1:=uv (j:=0) h
theorem Je {v:Nat} (Q:List K) {T:List (List K)} {s:Source} {k:Int} (c:OkT kind (2^v) T) (d:Few s k) (f:k+2*v<=999990) (h:v<=6):
 di (kind:Int) (kvv T) s=some (kvv (pvM kind bh0 v Q T s).1,kv (pvM kind bh0 v Q T s).2.1,kv (p6 (pvM kind bh0 v Q T s).2.2.1),(pvM kind bh0 v Q T s).2.2.2):=by
 unfold di
 rw [KW v Q T s k [] [] c d f h (by rw [ah];omega) (by rw [ah];omega),obs]
 have a:=RX (bh:=bh0) v Q T s c
 have l:=a.len
 have i:=a.kd
 generalize pvM kind bh0 v Q T s=q at*
 obtain ⟨q1,q2,q3,q4⟩:=q
 dsimp only at*
 have key:=bq (step:=cZ ([]++kvv q1) ([]++kv q2) (kvv q3) (((kvv q3).length:Nat):Int) q4.Script q4.At q4.State q4.Count) (fun j=>(kv ((p6 q3).take j),(j:Int))) q3.length (e:=(kv (p6 q3),(q3.length:Int),false)) (fun j b=> ?_) ?_
 ·have key':Loop (cZ ([]++kvv q1) ([]++kv q2) (kvv q3) (((kvv q3).length:Nat):Int) q4.Script q4.At q4.State q4.Count) ([],0)=_:=key
  rw [key'];rfl
 ·simp only [cZ,tG]
  rw [brd om,FF b,obs,kv0 (by rw [a.tab j b];omega),obs,aS (by rw [a8,bB,aD,Do,ag];omega),ai _ om om,UJ b,kvS];rfl
 ·simp only [cZ,tG]
  rw [brn om,ae om,aX (by rw [Do];omega)]
noncomputable instance c4Y:DecidableEq K:=fun a b=>Classical.propDecidable _
noncomputable def vfM (kind:Nat) (bv:Nat->Source->Source):List (List K)->Nat->K->Source->Int×List K×K×Source
 |[],i,c,s=>(0,[],c,s)
 |g::R,i,c,s=>if g.length=kind+2 then (if g.getD 0 0+g.getD 1 0=c then
   ((vfM kind bv R (i+1) (lnK g (rdM s g)) (bv i (nsM s g))).1,rdM s g::(vfM kind bv R (i+1) (lnK g (rdM s g)) (bv i (nsM s g))).2.1,(vfM kind bv R (i+1) (lnK g (rdM s g)) (bv i (nsM s g))).2.2) else (10,[],c,s)) else (18,[],c,s)
def bv0:Nat->Source->Source:=fun _ s=>s
def c2Z (bv:Nat->Source->Source):Prop:= ∀i s k,Few s k->k<=999990->Few (bv i s) (k+1)
theorem b0t:c2Z bv0:=fun i s k h _=>h.mono om
variable {bv:Nat->Source->Source}
theorem Wd (hb:c2Z bv): ∀(R:List (List K)) (i:Nat) (c:K) (s:Source) (k:Int),Few s k->k+3*R.length<=999990->Few (vfM kind bv R i c s).2.2.2 (k+3*R.length)
 |[],i,c,s,k,h,hk=>by rw [ah,show k+3*((0:Nat):Int)=k by omega];exact h
 |g::R,i,c,s,k,h,hk=>by
  rw [ab] at hk ⊢
  rw [vfM]
  by_cases h1:g.length=kind+2
  ·by_cases h2:g.getD 0 0+g.getD 1 0=c
   ·rw [aa h1,aa h2]
    have:=Wd hb R (i+1) (lnK g (rdM s g)) _ _ (hb i _ _ (JD h om g) om) om
    rw [show k+2+1+3*(R.length:Int)=k+3*((R.length+1:Nat):Int) by omega] at this
    exact this
   ·rw [aa h1,a7 h2];exact h.mono om
  ·rw [a7 h1];exact h.mono om
theorem Xi: ∀(R:List (List K)) (i:Nat) (c:K) (s:Source),(vfM kind bv R i c s).1=0->(vfM kind bv R i c s).2.1.length=R.length
 |[],i,c,s,h=>rfl
 |g::R,i,c,s,h=>by
  rw [vfM] at h ⊢
  by_cases a:g.length=kind+2
  ·by_cases b:g.getD 0 0+g.getD 1 0=c
   ·rw [aa a,aa b] at h ⊢
    simp only [ab];rw [Xi R _ _ _ h]
   ·rw [aa a,a7 b] at h;exact absurd (show (10:Int)=0 from h) dcd
  ·rw [a7 a] at h;exact absurd (show (18:Int)=0 from h) dcd
theorem a5F: ∀(v:Nat) (P:List K) (T:List (List K)) (s:Source),OkT kind (2^v) T->(∀j,j<v-> ∀s',bv (P.length+j) s'=bh ((P++(pvM kind bh v P T s).2.1).take (P.length+j+1)) s')->
 vfM kind bv (pvM kind bh v P T s).1 P.length (wE kind T (2^v)) s=(0,(pvM kind bh v P T s).2.1,wE kind (pvM kind bh v P T s).2.2.1 1,(pvM kind bh v P T s).2.2.2)
 |0,P,T,s,h,a=>rfl
 |v+1,P,T,s,h,a=>by
  have b:=h
  rw [zp] at b
  have d: ∀i,i<4->(T.getD i []).length=2*2^v\/T.getD i []=[]:=fun i _=>by
   by_cases c:i<T.length
   ·exact .inl (b.tab i c)
   ·exact .inr (by simp [c])
  have l:=h.kd
  have e:(rdK kind T (2^v)).getD 0 0=wE kind (bdK 0 T) (2^v):=by rw [rdK,xj om];rfl
  have f:(rdK kind T (2^v)).getD 1 0=wE kind (bdK 1 T) (2^v):=by rw [rdK,xj om];rfl
  have k:(rdK kind T (2^v)).getD 0 0+(rdK kind T (2^v)).getD 1 0=wE kind T (2^(v+1)):=by rw [e,f,zp,a7D d]
  simp only [pvM] at a ⊢
  rw [vfM,aa (Hp _ _ _),aa k,a3w b]
  have e0:=a 0 om (nsM s (rdK kind T (2^v)))
  rw [cH,List.take_append,aX om,show P.length+1-P.length=1 by omega,jE,uh] at e0
  rw [e0]
  have ih:=a5F v (P++[rdM s (rdK kind T (2^v))]) (bdK (rdM s (rdK kind T (2^v))) T) (bh (P++[rdM s (rdK kind T (2^v))]) (nsM s (rdK kind T (2^v)))) (h.up _) (fun j m s'=>by
   have:=a (j+1) om s'
   rw [a8,ag,aP,b8,show P.length+1+j=P.length+(j+1) by omega];exact this)
  rw [a8,ag] at ih
  rw [ih]
theorem c4O (a b:K):(a.1.A==b.1.A&&a.1.B==b.1.B)=decide (a=b):=by
 by_cases h:a=b
 ·subst h;simp
 ·rw [ae h]
  refine Bool.eq_false_iff.2 fun e=>h ?_
  simp only [aB,beq_iff_eq] at e
  exact K.ext (CD e.1 e.2)
theorem a1H {α:Type} (a b:K) (x y:α):br (a.1.A==b.1.A) (br (a.1.B==b.1.B) x y) y=if a=b then x else y:=by
 have:=c4O a b
 cases c:(a.1.A==b.1.A)<;>cases d:(a.1.B==b.1.B)<;>rw [c,d] at this<;>simp at this<;>simp [this,br]
theorem atK {l:List K} {j:Nat} {i:Int} (hi:i=(j:Int)) (h:j<l.length):atL (kv l) i=some (l.getD j 0).1:=by subst hi;exact uv h
theorem UE {c7 c8:Int} (a:kind=1\/kind=2): ∀(R pre:List (List K)) (c:K) (s:Source) (k:Int) (P:List Ext),Few s k->k+3*R.length<=999990->P.length+R.length<=999990->pre.length+R.length<=999990->
 ((vfM kind bv0 R pre.length c s).1=0->Loop (bO (kind:Int) (kvv (pre++R)) ((pre++R).length:Int) c7 c8) (P,(pre.length:Int),s.Script,s.At,s.State,s.Count,c.1.A,c.1.B)=
   some (.inr (P++kv (vfM kind bv0 R pre.length c s).2.1,((pre++R).length:Int),false,(vfM kind bv0 R pre.length c s).2.2.2.Script,(vfM kind bv0 R pre.length c s).2.2.2.At,(vfM kind bv0 R pre.length c s).2.2.2.State,(vfM kind bv0 R pre.length c s).2.2.2.Count,
    (vfM kind bv0 R pre.length c s).2.2.1.1.A,(vfM kind bv0 R pre.length c s).2.2.1.1.B)))/\
 ((vfM kind bv0 R pre.length c s).1≠0-> ∃P' A B,Loop (bO (kind:Int) (kvv (pre++R)) ((pre++R).length:Int) c7 c8) (P,(pre.length:Int),s.Script,s.At,s.State,s.Count,c.1.A,c.1.B)=
   some (.inl (P',(vfM kind bv0 R pre.length c s).1,(vfM kind bv0 R pre.length c s).2.2.2.Script,(vfM kind bv0 R pre.length c s).2.2.2.At,(vfM kind bv0 R pre.length c s).2.2.2.State,(vfM kind bv0 R pre.length c s).2.2.2.Count,A,B)))
 |[],pre,c,s,k,P,d,m,n,o=>by
  refine ⟨fun _=>dx ?_,fun h=>absurd rfl h⟩
  simp only [bO,bM]
  rw [brn om,ae om]
  simp [vfM,kv]
 |g::R,pre,c,s,k,P,d,m,n,o=>by
  rw [ab] at m n o
  have hat:atL (kvv (pre++g::R)) (pre.length:Int)=some (kv g):=by rw [FF sm];simp
  have b:(pre.length:Int)<((pre++g::R).length:Int):=by rw [a8,ab];omega
  rw [vfM]
  by_cases l:g.length=kind+2
  ·by_cases f:g.getD 0 0+g.getD 1 0=c
   ·rw [aa l,aa f]
    have ih:=UE (c7:=c7) (c8:=c8) a R (pre++[g]) (lnK g (rdM s g)) (nsM s g) (k+2) (P++[(rdM s g).1]) (JD d om g) om (by rw [a8,ag];omega) (by rw [a8,ag];omega)
    rw [aP,b8,a8,ag] at ih
    have step:bO (kind:Int) (kvv (pre++g::R)) ((pre++g::R).length:Int) c7 c8 (P,(pre.length:Int),s.Script,s.At,s.State,s.Count,c.1.A,c.1.B)=
     some (.inl (P++[(rdM s g).1],((pre.length+1:Nat):Int),(nsM s g).Script,(nsM s g).At,(nsM s g).State,(nsM s g).Count,(lnK g (rdM s g)).1.A,(lnK g (rdM s g)).1.B)):=by
     simp only [bO]
     rw [brd b,hat,obs,y9 a,obs,ai _ om om,m9 (by rw [bB];omega),atK (i:=0) (j:=0) rfl om,obs,atK (i:=1) (j:=1) rfl om,obs,jx (aI _) (aI _),obs]
     rw [show eA (g.getD 0 0).1 (g.getD 1 0).1=c.1 from congrArg Subtype.val f,bre rfl,bre rfl,show Source.mk s.Script s.At s.State s.Count=s from rfl,A1 d.1 om,obs,ZZ d,obs]
     dsimp only
     rw [O6 _ om,obs,aS (by rw [a8,ag];omega),ai _ om om];rfl
    refine ⟨fun h=> ?_,fun h=> ?_⟩
    ·rw [dt step,ih.1 h]
     simp [kv,bv0]
    ·obtain ⟨P',A,B,e⟩:=ih.2 h
     exact ⟨P',A,B,by rw [dt step,e];rfl⟩
   ·rw [aa l,a7 f]
    refine ⟨fun h=>absurd (show (10:Int)=0 from h) dcd,fun _=>⟨P,c.1.A,c.1.B,dx ?_⟩⟩
    simp only [bO]
    rw [brd b,hat,obs,y9 a,obs,ai _ om om,m9 (by rw [bB];omega),atK (i:=0) (j:=0) rfl om,obs,atK (i:=1) (j:=1) rfl om,obs,jx (aI _) (aI _),obs]
    rw [show eA (g.getD 0 0).1 (g.getD 1 0).1=(g.getD 0 0+g.getD 1 0).1 from rfl,a1H,a7 f]
  ·rw [a7 l]
   refine ⟨fun h=>absurd (show (18:Int)=0 from h) dcd,fun _=>⟨P,c.1.A,c.1.B,dx ?_⟩⟩
   simp only [bO]
   rw [brd b,hat,obs,y9 a,obs,ai _ om om,brb (by rw [bB];omega)]
theorem FS (a:kind=1\/kind=2) {R:List (List K)} {c:K} {s:Source} {k:Int} (b:Few s k) (d:k+3*R.length<=999990):
 da (kind:Int) c.1 (kvv R) s=some (if (vfM kind bv0 R 0 c s).1=0 then (kv (vfM kind bv0 R 0 c s).2.1,(vfM kind bv0 R 0 c s).2.2.1.1,0,(vfM kind bv0 R 0 c s).2.2.2) else ([],e0,(vfM kind bv0 R 0 c s).1,(vfM kind bv0 R 0 c s).2.2.2)):=by
 have f:0<=k:=by have:=b.2;have:=b.1.4;omega
 have h:=UE (c7:=0) (c8:=0) a R [] c s k [] b d (by rw [ah];omega) (by rw [ah];omega)
 rw [bA,ah] at h
 unfold da
 rw [tG]
 by_cases h0:(vfM kind bv0 R 0 c s).1=0
 ·rw [aa h0]
  have:=h.1 h0
  rw [show (((0:Nat):Int))=0 from rfl] at this
  rw [this];rfl
 ·rw [a7 h0]
  obtain ⟨P',A,B,e⟩:=h.2 h0
  rw [show (((0:Nat):Int))=0 from rfl] at e
  rw [e];rfl
end
section
structure OkM (l:List aN) (R C:Int):Prop where
 len:l.length<=200
 ent: ∀x∈l,inE R C x
 srt: ∀k (hk:k<l.length), ∀y∈l.take k,ltE y l[k]
theorem Vz {x y z:aN} (h:ltE x y) (g:ltE y z):ltE x z:=by unfold ltE at*;omega
open Classical in
theorem HI {l:List aN} {R C:Int} (h:B8 l R C=true):OkM l R C:=by
 unfold B8 at h
 obtain ⟨f,e⟩:=gy h
 refine ⟨f,fun x i=> ?_,fun k=> ?_⟩
 ·obtain ⟨k,d,rfl⟩:=bp i
  by_cases c:inE R C l[k]
  ·exact c
  ·exact absurd ⟨_,AO d,.inl c⟩ (e k)
 ·induction k with
  |zero=>intro d y a;simp at a
  |succ k ih=>
   intro d y a
   rw [cA om] at a
   have b:ltE l[k] l[k+1]:=by
    by_cases c:ltE l[k] l[k+1]
    ·exact c
    ·exact absurd ⟨_,AO d,.inr ⟨by omega,_,AO om,c⟩⟩ (e (k+1))
   rcases aJ.1 a with a|a
   ·exact Vz (ih om y a) b
   ·rw [bI.1 a];exact b
theorem c3m {R C:Int} {x:aN} (h:inE R C x):okF x.Value:=⟨by have:=h.2.2.1;omega,h.2.2.2⟩
def Ph (l:List aN):List UInt8:=l.flatMap fun x=>[UInt8.ofInt x.Row,UInt8.ofInt x.Col]++lG x.Value
theorem Gj (l:List aN):(Ph l).length=6*l.length:=by
 induction l with
 |nil=>rfl
 |cons x l ih=>simp only [Ph,dA,a8,ab] at*;rw [ih];simp [gc];omega
theorem a7F (l:List aN) (x:aN):Ph (l++[x])=Ph l++([UInt8.ofInt x.Row,UInt8.ofInt x.Col]++lG x.Value):=by simp [Ph]
def a7Z (l:List aN):List UInt8:=lG (l.length:Int)++Ph l
def ZV (s:bD):List UInt8:=[115,121,115,116,101,109]++[UInt8.ofInt s.Rows,UInt8.ofInt s.Cols,UInt8.ofInt s.Publics]++a7Z s.A++a7Z s.B++a7Z s.C
theorem b1j (l:List aN):(a7Z l).length=4+6*l.length:=by rw [a7Z,a8,Gj,gc]
theorem NU {l2 L:List UInt8} {t t2 t3 l c4 c5 c6:List aN} {t4 c c2 c3:Int} (h:l.length<=200) (hL:L.length<=1000000):Loop (ee l2 t t2 t3 t4 l (l.length:Int) c c2 c3 c4 c5 c6) (L,0)=some (L++Ph l,(l.length:Int),false):=by
 have key:=bq (step:=ee l2 t t2 t3 t4 l (l.length:Int) c c2 c3 c4 c5 c6) (fun k=>(L++Ph (l.take k),(k:Int))) l.length (e:=(L++Ph l,(l.length:Int),false)) (fun k a=> ?_) ?_
 ·simpa [Ph] using key
 ·simp only [ee]
  have hn:=Gj (l.take k)
  rw [aD] at hn
  rw [brd om,cJ a,obs,aS (by simp only [a8,ab,ah];omega),qV (by simp only [a8,ab,ah];omega),obs,ai _ om om,cA a,a7F]
  simp only [aP,zT]
 ·simp only [ee]
  rw [brn om,ae om,bw]
theorem a3F {l2 L:List UInt8} {t t2 t3 l c4 c5 c6:List aN} {t4 c c2 c3:Int} (h:l.length<=200) (hL:L.length<=1000000):Loop (jM l2 t t2 t3 t4 l (l.length:Int) c c2 c3 c4 c5 c6) (L,0)=some (L++Ph l,(l.length:Int),false):=NU (l2:=l2) (t:=t) (t2:=t2) (t3:=t3) (c4:=c4) (c5:=c5) (c6:=c6) (t4:=t4) (c:=c) (c2:=c2) (c3:=c3) h hL
theorem a4m {l2 L:List UInt8} {t t2 t3 l c4 c5 c6:List aN} {t4 c c2 c3:Int} (h:l.length<=200) (hL:L.length<=1000000):Loop (jy l2 t t2 t3 t4 l (l.length:Int) c c2 c3 c4 c5 c6) (L,0)=some (L++Ph l,(l.length:Int),false):=NU (l2:=l2) (t:=t) (t2:=t2) (t3:=t3) (c4:=c4) (c5:=c5) (c6:=c6) (t4:=t4) (c:=c) (c2:=c2) (c3:=c3) h hL
theorem Pa {s:bD} (a:s.A.length<=200) (b:s.B.length<=200) (c:s.C.length<=200):jS s=some (ZV s):=by
 have d:=Gj s.A
 have e:=Gj s.B
 have c1:=Gj s.C
 unfold jS eG
 rw [aS (by simp only [a8,ab,ah];omega),obs]
 dsimp only
 rw [qV (by simp only [a8,ab,ah];omega),obs,NU a (by simp only [a8,ab,ah,gc];omega),obs,
  qV (by simp only [a8,ab,ah,gc];omega),obs,a3F b (by simp only [a8,ab,ah,gc];omega),obs,
  qV (by simp only [a8,ab,ah,gc];omega),obs,a4m c (by simp only [a8,ab,ah,gc];omega),obs]
 simp only [ZV,a7Z,aP]
theorem b0f (s:bD):(ZV s).length=21+6*(s.A.length+s.B.length+s.C.length):=by
 simp only [ZV,a8,b1j,ab,ah];omega
end
section
def jg:List K->List K->K
 |a::xs,b::ys=>a*b+jg xs ys
 |_,_=>0
theorem YG: ∀(a b:List K) (c:K),((kv a).zip (kv b)).foldl (fun c p=>eA c (eM p.1 p.2)) c.1=(c+jg a b).1
 |[],b,c=>by
  show c.1=(c+0).1
  exact congrArg Subtype.val (by exact kg)
 |_::_,[],c=>by
  show c.1=(c+0).1
  exact congrArg Subtype.val (by exact kg)
 |x::a,y::b,c=>by
  have:=YG a b (c+x*y)
  show ((kv a).zip (kv b)).foldl _ (c+x*y).1=_
  rw [this]
  exact congrArg Subtype.val (by rw [jg];exact kg)
theorem Y3 (a b:List K):a3Y (kv a) (kv b)=(jg a b).1:=by
 have:=YG a b 0
 rw [a3Y]
 rw [show e0=(0:K).1 from rfl,this]
 exact congrArg Subtype.val (by exact kg)
theorem QR (d:K): ∀(T Q:List K) (c:Nat),c<T.length->jg (T.set c (T.getD c 0+d)) Q=jg T Q+d*Q.getD c 0
 |[],_,c,h=>by simp at h
 |x::T,[],0,_=>by simp only [vp,jg,List.getD_nil];exact kg
 |x::T,y::Q,0,_=>by simp only [vp,jg,List.getD_cons_zero];exact kg
 |x::T,[],c+1,_=>by simp only [vn,jg,List.getD_nil];exact kg
 |x::T,y::Q,c+1,h=>by
  have:=QR d T Q c (by simpa using h)
  simp only [vn,jg,List.getD_cons_succ,this];exact kg
def sK (R Q:List K):List aN->K
 |[]=>0
 |x::l=>R.getD x.Row.toNat 0*Q.getD x.Col.toNat 0*kF x.Value+sK R Q l
def btS (β:K) (R T:List K) (x:aN):List K:=T.set x.Col.toNat (T.getD x.Col.toNat 0+β*R.getD x.Row.toNat 0*kF x.Value)
theorem uP (β:K) (R:List K): ∀(l:List aN) (T:List K),(l.foldl (btS β R) T).length=T.length
 |[],T=>rfl
 |x::l,T=>by rw [bQ,uP β R l,btS,aO]
theorem Xj (β:K) (R Q:List K): ∀(l:List aN) (T:List K),(∀x∈l,x.Col.toNat<T.length)->jg (l.foldl (btS β R) T) Q=jg T Q+β*sK R Q l
 |[],T,_=>by rw [jh,sK];exact kg
 |x::l,T,h=>by
  rw [bQ,Xj β R Q l _ fun y hy=>by rw [btS,aO];exact h y (by simp [hy]),btS,QR _ _ _ _ (h x sm),sK];exact kg
theorem c3t (l:List K) (j:Nat) (x:K):(kv l).set j x.1=kv (l.set j x):=by simp [kv,List.map_set]
theorem SD {R T:List K} {β:K} {l t t2 t3 c4 c5 c6:List aN} {t4 c c2 c3 c9 c10 c11 c12 RR CC:Int} (d:OkM l RR CC) (i:(R.length:Int)=RR) (k:(T.length:Int)=CC):
 Loop (ja (kv R) t t2 t3 t4 l (l.length:Int) c c2 c3 c4 c5 c6 β.1.A β.1.B c9 c10 c11 c12) (kv T,0)=some (kv (l.foldl (btS β R) T),(l.length:Int),false):=by
 have m:=d.len
 have key:=bq (step:=ja (kv R) t t2 t3 t4 l (l.length:Int) c c2 c3 c4 c5 c6 β.1.A β.1.B c9 c10 c11 c12) (fun j=>(kv ((l.take j).foldl (btS β R) T),(j:Int))) l.length (e:=(kv (l.foldl (btS β R) T),(l.length:Int),false)) (fun j b=> ?_) ?_
 ·exact key
 ·simp only [ja]
  obtain ⟨h,hc,_⟩:=d.ent _ (b9 b)
  have f:=c3m (d.ent _ (b9 b))
  have hn:=uP β R (l.take j) T
  have a:atL (kv R) l[j].Row=some (R.getD l[j].Row.toNat 0).1:=by
   have:=uv (l:=R) (j:=l[j].Row.toNat) om
   rwa [fy h.1] at this
  rw [brd om,cJ b,obs,brd hc.1,brd (by rw [bB,hn];omega),KN om,obs,a,obs,show Ext.mk β.1.A β.1.B=β.1 from rfl,gq β.2 (aI _),obs,xK (Fm _ _) f,obs,
   jx (aI _) (b0g _ _),obs,brd hc.1,brd (by rw [bB,hn];omega),obs,ai _ om om,a1B, <-JY f,cA b,gG]
  show some (Sum.inl ((kv _).set l[j].Col.toNat ((List.foldl (btS β R) T (l.take j)).getD l[j].Col.toNat 0+β*R.getD l[j].Row.toNat 0*kF l[j].Value).1,_))=_
  rw [c3t];rfl
 ·simp only [ja]
  rw [brn om,ae om,bw]
end
section
def B4 (out:List K) (p:K):List K:=out.map (fun a=>a*(1-p))++out.map (fun a=>a*p)
def eqK (P:List K):List K:=P.foldl B4 [1]
theorem c3S (out:List K) (p:K):eqS (kv out) p.1=kv (B4 out p):=by
 simp only [eqS,kv,B4,bW,fb];rfl
theorem b2Y: ∀(P out:List K),(kv P).foldl eqS (kv out)=kv (P.foldl B4 out)
 |[],out=>rfl
 |p::P,out=>by
  show (kv P).foldl eqS (eqS (kv out) p.1)=_
  rw [c3S,b2Y P];rfl
theorem Gb (P:List K):eqT (kv P)=kv (eqK P):=b2Y P [1]
def gK (A out:List K):List K:=A.flatMap fun e=>out.map fun x=>x*e
theorem b7z (A out:List K) (p:K):B4 (gK A out) p=gK (B4 A p) out:=by
 have h: ∀(q:K) (A:List K),(gK A out).map (fun a=>a*q)=gK (A.map (fun a=>a*q)) out:=fun q A=>by
  induction A with
  |nil=>rfl
  |cons a A ih=>
   simp only [gK,dA,aM,bW,fb] at ih ⊢
   rw [ih]
   congr 1
   refine bk fun x _=> ?_
   show x*a*q=x*(a*q)
   exact kg
 rw [B4,h,h,B4,gK,gK,gK,List.flatMap_append]
theorem a4U (out:List K): ∀(P A:List K),P.foldl B4 (gK A out)=gK (P.foldl B4 A) out
 |[],A=>rfl
 |p::P,A=>by
  show P.foldl B4 (B4 (gK A out) p)=_
  rw [b7z,a4U out P];rfl
theorem a1o (r:K) (P:List K):eqK (r::P)=gK (eqK P) (B4 [1] r):=by
 show P.foldl B4 (B4 [1] r)=_
 have:B4 [1] r=gK [1] (B4 [1] r):=by
  have h: ∀l:List K,gK [1] l=l:=fun l=>by
   show l.map (fun x=>x*1)++[]=l
   rw [bM]
   refine (bk fun x _=> ?_).trans (jR l)
   show x*1=x
   exact kg
  rw [h]
 rw [this,a4U,a r];rfl
where
 a (r:K):gK [1] (B4 [1] r)=B4 [1] r:=by
   have h: ∀l:List K,gK [1] l=l:=fun l=>by
    show l.map (fun x=>x*1)++[]=l
    rw [bM]
    refine (bk fun x _=> ?_).trans (jR l)
    show x*1=x
    exact kg
   rw [h]
theorem DF (P:List K):(eqK P).length=2^P.length:=by
 have:=PU (kv P)
 rw [Gb,bB,bB] at this;exact this
theorem ZC (r:K): ∀(E t:List K),t.length=2*E.length->jg t (gK E (B4 [1] r))=jg (fdK r t) E
 |[],t,h=>by
  have:t=[]:=bN (by simpa using h)
  subst this;rfl
 |e::E,[],h=>by simp at h
 |e::E,[a],h=>by simp at h;omega
 |e::E,a::b::t,h=>by
  have ih:=ZC r E t (by simp only [ab] at h;omega)
  show a*(1*(1-r)*e)+(b*(1*r*e)+jg t (gK E (B4 [1] r)))=(a+r*(b-a))*e+jg (fdK r t) E
  rw [ih];exact kg
def Fy (P t:List K):List K:=P.foldl (fun t r=>fdK r t) t
theorem PS: ∀(P t:List K),t.length=2^P.length->jg t (eqK P)=(Fy P t).getD 0 0
 |[],t,h=>by
  match t,h with
  |[a],_=>show a*1+0=a;exact kg
 |r::P,t,h=>by
  rw [ab,zp] at h
  rw [a1o,ZC r _ _ (by rw [DF];exact h),PS P _ (DN r t _ h)];rfl
variable {kind:Nat} {bh:List K->Source->Source}
theorem Tk (i:Nat): ∀(v:Nat) (P:List K) (T:List (List K)) (s:Source),(pvM kind bh v P T s).2.2.1.getD i []=Fy (pvM kind bh v P T s).2.1 (T.getD i [])
 |0,P,T,s=>rfl
 |v+1,P,T,s=>by
  simp only [pvM]
  rw [Tk i v,PC];rfl
theorem CX (T:List (List K)) (i:Nat):(p6 T).getD i 0=(T.getD i []).getD 0 0:=vP T 0 i
theorem VQ {T:List (List K)}:wE kind T 1=cmK kind (p6 T):=by
 show 0+cmK kind (uX T 0)=_
 rw [a8l];exact kg
end
section
theorem c3a {α:Type} {g:Nat->Option α} {N:Nat} {r:α} (h: ∀n,g n=if N<=n then some r else none):lim g=some r:=by
 have a: ∃n r,g n=some r:=⟨N,r,by rw [h,aa (am _)]⟩
 unfold lim
 rw [dif_pos a]
 obtain ⟨r',b⟩:=a.choose_spec
 have:=h a.choose
 rw [b] at this ⊢
 split at this
 ·exact this
 ·cases this
theorem b8e (l:List K) (j:Nat):(kv l).take j=kv (l.take j):=by simp [kv]
theorem Vm {l:List K} {j:Nat} (h:j<l.length):l.take (j+1)=l.take j++[l.getD j 0]:=by rw [cA h];simp [h]
theorem Yx (l:List K) (x:K):kv (l++[x])=kv l++[x.1]:=by simp [kv]
theorem K9: ∀k:Nat,k<=9->1<=2^k/\2^k<=512:=by decide
theorem b8z {l:List K} {m:Nat} {w:Int} (h:l.length=2*m) (a:m<=1000):Loop (og (kv l) w) ([],[],0)=some (kv (evs l),kv (ods l),(l.length:Int),false):=by
 have b:=mE l m h
 have c:=nl l m h
 have key:=bq (step:=og (kv l) w) (fun j=>(kv ((evs l).take j),kv ((ods l).take j),((2*j:Nat):Int))) m (e:=(kv (evs l),kv (ods l),(l.length:Int),false)) (fun j d=> ?_) ?_
 ·exact key
 ·simp only [og]
  have e1:atL (kv l) ((2*j:Nat):Int)=some ((evs l).getD j 0).1:=by rw [uv om,q9]
  have e2:atL (kv l) ((2*j+1:Nat):Int)=some ((ods l).getD j 0).1:=by rw [uv om,rW]
  rw [brd (by rw [bB];omega),e1,obs,aS (by rw [a8,bB,aD,ag];omega),ai _ om om,show (((2*j:Nat):Int))+1=((2*j+1:Nat):Int) by omega,e2,obs,
   aS (by rw [a8,bB,aD,ag];omega),ai _ om om,show (((2*j:Nat):Int))+2=((2*(j+1):Nat):Int) by omega,Vm om,Vm om,Yx,Yx]
 ·simp only [og]
  rw [brn (by rw [bB];omega),ae (by rw [bB];omega),aX om,aX om,h]
def pwI (w:Int):Nat->Int
 |0=>1
 |j+1=>mF (pwI w j) w
theorem a47 (w:Int): ∀j,okF (pwI w j)
 |0=>c0I
 |j+1=>wd _ _
theorem b4l (w:Int): ∀j,kF (pwI w j)=kF w^j
 |0=>rfl
 |j+1=>by rw [pwI,QQ,b4l w j,pwS]
def MY (h j:Nat) (lo hi:Nat->K):List Ext:=(List.range (2*h)).map fun i=>if i<h then (if i<j then (lo i).1 else e0) else if i-h<j then (hi (i-h)).1 else e0
theorem a0v (h j:Nat) (lo hi:Nat->K):(MY h j lo hi).length=2*h:=by simp [MY]
theorem a8K (h:Nat) (lo hi:Nat->K):MY h 0 lo hi=List.replicate (2*h) e0:=by
 refine jl (by simp [MY]) fun i a b=> ?_
 simp [MY]
theorem b4Z {h j:Nat} {lo hi:Nat->K} (a:j<h):((MY h j lo hi).set j (lo j).1).set (j+h) (hi j).1=MY h (j+1) lo hi:=by
 refine jl (by simp [MY]) fun i b c=> ?_
 simp only [MY,List.getElem_set,List.getElem_map,vf]
 by_cases c1:j+h=i
 ·subst c1
  rw [aa rfl,a7 om,aa om,show j+h-h=j by omega]
 ·rw [a7 c1]
  by_cases c2:j=i
  ·subst c2
   rw [aa rfl,aa a,aa om]
  ·rw [a7 c2]
   by_cases c3:i<h
   ·rw [aa c3,aa c3]
    by_cases c4:i<j
    ·rw [aa c4,aa om]
    ·rw [a7 c4,a7 om]
   ·rw [a7 c3,a7 c3]
    by_cases c4:i-h<j
    ·rw [aa c4,aa om]
    ·rw [a7 c4,a7 om]
theorem a7w {h:Nat} {lo hi:Nat->K}:MY h h lo hi=kv ((List.range h).map lo++(List.range h).map hi):=by
 refine jl (by simp [MY,kv];omega) fun i a b=> ?_
 rw [a0v] at a
 simp only [MY,kv,List.getElem_map,vf,List.getElem_append,aw,dV]
 by_cases c:i<h
 ·simp [c]
 ·simp [c,show i-h<h by omega]
theorem c64:(Ext.mk 0 0)=e0:=rfl
theorem b1b {E O:List K} {w:Int} {h:Nat} (hE:E.length=h) (d:O.length=h) (a:okF w) (f:h<=1000):
 Loop (ol (kv E) (kv O) w (h:Int) (h:Int)) (List.replicate (2*h) e0,1,0)=some (kv (a3Z E O (kF w) h++a48 E O (kF w) h),pwI w h,(h:Int),false):=by
 have key:=bq (step:=ol (kv E) (kv O) w (h:Int) (h:Int)) (fun j=>(MY h j (fun j=>E.getD j 0+O.getD j 0*kF w^j) (fun j=>E.getD j 0-O.getD j 0*kF w^j),pwI w j,(j:Int))) h
  (e:=(kv (a3Z E O (kF w) h++a48 E O (kF w) h),pwI w h,(h:Int),false)) (fun j b=> ?_) ?_
 ·rw [a8K] at key;exact key
 ·simp only [ol,aY]
  have c:eC (O.getD j 0).1 (pwI w j)=(O.getD j 0*kF w^j).1:=by rw [a1B, <-b4l, <-JY (a47 w j)];rfl
  have i:=a0v h j (fun j=>E.getD j 0+O.getD j 0*kF w^j) (fun j=>E.getD j 0-O.getD j 0*kF w^j)
  rw [ai ((j:Int)+(h:Int)) om om,show (j:Int)+(h:Int)=((j+h:Nat):Int) by omega]
  simp only [aY]
  rw [brd om,brd om,brd (by rw [bB];omega),KN om,obs,xK (aI _) (a47 w j),obs,c,brd om,brd (by rw [bB];omega),KN om,obs,jx (aI _) (aI _),obs,
   brd om,brd (by rw [bB];omega),obs,mX (aI _) (aI _),obs,brd om,brd om,AO om,obs,brd om,brd om,AO (by rw [aO];omega),obs,
   ml (a47 w j) a,obs,ai _ om om, <-b4Z b]
  rfl
 ·simp only [ol]
  rw [brn om,ae om,a7w];rfl
theorem xt: ∀(n k:Nat) (l:List K) (w:Int),k<=9->okF w->l.length=2^k->rk n (kv l) w=if k+1<=n then some (kv (V k l (kF w))) else none
 |0,k,l,w,_,_,_=>by rw [a7 om];rfl
 |n+1,0,l,w,_,_,b=>by
  rw [aa om]
  unfold rk dh
  rw [bB,b,bre sm,aS dcd];rfl
 |n+1,k+1,l,w,h,d,b=>by
  have o:=K9 (k+1) h
  have i:=K9 k om
  have j:l.length=2*2^k:=by rw [b,aZ];omega
  have e:=IZ b
  have f:=J9 b
  have a:=wd w w
  unfold rk
  rw [bB,cn om,b8z j om,obs,ml d d,obs]
  dsimp only
  by_cases c:k+1<=n
  ·have hE:=CO k (evs l) (kF (mF w w)) e
   have m:=CO k (ods l) (kF (mF w w)) f
   rw [xt n k (evs l) _ om a e,aa c,obs,obs,xt n k (ods l) _ om a f,aa c,obs,aa om,bB,hE,ai _ om om,a1m om om om,show ((2:Int)*((2^k:Nat):Int)).toNat=2*2^k by omega,c64,b1b hE m d om,obs,QQ];rfl
  ·rw [xt n k (evs l) _ om a e,a7 c,a7 om];rfl
theorem a0Q {k:Nat} {l:List K} {w:Int} (a:k<=9) (b:okF w) (c:l.length=2^k):Sp (kv l) w=some (kv (V k l (kF w))):=c3a fun n=>xt n k l w a b c
end
section
abbrev Tx:=List UInt8
def Qw (t:Tx):Tx:=0::t
def RA (a b:Tx):Tx:=1::(a++b)
def hL (t:Tx):Tx:=H (Qw t)
def hN (a b:Tx):Tx:=H (RA a b)
theorem a0U {l:List Tx} {k:Nat} (h:k<l.length):atL l (k:Int)=some (l.getD k []):=by simp [atL,h]
theorem Iu {t:Tx} (h:t.length<=1000000):wM t=some (Qw t):=by
 unfold wM;rw [aS (by simp only [ab,ah];omega)];rfl
theorem CG {a b:Tx} (c:a.length<=1000000) (d:b.length<=1000000):u7 a b=some (RA a b):=by
 unfold u7
 rw [aS (by simp only [ab,ah];omega),aS (by simp only [a8,ab,ah];omega)];rfl
def upL (row:List Tx):List Tx:=(List.range (row.length/2)).map fun k=>hN (row.getD (2*k) []) (row.getD (2*k+1) [])
theorem b60 (row:List Tx):(upL row).length=row.length/2:=by simp [upL]
def Hs (l:List Tx):Prop:= ∀x∈l,x.length=32
theorem c5N (row:List Tx):Hs (upL row):=fun x a=>by
 obtain ⟨k,_,rfl⟩:=bf.1 a;exact Fk _
theorem Hs.getD {l:List Tx} (h:Hs l) {k:Nat} (a:k<l.length):(l.getD k []).length=32:=by simp [a];exact h _ (b9 a)
theorem qQ {α:Type} (f:Nat->α) (k:Nat):(List.range (k+1)).map f=(List.range k).map f++[f k]:=by rw [dY,bW];rfl
theorem b8X {l3:List (List Tx)} {row:List Tx} {m:Nat} (a:Hs row) (b:row.length=2*m) (c:m<=1000000):Loop (sv l3 row) ([],0)=some (upL row,((2*m:Nat):Int),false):=by
 have e:upL row=(List.range m).map fun k=>hN (row.getD (2*k) []) (row.getD (2*k+1) []):=by rw [upL,b];simp
 rw [e]
 exact bq (fun k=>((List.range k).map fun k=>hN (row.getD (2*k) []) (row.getD (2*k+1) []),((2*k:Nat):Int))) m (fun k d=>by
  have f:=a.getD (k:=2*k) om
  have h:=a.getD (k:=2*k+1) om
  simp only [sv]
  rw [brd om,a0U om,obs,ai _ om om,show (((2*k:Nat):Int))+1=((2*k+1:Nat):Int) by omega,a0U om,obs,CG om om,obs,
   xL (by simp only [RA,ab,a8];omega),obs,aS (by simp only [a8,aw,dV,ag];omega),ai _ om om,qQ]
  rw [show (((2*k:Nat):Int))+2=((2*(k+1):Nat):Int) by omega];rfl) (by
  simp only [sv]
  rw [brn om,ae om])
def rowAt (row:List Tx) (j:Nat):List Tx:=iU (fun _ r=>upL r) j row
theorem Jy (row:List Tx) (j:Nat):rowAt row (j+1)=upL (rowAt row j):=rfl
theorem uG {row:List Tx} {k:Nat} (h:row.length=2^k): ∀j,j<=k->(rowAt row j).length=2^(k-j)
 |0,_=>by simpa [rowAt,iU] using h
 |j+1,hj=>by
  rw [Jy,b60,uG h j om,show k-j=(k-(j+1))+1 by omega,aZ];omega
theorem Xq {row:List Tx} (h:Hs row): ∀j,Hs (rowAt row j)
 |0=>h
 |j+1=>c5N _
def wc (row:List Tx) (k:Nat):List (List Tx):=(List.range (k+1)).map (rowAt row)
theorem b9E: ∀k:Nat,k<=9->1<=2^k/\2^k<=512:=by decide
theorem EA {k j:Nat} (a:j<k):2^(k-j)=2*2^(k-(j+1)):=by
 rw [show k-j=(k-(j+1))+1 by omega,aZ];omega
theorem a7T {row:List Tx} {k:Nat} (c:Hs row) (a:row.length=2^k) (f:k<=9):Loop oK ([row],row)=some (wc row k,rowAt row k,false):=by
 have key:=bq (step:=oK) (fun j=>(wc row j,rowAt row j)) k (e:=(wc row k,rowAt row k,false)) (fun j d=>by
  have b:=uG a j om
  have h:=EA d
  have i:=b9E (k-(j+1)) om
  simp only [oK]
  rw [brd om,b8X (m:=2^(k-(j+1))) (Xq c j) om om,obs]
  dsimp only
  rw [aS (by simp only [wc,a8,aw,dV,ag];omega)]
  rw [wc,wc,qQ _ (j+1),Jy]) (by
  have b:=uG a k om
  rw [kI,kN] at b
  simp only [oK]
  rw [brn om,ae om])
 exact key
def b9Z (l:List Tx):Prop:= ∀x∈l,x.length<=1000
theorem QM (l:List Tx):Hs (l.map hL):=fun x a=>by obtain ⟨y,_,rfl⟩:=bf.1 a;exact Fk _
theorem Zg {l:List Tx} {k:Nat} (c:b9Z l) (d:l.length=2^k) (b:k<=9):Ha l=some (wc (l.map hL) k):=by
 have e:=b9E k b
 unfold Ha
 have key:Loop (rJ l (l.length:Int)) ([],0)=some (l.map hL,(l.length:Int),false):=
  bq (fun j=>((l.take j).map hL,(j:Int))) l.length (fun j a=>by
   have f:=c _ (b9 a)
   simp only [rJ]
   rw [brd om,cJ a,obs,Iu om,obs,xL (by simp only [Qw,ab];omega),obs,aS (by simp only [a8,aw,aD,ag];omega),ai _ om om,cA a,bW]
   rfl) (by
   simp only [rJ]
   rw [brn om,ae om,bw])
 rw [key,obs]
 dsimp only
 rw [a7T (QM l) (by rw [aw,d]) b,obs]
def Xw (row:List Tx) (k:Nat):Tx:=(rowAt row k).getD 0 []
theorem HP (row:List Tx) (k:Nat):(wc row k).length=k+1:=by simp [wc]
theorem a7x {row:List Tx} {k j:Nat} (h:j<=k):atL (wc row k) (j:Int)=some (rowAt row j):=by
 rw [cJ (by rw [HP];omega)];simp [wc]
theorem a0N {row:List Tx} {k:Nat} (a:row.length=2^k) (c:k<=9):Ad (wc row k)=some (Xw row k):=by
 unfold Ad
 have b:=uG a k (am _)
 rw [kI,kN] at b
 rw [HP,ai _ om om,show (((k+1:Nat):Int))-1=(k:Int) by omega,a7x (am _),obs]
 have e:=a0U (l:=rowAt row k) (k:=0) om
 rw [show ((0:Nat):Int)=0 from rfl] at e
 rw [e];rfl
def sib (i:Nat):Nat:=if i%2=0 then i+1 else i-1
theorem c1z: ∀i:Nat,i<512->sA .i64 (i:Int) 1=(sib i:Int):=by decide+kernel
def w6 (row:List Tx) (k i:Nat):List Tx:=(List.range k).map fun j=>(rowAt row j).getD (sib (i/2^j)) []
theorem Vg (row:List Tx) (k i:Nat):(w6 row k i).length=k:=by simp [w6]
theorem SY {i k j:Nat} (hi:i<2^k) (a:j<k):i/2^j<2^(k-j):=by
 rw [j2 (Nat.pow_pos dcd), <-Nat.pow_add]
 rwa [show k-j+j=k by omega]
theorem b34 {i m:Nat} (h:i<2*m):sib i<2*m:=by unfold sib;split<;>omega
theorem a0O (i j:Nat):i/2^j/2=i/2^(j+1):=by rw [qY,aZ]
theorem a8L {row:List Tx} {k i j:Nat} (b:row.length=2^k) (e:k<=9) (hi:i<2^k) (a:j<k):atL (rowAt row j) (sA .i64 ((i/2^j:Nat):Int) 1)=some ((rowAt row j).getD (sib (i/2^j)) []):=by
 have c:=uG b j om
 have f:=SY hi a
 have h:=b9E (k-j) om
 have d:=EA a
 rw [c1z _ om,a0U (by rw [c,d];exact b34 om)]
theorem a7l (q:Nat) (h:q<=1000000):IntKind.wrap .i64 ((q:Int)/2)=((q/2:Nat):Int):=by
 rw [ai _ om om];omega
theorem a1F {row:List Tx} {k i:Nat} (b:row.length=2^k) (a:k<=9) (hi:i<2^k):Gx (wc row k) i=some (w6 row k i):=by
 unfold Gx
 have f:=b9E k a
 rw [HP,ai _ om om,kx om om (by rw [HP];omega),obs]
 have e:((wc row k).drop (Int.toNat 0)).take ((((k+1:Nat):Int)-1).toNat-Int.toNat 0)=(List.range k).map (rowAt row):=by
  rw [show (((k+1:Nat):Int)-1).toNat=k by omega]
  show ((wc row k).take k)=_
  rw [wc, <-List.map_take,List.take_range,dp om]
 rw [e]
 have el:((List.range k).map (rowAt row)).length=k:=by simp
 rw [el]
 have key:Loop (oT ((List.range k).map (rowAt row)) (k:Int)) ([],(i:Int),0)=some (w6 row k i,((i/2^k:Nat):Int),(k:Int),false):=by
  have key:=bq (step:=oT ((List.range k).map (rowAt row)) (k:Int)) (fun j=>(w6 row j i,((i/2^j:Nat):Int),(j:Int))) k (e:=(w6 row k i,((i/2^k:Nat):Int),(k:Int),false)) (fun j c=>by
   have d:i/2^j<=i:=Nat.div_le_self _ _
   simp only [oT]
   rw [brd om,cJ om,obs,List.getElem_map,vf,a8L b a hi c,obs,aS (by simp only [a8,Vg,ag];omega),qr _ _ (by exact vx _),a7l _ (by exact fT d om),ai _ om om,w6,w6,qQ, <-a0O]
   rfl) (by
   simp only [oT]
   rw [brn om,ae om])
  simpa [w6] using key
 rw [key];rfl
end
section
def vY (i:Nat) (leaf:Tx) (path:List Tx):Nat->Tx
 |0=>Qw leaf
 |j+1=>if i/2^j%2=1 then RA (path.getD j []) (H (vY i leaf path j)) else RA (H (vY i leaf path j)) (path.getD j [])
def Pd (i:Nat) (leaf:Tx) (path:List Tx) (j:Nat):List Tx:=(List.range (j+1)).map (vY i leaf path)
theorem AH (i:Nat) (leaf:Tx) (path:List Tx) (j:Nat):(Pd i leaf path j).length=j+1:=by simp [Pd]
theorem Zb {i:Nat} {leaf:Tx} {path:List Tx} {j m:Nat} (h:m<=j):atL (Pd i leaf path j) (m:Int)=some (vY i leaf path m):=by
 rw [cJ (by rw [AH];omega)];simp [Pd]
theorem a7A {l:List Tx} (h:Hs l):(l.any fun x=> !decide (x.length=32))=false:=by
 rw [wg];intro x a;simp [h x a]
theorem c2H {path:List Tx} (b:path.length<=1000) (a:Hs path):cF path=some false:=by
 unfold cF dF
 rw [zh (step:=dm path (path.length:Int)) (p:=fun x=> !decide (x.length=32)) (f:=D5) om (fun x _=>by unfold D5;rw [BB];rfl) (fun t=>rfl),a7A a]
theorem a5V {l:List Tx} {k i:Nat} (a:l.length=2^k) (hi:i<2^k): ∀j,j<=k->H (vY i (l.getD i []) (w6 (l.map hL) k i) j)=(rowAt (l.map hL) j).getD (i/2^j) []
 |0,_=>by
  have h:i<l.length:=by omega
  simp [vY,rowAt,iU,h,hL]
 |j+1,n=>by
  have ih:=a5V a hi j om
  have b:(l.map hL).length=2^k:=by rw [aw,a]
  have o:=uG b j om
  have d:=SY hi (show j<k by omega)
  have p:=EA (show j<k by omega)
  have e:(w6 (l.map hL) k i).getD j []=(rowAt (l.map hL) j).getD (sib (i/2^j)) []:=by
   have:j<k:=by omega
   simp [w6,this]
  have f:i/2^(j+1)=i/2^j/2:=(a0O i j).symm
  rw [vY,ih,e,Jy,f]
  generalize i/2^j=q at d
  have m:(upL (rowAt (l.map hL) j)).getD (q/2) []=hN ((rowAt (l.map hL) j).getD (2*(q/2)) []) ((rowAt (l.map hL) j).getD (2*(q/2)+1) []):=by
   have:q/2<(rowAt (l.map hL) j).length/2:=by omega
   simp [upL,this]
  rw [m]
  unfold hN sib
  by_cases c:q%2=1
  ·rw [aa c,a7 om,show 2*(q/2)=q-1 by omega,show q-1+1=q by omega]
  ·rw [a7 c,aa om,show 2*(q/2)=q by omega]
theorem b3w {l:List Tx} {k i:Nat} (a:l.length=2^k) (hi:i<2^k):H (vY i (l.getD i []) (w6 (l.map hL) k i) k)=Xw (l.map hL) k:=by
 rw [a5V a hi k (am _),Nat.div_eq_of_lt hi];rfl
theorem c1W {l:List Tx} {k i:Nat} (b:l.length=2^k) (hi:i<2^k):Hs (w6 (l.map hL) k i):=fun x c=>by
 obtain ⟨j,a,rfl⟩:=bf.1 c
 have a:=bS.1 a
 have d:(l.map hL).length=2^k:=by rw [aw,b]
 have e:=uG d j om
 have f:=EA a
 have h:=SY hi a
 exact (Xq (QM l) j).getD (by rw [e,f];exact b34 om)
end
section
theorem c0E: ∀k:Nat,k<=9->Hx ((2^k:Nat):Int)=some (k:Int)
 |0,_=>rfl
 |1,_=>rfl
 |2,_=>rfl
 |3,_=>rfl
 |4,_=>rfl
 |5,_=>rfl
 |6,_=>rfl
 |7,_=>rfl
 |8,_=>rfl
 |9,_=>rfl
theorem b4A (a:Int): ∀n:Nat,K.n (a^n)=K.n a^n
 |0=>by rw [lf,pw0];rfl
 |n+1=>by rw [fW,K.n_mul,b4A a n,pwS]
theorem c3w (a:Int):K.n (a%2130706433)=K.n a:=K.ext (by show eN (a%2130706433%2130706433)=eN (a%2130706433);rw [pR])
theorem Vw (a:Int) (n:Nat):kF (pF a n)=kF a^n:=by rw [kF,pF,c3w,b4A];rfl
def sqI:Nat->Int->Int
 |0,x=>x
 |n+1,x=>sqI n (mF x x)
theorem a1X: ∀(n:Nat) (x:Int),kF (sqI n x)=kF x^2^n
 |0,x=>by rw [sqI,kN,pw1]
 |n+1,x=>by rw [sqI,a1X n,QQ,Zr, <-Tt,aZ,eo]
def rtK (k:Nat):K:=kF (Kv k)
theorem PD (k:Nat):rtK k=kF 3^(127*2^(24-k)):=by rw [rtK,Kv,Vw]
theorem c7c:sqI 23 (pF 3 127)=2130706432:=by decide+kernel
theorem c75:sqI 24 (pF 2 127)=1:=by decide+kernel
theorem c6Z:kF 2130706432= -1:=K.ext (CD dcd rfl)
theorem c6r:kF 3^(127*2^23)= -1:=by rw [Hh, <-Vw, <-a1X,c7c,c6Z]
theorem c76:kF 2^(127*2^24)=1:=by rw [Hh, <-Vw, <-a1X,c75];rfl
theorem c0t {k:Nat} (h:k<=24):Rt k (rtK k):=by
 cases k with
 |zero=>trivial
 |succ j=>
  show rtK (j+1)^2^j= -1
  rw [PD, <-Hh,Nat.mul_assoc, <-Nat.pow_add,show 24-(j+1)+j=23 by omega,c6r]
theorem c4I {k:Nat} (h:k+1<=24):rtK (k+1)*rtK (k+1)=rtK k:=by
 rw [PD,PD, <-Tt]
 congr 1
 rw [show 24-k=(24-(k+1))+1 by omega,aZ];omega
theorem b6b {k:Nat} (h:k<=24):rtK k^2^k=1:=by
 cases k with
 |zero=>
  rw [PD,kN,pw1,show 127*2^(24-0)=2*(127*2^23) by decide,Tt,c6r];exact kg
 |succ j=>
  have:=c0t h
  rw [aZ,eo,Tt,show rtK (j+1)^2^j= -1 from this];exact kg
theorem c61 {k:Nat} (h:k<=24):2^k*(127*2^(24-k))=2130706432:=by
 rw [Nat.mul_left_comm, <-Nat.pow_add,show k+(24-k)=24 by omega]
theorem b8t {x:K} {k:Nat} (h:k<=24) (a:x^2^k=1):x^2130706432=1:=by
 rw [<-c61 h,Hh,a,a4h]
theorem c0q {a:Int} (h:kF a^2130706432=1):kF (iF a)*kF a=1:=by
 rw [iF,Vw, <-pwS];exact h
theorem c6v:kF 2^2130706432=1:=by
 have:=c76
 rw [show 127*2^24=2130706432 by decide] at this;exact this
theorem b62:kF (iF 2)*2=1:=c0q c6v
theorem b5v {k:Nat} (h:k<=24) (i:Nat):(rtK k^i)^2130706432=1:=b8t h (by rw [b6G,b6b h,a4h])
def fpK (k i:Nat) (a b r:K):K:=(a+b)*kF (iF 2)+r*(a-b)*(kF (iF 2)*kF (iF (pF (Kv k) i)))
theorem a4K (a:Int):okF (iF a):=a1w _ _
theorem c6K:okF 2:=⟨by decide,by decide⟩
theorem Jb {k i:Nat} (a b r:K) (c:k<=9) (hi:i<=1000):oN ((2^k:Nat):Int) i a.1 b.1 r.1=some (fpK k i a b r).1:=by
 unfold oN
 rw [EB c6K,obs,c0E k c,obs,Vk om,obs,Rw (a1y k) om om,obs,jx a.2 b.2,obs,xK (a6n _ _) (a4K 2),obs,mX a.2 b.2,obs,
  gq r.2 (II _ _),obs,EB (a1w _ _),obs,ml (a4K 2) (a4K _),obs,xK (Fm _ _) (wd _ _),obs,jx (b0g _ _) (b0g _ _),obs,aY,a1B,a1B, <-JY (a4K 2), <-JY (wd _ _),QQ];rfl
theorem c4H {k i:Nat} (b:k<=9) (E O r:K):fpK k i (E+O*rtK k^i) (E-O*rtK k^i) r=E+r*O:=by
 have c:=b62
 have d:kF (iF (pF (Kv k) i))*rtK k^i=1:=by
  have:=c0q (a:=pF (Kv k) i) (by rw [Vw];exact b5v om i)
  rw [Vw] at this;exact this
 unfold fpK
 generalize kF (iF 2)=t at*
 generalize kF (iF (pF (Kv k) i))=y at*
 generalize rtK k^i=x at*
 exact kg
def fwK (k:Nat) (W:List K) (r:K):List K:=(List.range (2^k)).map fun i=>fpK (k+1) i (W.getD i 0) (W.getD (i+2^k) 0) r
theorem HJ (k:Nat) (W:List K) (r:K):(fwK k W r).length=2^k:=by simp [fwK]
theorem Iz {k:Nat} {W:List K} (r:K) (a:k+1<=9) (b:W.length=2^(k+1)):AX (kv W) r.1=some (kv (fwK k W r)):=by
 have d:=K9 (k+1) a
 have f:2^(k+1)=2*2^k:=by rw [aZ];omega
 unfold AX
 have c:IntKind.wrap .i64 (((2^(k+1):Nat):Int).tdiv 2)=((2^k:Nat):Int):=by rw [qr _ _ om,ai _ om om];omega
 rw [bB,b,c]
 have key:=bq (step:=lH (kv W) ((2^k:Nat):Int) ((2^k:Nat):Int) r.1.A r.1.B) (fun j=>(kv ((List.range j).map fun i=>fpK (k+1) i (W.getD i 0) (W.getD (i+2^k) 0) r),(j:Int))) (2^k)
  (e:=(kv (fwK k W r),((2^k:Nat):Int),false)) (fun j h=> ?_) ?_
 ·have key':Loop (lH (kv W) ((2^k:Nat):Int) ((2^k:Nat):Int) r.1.A r.1.B) ([],0)=_:=key
  rw [key'];rfl
 ·simp only [lH]
  rw [brd om,uv om,obs,ai ((j:Int)+_) om om,show (j:Int)+((2^k:Nat):Int)=((j+2^k:Nat):Int) by omega,uv om,obs,bB,b,
   Jb _ _ r a om,obs,aS (by simp only [a8,bB,aw,dV,ag];omega),ai _ om om,dY,bW,oG,Yx];rfl
 ·simp only [lH]
  rw [brn om,ae om];rfl
theorem c7e {k:Nat} {l:List K} (r:K) (e:k+1<=9) (b:l.length=2^(k+1)):fwK k (V (k+1) l (rtK (k+1))) r=V k (cb r (evs l) (ods l)) (rtK k):=by
 have c:=IZ b
 have d:=J9 b
 rw [b2U k _ _ _ c d]
 have hE:=CO k _ (rtK k) c
 have f:=CO k _ (rtK k) d
 refine lm (by rw [HJ,pz om,hE]) fun j a=> ?_
 rw [HJ] at a
 rw [fwK,xj a,b5d a,jd j,b1T a,nM om,c4I om,c4H e]
def EE (l:List K) (n:Nat):List K:=l++List.replicate (n-l.length) 0
theorem tn {l:List K} {n:Nat} (h:l.length<=n):(EE l n).length=n:=by simp [EE];omega
theorem AW (l:List K) (n j:Nat):(EE l n).getD j 0=l.getD j 0:=by
 unfold EE
 by_cases h:j<l.length
 ·rw [c5B h]
 ·obtain ⟨i,rfl⟩: ∃i,j=l.length+i:=⟨j-l.length,by omega⟩
  rw [c4v,b93];simp
theorem b7m {l:List K} {a b:Nat} (h:l.length=2*a) (c:a<=b):evs (EE l (2*b))=EE (evs l) b:=by
 have d:=mE l a h
 refine lm (by rw [mE _ b (tn om),tn om]) fun j _=> ?_
 rw [q9,AW,AW,q9]
theorem b8x {l:List K} {a b:Nat} (h:l.length=2*a) (c:a<=b):ods (EE l (2*b))=EE (ods l) b:=by
 have d:=nl l a h
 refine lm (by rw [nl _ b (tn om),tn om]) fun j _=> ?_
 rw [rW,AW,AW,rW]
theorem c1u {r:K} {a b:List K} {n:Nat} (h:a.length=b.length) (hn:a.length<=n):cb r (EE a n) (EE b n)=EE (cb r a b) n:=by
 have c:=tn (l:=a) hn
 have f:=tn (l:=b) (n:=n) om
 have i:=pz (r:=r) h
 have d:=pz (r:=r) (a:=EE a n) (b:=EE b n) om
 have e:=tn (l:=cb r a b) (n:=n) om
 refine lm (by rw [d,c,e]) fun j _=> ?_
 rw [nM om,AW,AW,AW,nM h]
def Enc (m t:Nat) (l:List K):List K:=V (m+t) (EE l (2^(m+t))) (rtK (m+t))
theorem Dz (m t:Nat):2^m<=2^(m+t):=Nat.pow_le_pow_right om om
theorem Sn {m t:Nat} {l:List K} (h:l.length=2^m):(EE l (2^(m+t))).length=2^(m+t):=tn (by rw [h];exact Dz m t)
theorem b6V {m t:Nat} {l:List K} (h:l.length=2^m):(Enc m t l).length=2^(m+t):=CO _ _ _ (Sn h)
theorem b3r {m t:Nat} {l:List K} (r:K) (c:m+t+1<=9) (h:l.length=2^(m+1)):fwK (m+t) (Enc (m+1) t l) r=Enc m t (cb r (evs l) (ods l)):=by
 have e:m+1+t=m+t+1:=by omega
 have a:=Dz m t
 have b:l.length=2*2^m:=by rw [h,aZ];omega
 have d:=IZ h
 have f:=J9 h
 unfold Enc
 rw [e,c7e r c (tn (by rw [h, <-e];exact Dz _ _)),aZ,eo,b7m b a,b8x b a,c1u om om]
theorem b9J: ∀m:Nat,m<=9-> ∀t:Nat,t<=9->ct .i64 ((2^m:Nat):Int) (t:Int)=((2^(m+t):Nat):Int):=by decide+kernel
theorem b6S: ∀m:Nat,m<=9-> ∀t:Nat,t<=m->cc .i64 ((2^m:Nat):Int) (t:Int)=((2^(m-t):Nat):Int):=by decide+kernel
theorem c4c (n:Nat):kv (List.replicate n 0)=List.replicate n e0:=by rw [kv,vN];rfl
theorem b0y (a b:List K):kv (a++b)=kv a++kv b:=by simp [kv]
theorem c1m (l:List K) (n:Nat):kv (EE l n)=kv l++List.replicate (n-l.length) e0:=by rw [EE,b0y,c4c]
theorem LL {m t:Nat} {l:List K} (a:m+t<=9) (h:l.length=2^m):zX (kv l) (t:Int)=some (kv (Enc m t l)):=by
 have c:=K9 (m+t) a
 have b:=Dz m t
 unfold zX
 have hc:yN (List.replicate (((2^(m+t):Nat):Int).toNat) (Ext.mk 0 0)) 0 (min (kv l).length (List.replicate (((2^(m+t):Nat):Int).toNat) (Ext.mk 0 0)).length) (kv l)=kv (EE l (2^(m+t))):=by
  rw [aL,aY,bB,h,dp b,c1m,h,yN]
  simp [bB,h,e0]
  exact aX (by rw [bB,h];omega)
 rw [brd om,bB,h,b9J m om t om,a1m om om om, <-h, <-bB l,hc]
 unfold a60
 rw [bB,Sn h,c0E _ a,obs,Vk om,obs,a0Q a (a1y _) (Sn h),obs,obs];rfl
end
section
def stK (l:List K) (j:Nat):List K:=(List.range l.length).map fun m=>if m/2^j%2=1 then l.getD m 0-l.getD (m-2^j) 0 else l.getD m 0
theorem lS (l:List K) (j:Nat):(stK l j).length=l.length:=by simp [stK]
def stP (l:List K) (j i:Nat):List K:=(List.range l.length).map fun m=>if m<i/\m/2^j%2=1 then l.getD m 0-l.getD (m-2^j) 0 else l.getD m 0
theorem ER (l:List K) (j i:Nat):(stP l j i).length=l.length:=by simp [stP]
theorem PM {l:List K} {j i m:Nat} (h:m<l.length):(stP l j i).getD m 0=if m<i/\m/2^j%2=1 then l.getD m 0-l.getD (m-2^j) 0 else l.getD m 0:=by rw [stP,xj h]
theorem b6m (l:List K):(List.range l.length).map (fun m=>l.getD m 0)=l:=lm sm fun j a=>by
 rw [aw,dV] at a;rw [xj a]
theorem b3P (l:List K) (j:Nat):stP l j 0=l:=by
 rw [stP];exact (bk fun m _=>by rw [a7 om]).trans (b6m l)
theorem b8N (l:List K) (j:Nat):stP l j l.length=stK l j:=by
 rw [stP,stK]
 refine bk fun m a=> ?_
 have:=bS.1 a
 by_cases c:m/2^j%2=1
 ·rw [aa ⟨this,c⟩,aa c]
 ·rw [a7 fun h=>c h.2,a7 c]
theorem a9Q {l:List K} {j i:Nat} (h:i/2^j%2=0):stP l j (i+1)=stP l j i:=by
 rw [stP,stP]
 refine bk fun m a=> ?_
 by_cases c:m/2^j%2=1
 ·have:m≠i:=fun e=>by subst e;omega
  by_cases c2:m<i
  ·rw [aa ⟨by omega,c⟩,aa ⟨c2,c⟩]
  ·rw [a7 om,a7 om]
 ·rw [a7 fun h=>c h.2,a7 fun h=>c h.2]
theorem b7k {l:List K} {j i:Nat} (hi:i<l.length) (h:i/2^j%2=1):(stP l j i).set i (l.getD i 0-l.getD (i-2^j) 0)=stP l j (i+1):=by
 refine lm (by rw [aO,ER,ER]) fun m a=> ?_
 rw [aO,ER] at a
 rw [PM a]
 by_cases c:m=i
 ·subst c
  rw [aa ⟨by omega,h⟩]
  simp [ER,a]
 ·have:((stP l j i).set i (l.getD i 0-l.getD (i-2^j) 0)).getD m 0=(stP l j i).getD m 0:=by
   simp [dW,show ¬i=m by omega]
  rw [this,PM a]
  by_cases c2:m/2^j%2=1
  ·by_cases c3:m<i
   ·rw [aa ⟨c3,c2⟩,aa ⟨by omega,c2⟩]
   ·rw [a7 om,a7 om]
  ·rw [a7 fun h=>c2 h.2,a7 fun h=>c2 h.2]
theorem c6R: ∀i:Nat,i<64-> ∀j:Nat,j<6->(de .i64 (i:Int) ((2^j:Nat):Int)==0)=decide (i/2^j%2=0):=by decide+kernel
theorem c74: ∀i:Nat,i<64-> ∀j:Nat,j<6->i/2^j%2=1->sA .i64 (i:Int) ((2^j:Nat):Int)=((i-2^j:Nat):Int)/\2^j<=i/\(i-2^j)/2^j%2=0:=by decide+kernel
def cfK:Nat->List K->List K
 |0,l=>l
 |j+1,l=>stK (cfK j l) j
theorem vD (l:List K): ∀j,(cfK j l).length=l.length
 |0=>rfl
 |j+1=>by rw [cfK,lS,vD l j]
theorem c5C: ∀k:Nat,k<=6->1<=2^k/\2^k<=64:=by decide
theorem YK (k:Nat) (a:k+1<=9):IntKind.wrap .i64 (((2^(k+1):Nat):Int).tdiv 2)=((2^k:Nat):Int):=by
 have b:=K9 (k+1) a
 have c:2^(k+1)=2*2^k:=by rw [aZ];omega
 rw [qr _ _ om,ai _ om om];omega
def lfK (k:Nat) (W:List K) (i:Nat):List UInt8:=[(W.getD i 0).1,(W.getD (i+2^k) 0).1].flatMap e8
def lvK (k:Nat) (W:List K):List (List UInt8):=(List.range (2^k)).map (lfK k W)
theorem Hl (k:Nat) (W:List K):(lvK k W).length=2^k:=by simp [lvK]
theorem b9v (k:Nat) (W:List K) (i:Nat):(lfK k W i).length=16:=by rw [lfK,iW];rfl
theorem a9g (k:Nat) (W:List K):b9Z (lvK k W):=fun x a=>by
 obtain ⟨i,_,rfl⟩:=bf.1 a;rw [b9v];omega
def wrK (k:Nat) (W:List K):List UInt8:=Xw ((lvK k W).map hL) k
theorem b7c {row:List Tx} {k:Nat} (h:Hs row) (a:row.length=2^k):(Xw row k).length=32:=(Xq h k).getD (by rw [uG a k (am k),kI];decide)
theorem PX (k:Nat) (W:List K):(wrK k W).length=32:=b7c (QM _) (by rw [aw,Hl])
end
section
def a98 (n:Nat) (p:Nat->Bool):Bool:=(List.range n).all p
theorem QY {n:Nat} {p:Nat->Bool}:a98 n p=true↔ ∀j,j<n->p j=true:=by simp [a98]
theorem a4M {n:Nat} {p:Nat->Bool} (h: ∀j,j<n->p j=true):a98 n p=true:=QY.2 h
theorem b7O {n:Nat} {p:Nat->Bool} {k:Nat} (a:k<n) (h:p k=false):a98 n p=false:=by
 refine Bool.eq_false_iff.2 fun e=> ?_
 rw [QY.1 e k a] at h;cases h
theorem b2f {E1 E2 R:Type} {step:Int->Option (Int⊕(E1⊕E2))} (n:Nat) (p:Nat->Bool) (e1:Nat->E1) {e2:E2} {f:E1->Option R} {g:E2->Option R} {x y:R} (d: ∀k,k<n->p k=true->step (k:Int)=some (.inl ((k+1:Nat):Int)))
 (h: ∀k,k<n->p k=false->step (k:Int)=some (.inr (.inl (e1 k)))) (i:step (n:Int)=some (.inr (.inr e2))) (j: ∀e,f e=some x) (l:g e2=some y):
 (Loop step 0).bind (alt f g)=some (if a98 n p=true then y else x):=by
 rcases Ay (step:=step) (fun k=>(k:Int)) n p (fun k=> .inl (e1 k)) d h i with ⟨b,c⟩|⟨k,m,b,_,c⟩
 ·have a:Loop step 0=_:=c
  rw [a,aa (a4M b),obs,uT,l]
 ·have a:Loop step 0=_:=c
  rw [a,a7 (by rw [b7O m b];decide),obs,sr,j]
theorem b0u {b:Bool}:(if b=true then true else false)=b:=by cases b<;>rfl
def h32 (x:List UInt8):Bool:=decide (x.length=32)
theorem N5 {l:List (List UInt8)} (a:l.length<=1099511627776):iI l=some (l.all h32):=by
 unfold iI cp cB
 rw [zh (step:=cj l (l.length:Int)) (p:=fun x=> !h32 x) (f:=j6) a (fun x _=>by unfold j6;rw [BB];rfl) (fun t=>rfl),obs,yv]
def TM (size:Int) (g:List Ext):Bool:=decide ((g.length:Int)=size)&&g.all vX
def qJ (R:List (List Ext)) (many size:Int):Bool:=decide ((R.length:Int)=many)&&R.all (TM size)
theorem Se {α C:Type} {p:α->Bool} {f:α->C->Option (Bool×C)} {l:List α} {c:C} (o:l.length<=1099511627776) (m: ∀x∈l,f x c=some (p x,c)) {step:Int×C->Option ((Int×C)⊕((Int×C)⊕(Int×Bool×C)))}
 (b: ∀t,step (t,c)=br (decide (t<(l.length:Int))) ((atL l t).bind fun x=>(f x c).bind fun r=>br r.1 (some (.inr (.inl (t,r.2)))) (some (.inl (IntKind.wrap .i64 (t+1),r.2)))) (some (.inr (.inr (t,decide (t<(l.length:Int)),c))))):
 ∃n:Int,Loop step (0,c)=some (if l.any p then .inl (n,c) else .inr (n,false,c))/\0<=n:=by
 have key:=Ay (step:=step) (fun k=>((k:Int),c)) l.length (fun k=> !((l[k]?.map p).getD false)) (fun k=> .inl ((k:Int),c)) (e:= .inr ((l.length:Int),false,c)) (fun k a d=>by
  have h:p l[k]=false:=by simpa [a] using d
  rw [b,brd om,cJ a,obs,m _ (b9 a),obs,h,bu,ai _ om om];rfl)
  (fun k a d=>by
   have h:p l[k]=true:=by simpa [a] using d
   rw [b,brd om,cJ a,obs,m _ (b9 a),obs,h,dj])
  (by rw [b,brn om,ae om])
 rcases key with ⟨i,j⟩|⟨k,a,i,_,j⟩
 ·exact ⟨(l.length:Int),by rw [a6b (fun k a=>by simpa [a] using i k a)];exact j,by omega⟩
 ·exact ⟨(k:Int),by rw [Rp a (by simpa [a] using i)];exact j,by omega⟩
theorem AL {R:List (List Ext)} {many size:Int} (b:R.length<=1099511627776) (d: ∀g∈R,g.length<=1099511627776):rf R many size=some (qJ R many size):=by
 unfold rf qJ
 by_cases h:(R.length:Int)=many
 ·rw [bre h,aj h]
  obtain ⟨n,e,hn⟩:=Se (c:=size) (p:=fun g=> !TM size g) (f:=tu) (l:=R) b (fun x i=>by
   unfold tu TM
   by_cases a:(x.length:Int)=size
   ·rw [m9 a,Df (d x i),obs,aj a];rfl
   ·rw [brb a,ae a];rfl) (step:=cP R (R.length:Int)) (fun t=>rfl)
  unfold cV dl
  rw [e, <-yv (TM size)]
  cases (R.any fun g=> !TM size g)
  ·rfl
  ·simp only [aa,obs,sr,aj (show n>=0 from hn)];rfl
 ·rw [cn h,ae h];rfl
def a7P (vars:Int) (t:Setting) (q:cw) (j:Nat):Bool:=decide (((q.Paths.getD j []).length:Int)=vars+t.Rate-1-j)&&(q.Paths.getD j []).all h32
def QA (vars:Int) (t:Setting) (q:cw):Bool:=decide ((q.Pairs.length:Int)=2*vars)&&(q.Pairs.all vX&&(decide ((q.Paths.length:Int)=vars)&&a98 vars.toNat (a7P vars t q)))
def okO (o:bK) (vars:Int) (t:Setting):Bool:=decide (1<=vars/\vars<=6)&&(setB t&&(qJ o.Rounds vars 3&&(decide ((o.Roots.length:Int)=vars-1)&&(o.Roots.all h32&&(vX o.Last&&(decide (0<=o.Nonce/\o.Nonce<=65535)&&(decide ((o.Queries.length:Int)=t.Queries)&&o.Queries.all (QA vars t))))))))
structure SmO (o:bK):Prop where
 rn:o.Rounds.length<=1099511627776
 rr: ∀g∈o.Rounds,g.length<=1099511627776
 ro:o.Roots.length<=1099511627776
 qn:o.Queries.length<=1099511627776
 qp: ∀q∈o.Queries,q.Pairs.length<=1099511627776
 qt: ∀q∈o.Queries, ∀p∈q.Paths,p.length<=1099511627776
theorem b1Q {l:List (List (List UInt8))} {j:Nat} (h:j<l.length):atL l (j:Int)=some (l.getD j []):=by rw [cJ h];simp [h]
theorem b1r {l:List (List (List UInt8))} {j:Nat} (h:j<l.length):l.getD j []∈l:=by simp [h]
theorem W6 {q:cw} {vars:Int} {t:Setting} (h:1<=vars/\vars<=6) (d:setB t=true) (a:q.Pairs.length<=1099511627776) (c: ∀p∈q.Paths,p.length<=1099511627776):zN q vars t=some (QA vars t q):=by
 have i:=lQ d
 unfold zN QA
 rw [ai _ om om]
 by_cases c1:(q.Pairs.length:Int)=2*vars
 ·rw [m9 c1,aj c1,Df a,obs]
  cases m:q.Pairs.all vX
  ·rfl
  ·rw [aQ,bu]
   by_cases c2:(q.Paths.length:Int)=vars
   ·rw [m9 c2,aj c2]
    have hn:vars.toNat=q.Paths.length:=by omega
    have key:=b2f (step:=mT vars q.Paths (q.Paths.length:Int) q.Pairs q.Paths t.Rate t.Queries t.Grind) vars.toNat (a7P vars t q) (fun _=>()) (e2:=((vars.toNat:Int),false)) (f:=fun _=>some false) (g:=fun _=>some true) (x:=false) (y:=true) (fun k e a=>by
     have b:=c _ (b1r (l:=q.Paths) (j:=k) om)
     simp only [a7P,aB,aA] at a
     simp only [mT]
     rw [brd om,b1Q om,obs,ai (vars+t.Rate) om om,ai (vars+t.Rate-1) om om,ai (vars+t.Rate-1-k) om om,m9 a.1,N5 b,obs,a.2,aQ,bu,ai _ om om];rfl) (fun k e a=>by
     have b:=c _ (b1r (l:=q.Paths) (j:=k) om)
     simp only [mT]
     rw [brd om,b1Q om,obs,ai (vars+t.Rate) om om,ai (vars+t.Rate-1) om om,ai (vars+t.Rate-1-k) om om]
     by_cases c3:((q.Paths.getD k []).length:Int)=vars+t.Rate-1-k
     ·rw [m9 c3,N5 b,obs]
      rw [a7P,aj c3,bm] at a
      rw [a];rfl
     ·rw [brb c3]) (by
     simp only [mT]
     rw [brn om,ae om]) (fun _=>rfl) rfl
    rw [b0u] at key
    rw [key];rfl
   ·rw [brb c2,ae c2];rfl
 ·rw [brb c1,ae c1];rfl
theorem R8 {o:bK} {vars:Int} {t:Setting} (S:SmO o):yq o vars t=some (okO o vars t):=by
 unfold yq okO
 rw [HQ,obs]
 by_cases a:1<=vars/\vars<=6
 ·rw [aj a,aj a.1,aj a.2,Bool.and_self,dj,nV,obs,bm]
  cases d:setB t
  ·rfl
  ·rw [dj,AL S.rn S.rr,obs,bm]
   cases h:qJ o.Rounds vars 3
   ·rfl
   ·rw [dj,ai _ om om,bm]
    by_cases c1:(o.Roots.length:Int)=vars-1
    ·rw [bre c1,aj c1,N5 S.ro,obs,bm]
     cases i:o.Roots.all h32
     ·rfl
     ·rw [dj,wG,obs,bm]
      cases j:vX o.Last
      ·rfl
      ·rw [dj,HQ,obs,bm]
       by_cases c2:0<=o.Nonce/\o.Nonce<=65535
       ·rw [aj c2,aj c2.1,aj c2.2,Bool.and_self,dj,bm]
        by_cases c3:(o.Queries.length:Int)=t.Queries
        ·rw [bre c3,aj c3,bm]
         obtain ⟨n,e,hn⟩:=Se (c:=(vars,t.Rate,t.Queries,t.Grind)) (p:=fun q=> !QA vars t q) (f:=fun x c=>(dR x c.1 ⟨c.2.1,c.2.2.1,c.2.2.2⟩).bind fun r=>some (r.1,r.2.1,r.2.2.Rate,r.2.2.Queries,r.2.2.Grind)) (l:=o.Queries) S.qn (fun x b=>by
          unfold dR xa
          show ((((zN x vars t).bind _).bind _).bind _)=_
          rw [W6 a d (S.qp x b) (S.qt x b)];rfl) (step:=bi o.Queries (o.Queries.length:Int)) (fun z=>by
          show bi _ _ (z,vars,t.Rate,t.Queries,t.Grind)=_
          simp only [bi]
          congr 1
          cases atL o.Queries z with
          |none=>rfl
          |some x=>
           simp only [obs]
           cases dR x vars ⟨t.Rate,t.Queries,t.Grind⟩<;>rfl)
         unfold j1 bU ca
         rw [e, <-yv (QA vars t)]
         cases (o.Queries.any fun q=> !QA vars t q)
         ·rfl
         ·simp only [aa,obs,sr,aj (show n>=0 from hn)]
        ·rw [cn c3,ae c3];rfl
       ·rw [ae c2]
        have:(decide (0<=o.Nonce)&&decide (o.Nonce<=65535))=false:=by
         rw [<-Bool.decide_and];exact ae c2
        rw [this];rfl
    ·rw [cn c1,ae c1];rfl
 ·rw [ae a]
  have:(decide (1<=vars)&&decide (vars<=6))=false:=by
   rw [<-Bool.decide_and];exact ae a
  rw [this];rfl
end
section
theorem b9P {α:Type} {l:List α} {d:α} {j:Nat} (h:j<l.length):atL l (j:Int)=some (l.getD j d):=by rw [cJ h];simp [h]
end
section
def wdK:Nat->List K->List K->List K
 |_,W,[]=>W
 |m,W,r::P=>wdK (m-1) (fwK (m-1) W r) P
def Cv:Nat->List K->List K->List (List K)
 |_,_,[]=>[]
 |m,W,r::P=>W::Cv (m-1) (fwK (m-1) W r) P
def B9:Nat->List K->List K->List (List UInt8)
 |_,_,[]=>[]
 |m,W,r::P=>(if P.length=0 then [] else [wrK (m-2) (fwK (m-1) W r)])++B9 (m-1) (fwK (m-1) W r) P
theorem Mf: ∀(P:List K) (m:Nat) (W:List K),(Cv m W P).length=P.length
 |[],_,_=>rfl
 |r::P,m,W=>by rw [Cv,ab,Mf P,ab]
theorem a0o: ∀(P:List K) (m:Nat) (W:List K),(B9 m W P).length=P.length-1
 |[],_,_=>rfl
 |r::P,m,W=>by
  rw [B9,a8,a0o P,ab]
  split
  ·rw [ah];omega
  ·rw [ag];omega
theorem b1Z: ∀(P:List K) (m:Nat) (W:List K),Hs (B9 m W P)
 |[],_,_=>fun x a=>by simp [B9] at a
 |r::P,m,W=>fun x a=>by
  rw [B9,aJ] at a
  rcases a with a|a
  ·split at a
   ·cases a
   ·rw [bI] at a;subst a;exact PX _ _
  ·exact b1Z P _ _ x a
def bhO (v ρ:Nat) (W P:List K) (s:Source):Source:=if P.length<v then tkM s (wrK (v+ρ-P.length-1) (wdK (v+ρ) W P)) else s
theorem b5r (v ρ:Nat) (W:List K):b8a (bhO v ρ W):=fun P s k h a=>by
 unfold bhO;split
 ·exact h.take _
 ·exact h.mono om
end
section
def prK:Nat->List (List K)->Nat->List K
 |_,[],_=>[]
 |m,W::Ws,k=>W.getD (k%2^(m-1)) 0::W.getD (k%2^(m-1)+2^(m-1)) 0::prK (m-1) Ws (k%2^(m-1))
def ptK:Nat->List (List K)->Nat->List (List (List UInt8))
 |_,[],_=>[]
 |m,W::Ws,k=>w6 ((lvK (m-1) W).map hL) (m-1) (k%2^(m-1))::ptK (m-1) Ws (k%2^(m-1))
def ZY:Nat->List (List K)->Prop
 |_,[]=>True
 |m,W::Ws=>W.length=2^m/\1<=m/\ZY (m-1) Ws
theorem XB: ∀(P:List K) (m:Nat) (W:List K),W.length=2^m->P.length<=m->ZY m (Cv m W P)
 |[],_,_,_,_=>trivial
 |r::P,m,W,h,hm=>by
  rw [ab] at hm
  exact ⟨h,by omega,XB P (m-1) _ (HJ _ _ _) om⟩
def qsM (m:Nat) (Ws:List (List K)) (p:Int):cw:=⟨kv (prK m Ws p.toNat),ptK m Ws p.toNat⟩
end
section
variable {kind:Nat}
theorem b9B {s:Source} {k:Int} (h:Few s k) (b:k<=900000): ∃n,mW s=some n/\100000<=n/\n<=1000000:=by
 have a:=b4p h.2 h.3
 have h0:0<=mx s.At s.Count:=by have:=h.1.4;have:=h.1.6;unfold mx;split<;>assumption
 unfold mW
 rw [ai _ om om]
 exact ⟨_,rfl,by omega,by omega⟩
end
section
def opW (v ρ:Nat) (t:List K):List K:=Enc v ρ (cfK v t)
def opQ (v ρ:Nat) (t P:List K) (s:Source):List (List K)×List K×List (List K)×Source:=pvM 1 (bhO v ρ (opW v ρ t)) v [] [t,eqK P] s
def opL (v ρ:Nat) (t P:List K) (s:Source):K:=((opQ v ρ t P s).2.2.1.getD 0 []).getD 0 0
def opS (v ρ:Nat) (t P:List K) (s:Source):Source:=rsM (opQ v ρ t P s).2.2.2 [opL v ρ t P s]
def opT (v ρ n:Nat) (t P:List K) (s:Source):Source:=tkM (opS v ρ t P s) (lG (n:Int))
def opO (v ρ nq n:Nat) (t P:List K) (s:Source):bK:=
 ⟨kvv (opQ v ρ t P s).1,B9 (v+ρ) (opW v ρ t) (opQ v ρ t P s).2.1,(opL v ρ t P s).1,(n:Int),(plM (drL (opT v ρ n t P s) nq) ((2^(v+ρ-1):Nat):Int)).map (qsM (v+ρ) (Cv (v+ρ) (opW v ρ t) (opQ v ρ t P s).2.1))⟩
noncomputable def opG (v ρ nq:Nat) (t P:List K) (s:Source):Option Nat->bK×Source×Bool
 |none=>(⟨[],[],⟨0,0⟩,0,[]⟩,opS v ρ t P s,false)
 |some n=>(opO v ρ nq n t P s,drS (opT v ρ n t P s) nq,true)
noncomputable def Lm (v ρ nq bits:Nat) (t P:List K) (s:Source):bK×Source×Bool:=opG v ρ nq t P s (vA (opS v ρ t P s).State bits)
theorem Kn {v ρ nq bits:Nat} {t P:List K} {s:Source} (h:vA (opS v ρ t P s).State bits=none):Lm v ρ nq bits t P s=(⟨[],[],⟨0,0⟩,0,[]⟩,opS v ρ t P s,false):=by
 rw [Lm,h,opG]
theorem Kf {v ρ nq bits n:Nat} {t P:List K} {s:Source} (h:vA (opS v ρ t P s).State bits=some n):Lm v ρ nq bits t P s=(opO v ρ nq n t P s,drS (opT v ρ n t P s) nq,true):=by
 rw [Lm,h,opG]
theorem Ev {v ρ:Nat} {t:List K} (a:t.length=2^v):(opW v ρ t).length=2^(v+ρ):=b6V (by rw [vD];exact a)
theorem b88 {v:Nat} {t P:List K} (b:t.length=2^v) (c:P.length=v):OkT 1 (2^v) [t,eqK P]:=⟨.inl rfl,rfl,fun i hi=>by
 have a:i<2:=hi
 match i,a with
 |0,_=>exact b
 |1,_=>exact (DF P).trans (by rw [c])⟩
variable {v ρ:Nat} {t P:List K} {s:Source} {k:Int}
theorem a4z (a:Few s k) (b:k+3*v<=900):Few (opQ v ρ t P s).2.2.2 (k+3*v):=Yv (b5r v ρ _) v [] _ s k a om
theorem a5U (a:Few s k) (b:k+3*v<=900):Few (opS v ρ t P s) (k+3*v+1):=(a4z a b).take _
theorem a6u (a:Few s k) (b:k+3*v<=900) (n:Nat):Few (opT v ρ n t P s) (k+3*v+1+1):=(a5U a b).take _
theorem c1Q {l:List Ext} (h:j7 l) {m:Nat} (c:1<=m) (d:m<=1000000): ∀x∈plM l (m:Int),0<=x/\x<=1000000:=fun x a=>by
 obtain ⟨y,e,rfl⟩:=bf.1 a
 have h0:=dD y.A (b:=(m:Int)) om
 have f:=cW y.A (b:=(m:Int)) om
 omega
theorem a6r: ∀(Ws:List (List K)) (m k:Nat),(prK m Ws k).length=2*Ws.length
 |[],_,_=>rfl
 |W::Ws,m,k=>by rw [prK,ab,ab,a6r Ws,ab];omega
theorem b0z: ∀(Ws:List (List K)) (m k:Nat),m<=9->ZY m Ws->(ptK m Ws k).length=Ws.length/\ ∀j,j<Ws.length->((ptK m Ws k).getD j []).length=m-1-j/\Hs ((ptK m Ws k).getD j [])
 |[],_,_,_,_=>⟨rfl,fun j a=>absurd a sm⟩
 |W::Ws,m,k,c,h=>by
  obtain ⟨d,e,b⟩:=h
  have ih:=b0z Ws (m-1) (k%2^(m-1)) om b
  have f:=K9 (m-1) om
  refine ⟨by rw [ptK,ab,ih.1,ab],fun j a=> ?_⟩
  rw [ab] at a
  cases j with
  |zero=>exact ⟨(Vg _ _ _).trans om,c1W (Hl _ _) (fN _ om)⟩
  |succ j=>
   have:=ih.2 j om
   exact ⟨this.1.trans om,this.2⟩
theorem a65 {l:List Tx} (h:Hs l):l.all h32=true:=an.2 fun x a=>by simp only [h32,aA];exact h x a
theorem PA (v ρ:Nat) (t P:List K) (s:Source):(opQ v ρ t P s).1.length=v/\(opQ v ρ t P s).2.1.length=v:=NE v _ _ _
theorem c47 {Ws:List (List K)} {st:Setting} {p:Int} (d:ZY (v+ρ) Ws) (b:Ws.length=v) (e:v+ρ<=9) (e1:st.Rate=(ρ:Int)) (i:1<=v):QA (v:Int) st (qsM (v+ρ) Ws p)=true:=by
 have c:=b0z Ws (v+ρ) p.toNat e d
 have f:((kv (prK (v+ρ) Ws p.toNat)).length:Int)=2*(v:Int):=by rw [bB,a6r,b];omega
 have h:(((ptK (v+ρ) Ws p.toNat).length:Nat):Int)=(v:Int):=by rw [c.1,b]
 unfold QA qsM
 dsimp only
 rw [aj f,bm,a0E.2 (Al _),bm,aj h,bm]
 refine a4M fun j k=> ?_
 have a:=c.2 j om
 unfold a7P
 dsimp only
 rw [a65 a.2,dO,aA,a.1,e1];omega
theorem c49 {st:Setting} {nq n:Nat} (e:t.length=2^v) (a:1<=v) (m:v<=6) (hρ:ρ<=3) (b:setB st=true) (e1:st.Rate=(ρ:Int)) (e2:st.Queries=(nq:Int)) (hn:n<65536):okO (opO v ρ nq n t P s) (v:Int) st=true:=by
 have d:=PA v ρ t P s
 have f:=XB (opQ v ρ t P s).2.1 (v+ρ) (opW v ρ t) (Ev e) om
 have h:=Mf (opQ v ρ t P s).2.1 (v+ρ) (opW v ρ t)
 have i:qJ (kvv (opQ v ρ t P s).1) (v:Int) 3=true:=by
  unfold qJ
  rw [tG,d.1,aj rfl,bm]
  refine an.2 fun x c=> ?_
  obtain ⟨g,j,rfl⟩:=bf.1 c
  have:=Ht v _ _ _ g j
  unfold TM
  rw [bB,this,a0E.2 (Al g)];rfl
 have k:(((B9 (v+ρ) (opW v ρ t) (opQ v ρ t P s).2.1).length:Nat):Int)=(v:Int)-1:=by rw [a0o,d.2];omega
 have l:((((plM (drL (opT v ρ n t P s) nq) ((2^(v+ρ-1):Nat):Int)).map (qsM (v+ρ) (Cv (v+ρ) (opW v ρ t) (opQ v ρ t P s).2.1))).length:Nat):Int)=st.Queries:=by
  rw [aw,plM,aw,xg,e2]
 unfold okO opO
 dsimp only
 rw [aj om,b,i,aj k,a65 (b1Z _ _ _),ve.2 (aI _),aj om,aj l]
 simp only [bm]
 refine an.2 fun x c=> ?_
 obtain ⟨p,_,rfl⟩:=bf.1 c
 exact c47 f om om e1 a
end
section
theorem b53 (m j:Nat):(2*m)/2^(j+1)%2=m/2^j%2:=by rw [aZ,eo (2^j) 2, <-qY,Nat.mul_div_cancel_left m om]
theorem b6T (m j:Nat):(2*m+1)/2^(j+1)%2=m/2^j%2:=by rw [aZ,eo (2^j) 2, <-qY,show (2*m+1)/2=m by omega]
theorem zj {l:List K} {j m:Nat} (h:m<l.length):(stK l j).getD m 0=if m/2^j%2=1 then l.getD m 0-l.getD (m-2^j) 0 else l.getD m 0:=by rw [stK,xj h]
theorem c0N {l:List K} {n j:Nat} (h:l.length=2*n):evs (stK l (j+1))=stK (evs l) j:=by
 have a:=mE l n h
 refine lm (by rw [mE _ n (by rw [lS];exact h),lS,a]) fun m b=> ?_
 rw [mE _ n (by rw [lS];exact h)] at b
 rw [q9,zj om,zj om,b53,q9,q9,aZ,show 2*m-2^j*2=2*(m-2^j) by omega]
theorem c37 {l:List K} {n j:Nat} (h:l.length=2*n):ods (stK l (j+1))=stK (ods l) j:=by
 have b:=nl l n h
 refine lm (by rw [nl _ n (by rw [lS];exact h),lS,b]) fun m d=> ?_
 rw [nl _ n (by rw [lS];exact h)] at d
 rw [rW,zj om,zj om,b6T,rW,rW]
 by_cases c:m/2^j%2=1
 ·have e:2^j<=m:=by
   refine Nat.le_of_not_lt fun a=> ?_
   rw [Nat.div_eq_of_lt a] at c;omega
  rw [aa c,aa c,aZ,show 2*m+1-2^j*2=2*(m-2^j)+1 by omega]
 ·rw [a7 c,a7 c]
theorem b6M {l:List K} {n:Nat} (h:l.length=2*n):evs (stK l 0)=evs l:=by
 refine lm (by rw [mE _ n (by rw [lS];exact h),mE _ n h]) fun m a=> ?_
 rw [mE _ n (by rw [lS];exact h)] at a
 rw [q9,zj om,kN,Nat.div_one,a7 om,q9]
theorem b67 {l:List K} {n:Nat} (h:l.length=2*n):ods (stK l 0)=cb (-1) (ods l) (evs l):=by
 have a:=nl l n h
 have c:=mE l n h
 refine lm (by rw [nl _ n (by rw [lS];exact h),pz om,a]) fun m b=> ?_
 rw [nl _ n (by rw [lS];exact h)] at b
 rw [rW,zj om,kN,Nat.div_one,aa om,nM om,rW,q9,show 2*m+1-1=2*m by omega]
 exact kg
theorem b3L {n:Nat} {l:List K} (h:l.length=2*n): ∀v,evs (cfK (v+1) l)=cfK v (evs (stK l 0))
 |0=>rfl
 |v+1=>by
  rw [cfK,c0N (by rw [vD];exact h),b3L h v];rfl
theorem b41 {n:Nat} {l:List K} (h:l.length=2*n): ∀v,ods (cfK (v+1) l)=cfK v (ods (stK l 0))
 |0=>rfl
 |v+1=>by
  rw [cfK,c37 (by rw [vD];exact h),b41 h v];rfl
theorem c4J {a b:List K} (r:K) (h:a.length=b.length) (j:Nat):stK (cb r a b) j=cb r (stK a j) (stK b j):=by
 refine lm (by rw [lS,pz h,pz (by rw [lS,lS];exact h),lS]) fun m c=> ?_
 rw [lS,pz h] at c
 have d:(stK a j).length=(stK b j).length:=by rw [lS,lS];exact h
 rw [zj (by rw [pz h];exact c),nM d m,zj c,zj om]
 split
 ·rw [nM h,nM h];exact kg
 ·rw [nM h]
theorem c0c {a b:List K} (r:K) (h:a.length=b.length): ∀v,cfK v (cb r a b)=cb r (cfK v a) (cfK v b)
 |0=>rfl
 |v+1=>by rw [cfK,c0c r h v,c4J r (by rw [vD,vD];exact h)];rfl
theorem c5y {l:List K} {n:Nat} (r:K) (h:l.length=2*n):cb r (evs l) (cb (-1) (ods l) (evs l))=fdK r l:=by
 have b:=nl l n h
 have a:=mE l n h
 refine lm (by rw [pz (by rw [pz om];omega),a,DN r l n h]) fun m c=> ?_
 rw [nM (by rw [pz om];omega),nM om,q9,rW,DW r l n m h];exact kg
theorem b9G {l:List K} {v:Nat} (r:K) (h:l.length=2^(v+1)):cb r (evs (cfK (v+1) l)) (ods (cfK (v+1) l))=cfK v (fdK r l):=by
 have a:l.length=2*2^v:=by rw [h,aZ];omega
 have e1:=mE l _ a
 have e2:=nl l _ a
 rw [b3L a,b41 a,b6M a,b67 a, <-c0c r (by rw [pz om];omega),c5y r a]
theorem b0b {ρ:Nat} (hρ:ρ<=3): ∀(P:List K) (v:Nat) (t:List K),P.length<=v->v<=6->t.length=2^v->wdK (v+ρ) (Enc v ρ (cfK v t)) P=Enc (v-P.length) ρ (cfK (v-P.length) (Fy P t))
 |[],v,t,_,_,_=>rfl
 |r::P,v,t,b,d,a=>by
  rw [ab] at b
  obtain ⟨u,rfl⟩: ∃u,v=u+1:=⟨v-1,by omega⟩
  have c:t.length=2*2^u:=by rw [a,aZ];omega
  rw [wdK,show u+1+ρ-1=u+ρ by omega,b3r r om (by rw [vD];exact a),b9G r a,b0b hρ P u _ om om (DN r t _ c),ab,show u+1-(P.length+1)=u-P.length by omega];rfl
theorem a5X: ∀(n:Nat) (x:K),ev (List.replicate n 0) x=0
 |0,_=>rfl
 |n+1,x=>by rw [nR,ev,a5X n x];exact kg
theorem b8h (ρ:Nat) (hρ:ρ<=9) (a:K) (j:Nat) (b:j<2^ρ):(Enc 0 ρ [a]).getD j 0=a:=by
 have c:=K9 ρ hρ
 unfold Enc
 rw [ce,c1C ρ _ _ (tn (by simp;omega)) (c0t om) j b,EE,b3e,a5X,ev,ev]
 clear c b
 exact kg
end
section
def eaK:List K->List K->K->K
 |x::A,b::B,c=>eaK A B (c*(x*b+(1-x)*(1-b)))
 |_,_,c=>c
theorem c0g (r c:K): ∀l:List K,fdK r (sc c l)=sc c (fdK r l)
 |[]=>rfl
 |[a]=>rfl
 |a::b::l=>by
  show (c*a+r*(c*b-c*a))::fdK r (sc c l)=(c*(a+r*(b-a)))::sc c (fdK r l)
  rw [c0g r c l,show c*a+r*(c*b-c*a)=c*(a+r*(b-a)) from kg]
theorem b05 (c:K): ∀(R l:List K),Fy R (sc c l)=sc c (Fy R l)
 |[],l=>rfl
 |r::R,l=>by
  show Fy R (fdK r (sc c l))=sc c (Fy R (fdK r l))
  rw [c0g,b05 c R]
theorem a6s (r p:K): ∀E:List K,fdK r (gK E (B4 [1] p))=sc (r*p+(1-r)*(1-p)) E
 |[]=>rfl
 |e::E=>by
  show (1*(1-p)*e+r*(1*p*e-1*(1-p)*e))::fdK r (gK E (B4 [1] p))=((r*p+(1-r)*(1-p))*e)::sc _ E
  rw [a6s r p E,show 1*(1-p)*e+r*(1*p*e-1*(1-p)*e)=(r*p+(1-r)*(1-p))*e from kg]
theorem a3i: ∀(R P:List K) (c:K),R.length=P.length->c*(Fy R (eqK P)).getD 0 0=eaK R P c
 |[],[],c,_=>by show c*1=c;exact kg
 |[],p::P,c,h=>by simp at h
 |r::R,[],c,h=>by simp at h
 |r::R,p::P,c,h=>by
  rw [ab,ab] at h
  show c*(Fy R (fdK r (eqK (p::P)))).getD 0 0=eaK R P (c*(r*p+(1-r)*(1-p)))
  rw [a1o,a6s,b05,c3Y, <-a3i R P _ om];exact kg
theorem Vc (f:Nat->K): ∀n,sR (n+1) f=f 0+sR n fun k=>f (k+1)
 |0=>by show (0:K)+f 0=f 0+0;exact kg
 |n+1=>by rw [sR,Vc f n,sR];exact kg
theorem a4x: ∀(t e:List K),t.length=e.length->sR t.length (fun k=>t.getD k 0*e.getD k 0)=jg t e
 |[],[],_=>rfl
 |[],b::e,h=>by simp at h
 |a::t,[],h=>by simp at h
 |a::t,b::e,h=>by
  rw [ab,Vc]
  show a*b+sR t.length (fun k=>t.getD k 0*e.getD k 0)=a*b+jg t e
  rw [a4x t e (by simpa using h)]
theorem a5n {t e:List K} {n:Nat} (a:t.length=n) (b:e.length=n):wE 1 [t,e] n=jg t e:=by
 rw [<-a4x t e om,a];rfl
def Nc:Nat->List K->List K->List (List UInt8)
 |_,_,[]=>[]
 |m,W,r::P=>wrK (m-1) W::Nc (m-1) (fwK (m-1) W r) P
theorem VI: ∀(P:List K) (m:Nat) (W:List K),P≠[]->wrK (m-1) W::B9 m W P=Nc m W P
 |[],_,_,h=>absurd rfl h
 |[r],m,W,_=>rfl
 |r::r2::P,m,W,_=>by
  rw [B9,Nc, <-VI (r2::P) (m-1) _ sm,a7 sm,b8,show m-1-1=m-2 by omega]
theorem a5q: ∀(P:List K) (m:Nat) (W:List K) (j:Nat),j+1<P.length->(B9 m W P).getD j []=wrK (m-(j+1)-1) (wdK m W (P.take (j+1)))
 |[],_,_,j,h=>by simp at h
 |[r],m,W,j,h=>by simp at h
 |r::r2::P,m,W,0,_=>by
  rw [B9,a7 sm,b8,show m-(0+1)-1=m-2 by omega];rfl
 |r::r2::P,m,W,j+1,h=>by
  rw [B9,a7 sm,b8,show m-(j+1+1)-1=m-1-(j+1)-1 by omega]
  exact a5q (r2::P) (m-1) _ j (by simpa using h)
def Hd (a b:K):List UInt8:=[a.1,b.1].flatMap e8
def b7L (due:Option K) (x:K):Prop:= ∃d,due=some d/\x≠d
noncomputable instance c2U (due:Option K) (x:K):Decidable (b7L due x):=Classical.propDecidable _
noncomputable def qcK (l:K):Nat->List (List UInt8)->List K->List (List (List UInt8))->List K->Nat->Option K->Int
 |m,rt::rts,a::b::prs,p::pths,r::P,k,due=>
  if (H (vY (k%2^(m-1)) (Hd a b) p (m-1))==rt)=false then 9
  else if b7L due (if 2^(m-1)<=k then b else a) then 12
  else qcK l (m-1) rts prs pths P (k%2^(m-1)) (some (fpK m (k%2^(m-1)) a b r))
 |_,_,_,_,_,_,due=>if due=some l then 0 else 13
noncomputable def qsC (l:K) (m:Nat) (rts:List (List UInt8)) (D:List K):List Int->List cw->Int
 |p::ps,q::qs=>if qcK l m rts (q.Pairs.map toK) q.Paths D p.toNat none=0 then qsC l m rts D ps qs else qcK l m rts (q.Pairs.map toK) q.Paths D p.toNat none
 |_,_=>0
theorem a4S (l:K): ∀(P:List K) (m:Nat) (W:List K) (k:Nat) (due:Option K),W.length=2^m->P.length<=m->m<=9->k<2^m->(∀d,due=some d->d=W.getD k 0)->(P=[]->due≠none)->(∀j,j<2^(m-P.length)->(wdK m W P).getD j 0=l)->
 qcK l m (Nc m W P) (prK m (Cv m W P) k) (ptK m (Cv m W P) k) P k due=0
 |[],m,W,k,due,s,o,t,p,b,hn,f=>by
  have e:=f k (by rw [ah,nv];exact p)
  cases due with
  |none=>exact absurd rfl (hn rfl)
  |some d=>
   have i:=b d rfl
   have u:d=l:=i.trans e
   subst u
   show (if some d=some d then (0:Int) else 13)=0
   rw [aa rfl]
 |r::P,m,W,k,due,s,o,t,p,b,hn,f=>by
  rw [ab] at o
  obtain ⟨q,rfl⟩: ∃q,m=q+1:=⟨m-1,by omega⟩
  have w:=K9 q om
  have x:2^(q+1)=2*2^q:=by rw [aZ];omega
  have hat:k%2^q<2^q:=fN _ om
  have a:H (vY (k%2^q) (Hd (W.getD (k%2^q) 0) (W.getD (k%2^q+2^q) 0)) (w6 ((lvK q W).map hL) q (k%2^q)) q)=wrK q W:=by
   have:=b3w (l:=lvK q W) (Hl q W) hat
   rw [show (lvK q W).getD (k%2^q) []=Hd (W.getD (k%2^q) 0) (W.getD (k%2^q+2^q) 0) by simp [lvK,hat];rfl] at this
   exact this
  have c:(if 2^q<=k then W.getD (k%2^q+2^q) 0 else W.getD (k%2^q) 0)=W.getD k 0:=by
   split
   ·rename_i h
    rw [show k%2^q+2^q=k by rw [Nat.mod_eq_sub_mod h,js om];omega]
   ·rename_i h
    rw [js om]
  have n:fpK (q+1) (k%2^q) (W.getD (k%2^q) 0) (W.getD (k%2^q+2^q) 0) r=(fwK q W r).getD (k%2^q) 0:=by rw [fwK,xj hat]
  have ih:=a4S l P q (fwK q W r) (k%2^q) (some (fpK (q+1) (k%2^q) (W.getD (k%2^q) 0) (W.getD (k%2^q+2^q) 0) r)) (HJ _ _ _) om om hat (fun d b=>by cases b;exact n) (fun _ h=>by cases h) (fun j v=>f j (by rw [ab,show q+1-(P.length+1)=q-P.length by omega];exact v))
  simp only [Nc,Cv,prK,ptK,qcK,cU]
  rw [a7 (by rw [a];simp),a7 (by rintro ⟨d,i,e⟩;rw [c] at e;exact e (b d i).symm)]
  exact ih
def bvO (v:Nat) (rts:List (List UInt8)) (j:Nat) (s:Source):Source:=if j+1<v then tkM s (rts.getD j []) else s
theorem b4i (v:Nat) (rts:List (List UInt8)):c2Z (bvO v rts):=fun j s k h a=>by
 unfold bvO;split
 ·exact h.take _
 ·exact h.mono om
noncomputable def chC (m bits nq:Nat) (root:List UInt8) (P:List K) (rts:List (List UInt8)) (l:K) (nonce:Int) (qs:List cw) (q:Int×List K×K×Source):Int:=
 if q.1=0 then
  if l*eaK q.2.1 P 1=q.2.2.1 then
   if tA (rsM q.2.2.2 [l]).State bits nonce=true then qsC l m (root::rts) q.2.1 (plM (drL (tkM (rsM q.2.2.2 [l]) (lG nonce)) nq) ((2^(m-1):Nat):Int)) qs
   else 14
  else 11
 else q.1
def chS (nq:Nat) (l:K) (nonce:Int) (q:Int×List K×K×Source):Source:=drS (tkM (rsM q.2.2.2 [l]) (lG nonce)) nq
variable {v ρ:Nat} {t P:List K} {s:Source} {k:Int}
theorem a68 {l:K} {m:Nat} {D W:List K} (b:W.length=2^m) (c:D.length<=m) (f:m<=9) (a:D≠[]) (i: ∀j,j<2^(m-D.length)->(wdK m W D).getD j 0=l): ∀ps:List Int,(∀p∈ps,0<=p/\p<((2^m:Nat):Int))->qsC l m (Nc m W D) D ps (ps.map (qsM m (Cv m W D)))=0
 |[],_=>rfl
 |p::ps,h=>by
  have q:=h p sm
  have k:=a4S l D m W p.toNat none b c f om (fun d n=>by cases n) (fun h=>absurd h a) i
  have e:((qsM m (Cv m W D) p).Pairs).map toK=prK m (Cv m W D) p.toNat:=by
   show (kv (prK m (Cv m W D) p.toNat)).map toK=_
   rw [kv,fb]
   refine (bk fun x _=> ?_).trans (jR _)
   exact K.ext (tQ x.2)
  rw [aM,qsC,e]
  rw [show (qsM m (Cv m W D) p).Paths=ptK m (Cv m W D) p.toNat from rfl,aa k,a68 b c f a i ps fun x o=>h x (by simp [o])]
theorem b9n {nq bits n:Nat} (d:t.length=2^v) (a:P.length=v) (h:1<=v) (o:v<=6) (hρ:ρ<=3) (i:vA (opS v ρ t P s).State bits=some n) (l:Few s k) (p:k<=800) (q:nq<=8):
 vfM 1 (bvO v (B9 (v+ρ) (opW v ρ t) (opQ v ρ t P s).2.1)) (opQ v ρ t P s).1 0 (jg t (eqK P)) s=(0,(opQ v ρ t P s).2.1,opL v ρ t P s*eaK (opQ v ρ t P s).2.1 P 1,(opQ v ρ t P s).2.2.2):=by
 have b:=PA v ρ t P s
 have key:=a5F (kind:=1) (bh:=bhO v ρ (opW v ρ t)) (bv:=bvO v (B9 (v+ρ) (opW v ρ t) (opQ v ρ t P s).2.1)) v [] [t,eqK P] s (b88 d a) (fun j r s'=>by
  rw [ah,bA,ce]
  show bvO v (B9 (v+ρ) (opW v ρ t) (opQ v ρ t P s).2.1) j s'=bhO v ρ (opW v ρ t) ((opQ v ρ t P s).2.1.take (j+1)) s'
  rw [bvO,bhO,aD,b.2,dp om]
  by_cases c:j+1<v
  ·rw [aa c,aa c,a5q _ _ _ _ (by rw [b.2];exact c)]
  ·rw [a7 c,a7 c])
 rw [a5n d (by rw [DF,a]),ah] at key
 refine key.trans ?_
 have e:(opQ v ρ t P s).2.2.1.getD 1 []=Fy (opQ v ρ t P s).2.1 (eqK P):=Tk 1 v [] [t,eqK P] s
 have f:=a3i (opQ v ρ t P s).2.1 P 1 (by rw [b.2,a])
 have m:wE 1 (opQ v ρ t P s).2.2.1 1=opL v ρ t P s*eaK (opQ v ρ t P s).2.1 P 1:=by
  rw [VQ,cmK,aa rfl,CX,CX,e, <-f]
  show opL v ρ t P s*_=_
  generalize (Fy (opQ v ρ t P s).2.1 (eqK P)).getD 0 0=y
  generalize opL v ρ t P s=x
  clear f e key i l
  exact kg
 rw [<-m];rfl
theorem b82 {nq bits n:Nat} (i:t.length=2^v) (w:P.length=v) (z:1<=v) (hv:v<=6) (hρ:ρ<=3) (hg:vA (opS v ρ t P s).State bits=some n) (l:Few s k) (hk:k<=800) (p:nq<=8):
 chC (v+ρ) bits nq (wrK (v+ρ-1) (opW v ρ t)) P (B9 (v+ρ) (opW v ρ t) (opQ v ρ t P s).2.1) (opL v ρ t P s) n (opO v ρ nq n t P s).Queries (0,(opQ v ρ t P s).2.1,opL v ρ t P s*eaK (opQ v ρ t P s).2.1 P 1,(opQ v ρ t P s).2.2.2)=0:=by
 have m:=PA v ρ t P s
 have o:=Ro hg
 have hfT:=a6u (v:=v) (ρ:=ρ) (t:=t) (P:=P) l om n
 have hk0:0<=k:=by have:=l.2;have:=l.1.4;omega
 have c:(opQ v ρ t P s).2.1≠[]:=fun h=>by rw [h,ah] at m;omega
 have hpp:=K9 (v+ρ-1) om
 have hpq:2^(v+ρ)=2*2^(v+ρ-1):=by
  obtain ⟨q,p⟩: ∃q,v+ρ=q+1:=⟨v+ρ-1,by omega⟩
  rw [p,cU,aZ];omega
 have d: ∀j,j<2^(v+ρ-(opQ v ρ t P s).2.1.length)->(wdK (v+ρ) (opW v ρ t) (opQ v ρ t P s).2.1).getD j 0=opL v ρ t P s:=fun j r=>by
  have e:(opQ v ρ t P s).2.2.1.getD 0 []=Fy (opQ v ρ t P s).2.1 t:=Tk 0 v [] [t,eqK P] s
  have f:(Fy (opQ v ρ t P s).2.1 t).length=1:=by
   rw [<-e]
   have:=RX (kind:=1) (bh:=bhO v ρ (opW v ρ t)) v [] [t,eqK P] s (b88 i w)
   exact this.tab 0 (by rw [this.len];omega)
  rw [opW,b0b hρ _ v t om hv i,m.2,kI]
  rw [m.2,show v+ρ-v=ρ by omega] at r
  unfold opL
  rw [e]
  match u:Fy (opQ v ρ t P s).2.1 t,f with
  |[a],_=>exact b8h ρ om a j r
 unfold chC
 rw [aa rfl,aa rfl,aa (show tA (rsM (opQ v ρ t P s).2.2.2 [opL v ρ t P s]).State bits n=true from o.2.1)]
 rw [VI _ _ _ c]
 exact a68 (Ev i) om om c d _ fun x u=>by
  obtain ⟨y,hy,rfl⟩:=bf.1 u
  have h0:=dD y.A (b:=((2^(v+ρ-1):Nat):Int)) om
  have h3:=cW y.A (b:=((2^(v+ρ-1):Nat):Int)) om
  omega
end
section
theorem c7b: ∀i:Nat,i<512-> ∀j:Nat,j<9->(de .i64 (cc .i64 (i:Int) (j:Int)) 1==1)=decide (i/2^j%2=1):=by decide+kernel
theorem c1Z {i k:Nat} {leaf:Tx} {path:List Tx} (hi:i<512) (l:k<=9) (m:leaf.length<=1000) (b:path.length=k) (a:Hs path):MC i leaf path=some (Pd i leaf path k):=by
 unfold MC
 rw [Iu om,obs,b]
 have key:Loop (rH i path k) ([Qw leaf],0)=some (Pd i leaf path k,(k:Int),false):=by
  refine bq (step:=rH i path k) (fun j=>(Pd i leaf path j,(j:Int))) k (fun j n=> ?_) ?_
  ·have o:=a.getD (k:=j) om
   have p:=Fk (vY i leaf path j)
   simp only [rH]
   have e:=Zb (i:=i) (leaf:=leaf) (path:=path) (am j)
   rw [cJ (by rw [AH];omega),Option.some.injEq] at e
   have e2:(Pd i leaf path j)[(j:Int).toNat]? =some (vY i leaf path j):=by
    rw [aY,AO (by rw [AH];omega),e]
   have d:(vY i leaf path j).length<=100000000:=by
    cases j with
    |zero=>simp only [vY,Qw,ab];omega
    |succ j=>
     have f:=a.getD (k:=j) om
     have h:=Fk (vY i leaf path j)
     simp only [vY]
     split<;>simp only [RA,ab,a8]<;>omega
   rw [brd om,a0U om,obs,brd om,brd (by rw [AH];omega),e2,obs,xL d,obs,brd om,c7b i hi j om]
   by_cases c:i/2^j%2=1
   ·rw [brd c,CG om om,obs,aS (by simp only [a8,AH,ag];omega),ai _ om om,Pd,Pd,qQ _ (j+1)]
    simp only [vY,aa c];rfl
   ·rw [brn c,CG om om,obs,aS (by simp only [a8,AH,ag];omega),ai _ om om,Pd,Pd,qQ _ (j+1)]
    simp only [vY,a7 c];rfl
  ·simp only [rH]
   rw [brn om,ae om]
 rw [key];rfl
theorem c0M {root:Tx} {i k:Nat} {leaf:Tx} {path:List Tx} (hi:i<512) (b:k<=9) (h:leaf.length<=64) (c:path.length=k) (a:Hs path):HL root ((2^k:Nat):Int) i leaf path=some (H (vY i leaf path k)==root):=by
 unfold HL
 have d:(vY i leaf path k).length<=100000000:=by
  cases k with
  |zero=>simp only [vY,Qw,ab];omega
  |succ j=>
   have e:=a.getD (k:=j) om
   have f:=Fk (vY i leaf path j)
   simp only [vY]
   split<;>simp only [RA,ab,a8]<;>omega
 rw [brn om,c0E k b,obs,m9 om,c2H om a,obs,bu,c1Z hi b om c a,obs,AH,ai _ om om,show (((k+1:Nat):Int))-1=(k:Int) by omega,Zb (am k),obs,xL d];rfl
theorem b1R: ∀k:Nat,k<=9->ct .i64 1 (k:Int)=((2^k:Nat):Int):=by decide+kernel
end
section
theorem b4F {l:List K} {j:Nat} (k:l.length<=64) (b:j<6):Loop (fO ((2^j:Nat):Int) (l.length:Int)) (kv l,0)=some (kv (stK l j),(l.length:Int),false):=by
 have key:=bq (step:=fO ((2^j:Nat):Int) (l.length:Int)) (fun i=>(kv (stP l j i),(i:Int))) l.length (e:=(kv (stK l j),(l.length:Int),false)) (fun i hi=> ?_) ?_
 ·have key':Loop (fO ((2^j:Nat):Int) (l.length:Int)) (kv (stP l j 0),0)=_:=key
  rw [b3P] at key';exact key'
 ·simp only [fO]
  have f:=c6R i om j b
  have d:(kv (stP l j i)).length=l.length:=by rw [bB,ER]
  have m:1<=2^j:=Nat.one_le_two_pow
  have a:(de .i64 (i:Int) ((2^j:Nat):Int) !=0)= !decide (i/2^j%2=0):=by rw [bne,f]
  rw [brd om,a]
  by_cases c:i/2^j%2=0
  ·rw [aj c,aQ,bu,ai _ om om,a9Q c];rfl
  ·obtain ⟨n,o,p⟩:=c74 i om j b om
   have h:IntKind.wrap .i64 ((i:Int)-((2^j:Nat):Int))=((i-2^j:Nat):Int):=by rw [ai _ om om];omega
   rw [ae c,lF,dj,h]
   simp only [aY]
   rw [brd om,brd om,KN (by rw [ER];omega),obs,brd om,brd om,KN (by rw [ER];omega),obs,PM hi,a7 om,PM om,a7 om,mX (aI _) (aI _),obs,brd om,brd om,obs,ai _ om om, <-b7k hi om]
   rw [kv,kv,List.map_set];rfl
 ·simp only [fO]
  rw [brn om,ae om,b8N]
theorem Sc {l:List K} {v:Nat} (h:l.length=2^v) (b:v<=6):zQ (kv l)=some (kv (cfK v l)):=by
 have i:=c5C v b
 unfold zQ uW
 have key:=bq (step:=hG) (fun j=>(kv (cfK j l),((2^j:Nat):Int))) v (e:=(kv (cfK v l),((2^v:Nat):Int),false)) (fun j c=> ?_) ?_
 ·have key':Loop hG (kv l,1)=_:=key
  rw [bA,aS (by rw [bB];omega),key'];rfl
 ·have d:2^j<2^v:=Nat.pow_lt_pow_right om c
  have k:1<=2^j:=Nat.one_le_two_pow
  have f:=vD l j
  simp only [hG,bB]
  have a:=b4F (l:=cfK j l) (j:=j) om om
  rw [brd om,a,obs,ai _ om om,aZ];simp [cfK]
 ·have f:=vD l v
  simp only [hG,bB]
  rw [brn om,ae om]
theorem YJ {k:Nat} {W:List K} (a:k+1<=9) (b:W.length=2^(k+1)):Ab (kv W)=some (lvK k W):=by
 have d:=K9 (k+1) a
 have f:2^(k+1)=2*2^k:=by rw [aZ];omega
 have c:=YK k a
 unfold Ab
 rw [bB,b,c]
 have key:=bq (step:=lk (kv W) ((2^k:Nat):Int) ((2^k:Nat):Int)) (fun j=>((List.range j).map (lfK k W),(j:Int))) (2^k) (e:=(lvK k W,((2^k:Nat):Int),false)) (fun j h=> ?_) ?_
 ·have key':Loop (lk (kv W) ((2^k:Nat):Int) ((2^k:Nat):Int)) ([],0)=_:=key
  rw [key'];rfl
 ·simp only [lk]
  rw [brd om,uv om,obs,ai ((j:Int)+_) om om,show (j:Int)+((2^k:Nat):Int)=((j+2^k:Nat):Int) by omega,uv om,obs,ij sm,obs,
   aS (by simp only [a8,aw,dV,ag];omega),ai _ om om,dY,bW,oG];rfl
 ·simp only [lk]
  rw [brn om,ae om];rfl
def wtK (m:Nat) (W:List K):cQ:=⟨kv W,wc ((lvK (m-1) W).map hL) (m-1)⟩
def Da:Nat->List (List K)->List cQ
 |_,[]=>[]
 |m,W::Ws=>wtK m W::Da (m-1) Ws
theorem KJ: ∀(Ws:List (List K)) (m:Nat),(Da m Ws).length=Ws.length
 |[],_=>rfl
 |W::Ws,m=>by rw [Da,ab,KJ Ws,ab]
theorem GI {k:Nat} {W:List K} (a:k+1<=9) (b:W.length=2^(k+1)):AF (kv W)=some (wtK (k+1) W):=by
 unfold AF
 rw [YJ a b,obs,Zg (a9g k W) (Hl k W) om,obs];rfl
theorem Su (k:Nat) (W:List K) (a:k<=9):Ad (wtK (k+1) W).rows=some (wrK k W):=a0N (by rw [aw,cU,Hl]) a
end
section
theorem a1j {ρ:Nat} {V:Int} {bh:List K->Source->Source} (u:b8a bh) (hρ:ρ<=3): ∀(v:Nat) (Q:List K) (T:List (List K)) (W:List K) (s:Source) (k:Int) (pre:List cQ) (R:List (List Ext)) (P:List Ext) (Rt:List (List UInt8)),
 OkT 1 (2^(v+1)) T->W.length=2^(v+1+ρ)->Few s k->k+3*(v+1)<=1000->v+1<=6->R.length+(v+1)<=1000->P.length+(v+1)<=1000->Rt.length+(v+1)<=1000->(pre.length:Int)+v+1=V->V<=1000->
 (∀(P':List K) (s':Source),P'≠[]->P'.length<=v+1->bh (Q++P') s'=if P'.length<v+1 then tkM s' (wrK (v+1+ρ-P'.length-1) (wdK (v+1+ρ) W P')) else s')->
 Loop (ck ([]:List Ext) 1) (pre++[wtK (v+1+ρ) W],R,P,Rt,kvv T,s.Script,s.At,s.State,s.Count,V,0,0,0)=
  some (pre++Da (v+1+ρ) (Cv (v+1+ρ) W (pvM 1 bh (v+1) Q T s).2.1),R++kvv (pvM 1 bh (v+1) Q T s).1,P++kv (pvM 1 bh (v+1) Q T s).2.1,Rt++B9 (v+1+ρ) W (pvM 1 bh (v+1) Q T s).2.1,kvv (pvM 1 bh (v+1) Q T s).2.2.1,false,
   (pvM 1 bh (v+1) Q T s).2.2.2.Script,(pvM 1 bh (v+1) Q T s).2.2.2.At,(pvM 1 bh (v+1) Q T s).2.2.2.State,(pvM 1 bh (v+1) Q T s).2.2.2.Count,V,0,0,0):=by
 intro v
 induction v with
 |zero=>
  intro Q T W s k pre R P Rt d o l w x y z h3 hV m f
  have hl:=d.len
  have a:=d
  rw [zp] at a
  have i:W.length=2^(ρ+1):=by rw [o];congr 1;omega
  have c:=f [rdM s (rdK 1 T (2^0))] (nsM s (rdK 1 T (2^0))) sm sm
  rw [a7 sm] at c
  have j:ur 1 (kvv T)=some (kv (rdK 1 T (2^0))):=DP a om
  have ho:=(d.up (rdM s (rdK 1 T (2^0))))
  have b:(pre++[wtK (0+1+ρ) W])[pre.length]? =some (wtK (0+1+ρ) W):=by simp
  rw [dt (s':=(pre++[wtK (0+1+ρ) W],R++[kv (rdK 1 T (2^0))],P++[(rdM s (rdK 1 T (2^0))).1],Rt,kvv (bdK (rdM s (rdK 1 T (2^0))) T),(nsM s (rdK 1 T (2^0))).Script,(nsM s (rdK 1 T (2^0))).At,(nsM s (rdK 1 T (2^0))).State,(nsM s (rdK 1 T (2^0))).Count,V,0,0,0)) ?_]
  ·rw [dx (e:=(pre++[wtK (0+1+ρ) W],R++[kv (rdK 1 T (2^0))],P++[(rdM s (rdK 1 T (2^0))).1],Rt,kvv (bdK (rdM s (rdK 1 T (2^0))) T),false,(nsM s (rdK 1 T (2^0))).Script,(nsM s (rdK 1 T (2^0))).At,(nsM s (rdK 1 T (2^0))).State,(nsM s (rdK 1 T (2^0))).Count,V,0,0,0)) ?_]
   ·simp only [pvM,c,B9,Cv,Da,kvv,kv,aM,eu,ah,reduceIte,bM]
   ·simp only [ck]
    rw [b1z (by simp [bdK];omega),obs,bB,ho.tab 0 (by simp [bdK];omega),brn dcd,ae dcd]
  ·simp only [ck,oY]
   rw [b1z om,obs,bB,d.tab 0 om,brd dcd,j,obs,show Source.mk s.Script s.At s.State s.Count=s from rfl,A1 l.1 (by rw [Hp];omega),obs,ZZ l,obs]
   dsimp only
   rw [DJ a om,obs,aS (by rw [a8,ag];omega),aS (by rw [a8,ag];omega),a8,ag,ai (((pre.length+1:Nat):Int)-1) om om,show ((pre.length+1:Nat):Int)-1=(pre.length:Int) by omega]
   simp only [aY]
   rw [brd om,brd om,b,obs]
   rw [show (wtK (0+1+ρ) W).word=kv W from rfl,Iz _ om i,obs,bre om,obs]
 |succ v ih=>
  intro Q T W s k pre R P Rt d o l w x y z h3 hV m f
  have hl:=d.len
  have hp:=c4t (v+1) om
  have a:=d
  rw [zp] at a
  have p:v+1+1+ρ-1=v+1+ρ:=by omega
  have i:W.length=2^(v+1+ρ+1):=by rw [o];congr 1;omega
  have c:=f [rdM s (rdK 1 T (2^(v+1)))] (nsM s (rdK 1 T (2^(v+1)))) sm sm
  simp only [wdK,ag,p] at c
  rw [aa om,show v+1+ρ-1=v+ρ by omega] at c
  have q: ∀(P':List K) (s':Source),P'≠[]->P'.length<=v+1->bh (Q++[rdM s (rdK 1 T (2^(v+1)))]++P') s'=if P'.length<v+1 then tkM s' (wrK (v+1+ρ-P'.length-1) (wdK (v+1+ρ) (fwK (v+1+ρ) W (rdM s (rdK 1 T (2^(v+1))))) P')) else s':=fun P' s' hne hle=>by
   have:=f (rdM s (rdK 1 T (2^(v+1)))::P') s' sm (by rw [ab];omega)
   rw [aP,b8,this,ab,wdK,p,show v+1+1+ρ-(P'.length+1)-1=v+1+ρ-P'.length-1 by omega]
   by_cases hc:P'.length<v+1
   ·rw [aa hc,aa om]
   ·rw [a7 hc,a7 om]
  have j:ur 1 (kvv T)=some (kv (rdK 1 T (2^(v+1)))):=DP a om
  have b:(pre++[wtK (v+1+1+ρ) W])[pre.length]? =some (wtK (v+1+1+ρ) W):=by simp
  have h:(pre++[wtK (v+1+1+ρ) W]++[wtK (v+1+ρ) (fwK (v+1+ρ) W (rdM s (rdK 1 T (2^(v+1)))))])[pre.length+1]? =some (wtK (v+1+ρ) (fwK (v+1+ρ) W (rdM s (rdK 1 T (2^(v+1)))))):=by simp
  have n:=JD l om (rdK 1 T (2^(v+1)))
  have r:=ih (Q++[rdM s (rdK 1 T (2^(v+1)))]) (bdK (rdM s (rdK 1 T (2^(v+1)))) T) (fwK (v+1+ρ) W (rdM s (rdK 1 T (2^(v+1))))) (bh (Q++[rdM s (rdK 1 T (2^(v+1)))]) (nsM s (rdK 1 T (2^(v+1))))) (k+2+1) (pre++[wtK (v+1+1+ρ) W])
   (R++[kv (rdK 1 T (2^(v+1)))]) (P++[(rdM s (rdK 1 T (2^(v+1)))).1]) (Rt++[wrK (v+ρ) (fwK (v+1+ρ) W (rdM s (rdK 1 T (2^(v+1)))))]) (d.up _) (HJ _ _ _) (u _ _ _ n om) om om (by rw [a8,ag];omega) (by rw [a8,ag];omega) (by rw [a8,ag];omega)
   (by rw [a8,ag];omega) m q
  have t:=(NE (kind:=1) (bh:=bh) (v+1) (Q++[rdM s (rdK 1 T (2^(v+1)))]) (bdK (rdM s (rdK 1 T (2^(v+1)))) T) (bh (Q++[rdM s (rdK 1 T (2^(v+1)))]) (nsM s (rdK 1 T (2^(v+1)))))).2
  rw [dt (s':=(pre++[wtK (v+1+1+ρ) W]++[wtK (v+1+ρ) (fwK (v+1+ρ) W (rdM s (rdK 1 T (2^(v+1)))))],R++[kv (rdK 1 T (2^(v+1)))],P++[(rdM s (rdK 1 T (2^(v+1)))).1],Rt++[wrK (v+ρ) (fwK (v+1+ρ) W (rdM s (rdK 1 T (2^(v+1)))))],kvv (bdK (rdM s (rdK 1 T (2^(v+1)))) T),(bh (Q++[rdM s (rdK 1 T (2^(v+1)))]) (nsM s (rdK 1 T (2^(v+1))))).Script,(bh (Q++[rdM s (rdK 1 T (2^(v+1)))]) (nsM s (rdK 1 T (2^(v+1))))).At,(bh (Q++[rdM s (rdK 1 T (2^(v+1)))]) (nsM s (rdK 1 T (2^(v+1))))).State,(bh (Q++[rdM s (rdK 1 T (2^(v+1)))]) (nsM s (rdK 1 T (2^(v+1))))).Count,V,0,0,0)) ?_]
  ·rw [r]
   have e1:pvM 1 bh (v+1+1) Q T s=(rdK 1 T (2^(v+1))::(pvM 1 bh (v+1) (Q++[rdM s (rdK 1 T (2^(v+1)))]) (bdK (rdM s (rdK 1 T (2^(v+1)))) T) (bh (Q++[rdM s (rdK 1 T (2^(v+1)))]) (nsM s (rdK 1 T (2^(v+1)))))).1,
    rdM s (rdK 1 T (2^(v+1)))::(pvM 1 bh (v+1) (Q++[rdM s (rdK 1 T (2^(v+1)))]) (bdK (rdM s (rdK 1 T (2^(v+1)))) T) (bh (Q++[rdM s (rdK 1 T (2^(v+1)))]) (nsM s (rdK 1 T (2^(v+1)))))).2.1,
    (pvM 1 bh (v+1) (Q++[rdM s (rdK 1 T (2^(v+1)))]) (bdK (rdM s (rdK 1 T (2^(v+1)))) T) (bh (Q++[rdM s (rdK 1 T (2^(v+1)))]) (nsM s (rdK 1 T (2^(v+1)))))).2.2):=rfl
   rw [e1]
   simp only [B9,Cv,Da,p,t,kvv,kv,aM,aP,b8,show v+1+1+ρ-2=v+ρ by omega]
   rw [a7 om];rfl
  ·simp only [ck,oY]
   rw [b1z om,obs,bB,d.tab 0 om,zp,brd om,j,obs,show Source.mk s.Script s.At s.State s.Count=s from rfl,A1 l.1 (by rw [Hp];omega),obs,ZZ l,obs]
   dsimp only
   rw [DJ a om,obs,aS (by rw [a8,ag];omega),aS (by rw [a8,ag];omega),show (pre++[wtK (v+1+1+ρ) W]).length=pre.length+1 by simp,ai (((pre.length+1:Nat):Int)-1) om om,show ((pre.length+1:Nat):Int)-1=(pre.length:Int) by omega]
   simp only [aY]
   rw [brd om,brd om,b,obs]
   rw [show (wtK (v+1+1+ρ) W).word=kv W from rfl,Iz _ om i,obs,cn om,GI (k:=v+ρ) om (by rw [HJ];congr 1;omega),obs,show v+ρ+1=v+1+ρ by omega]
   rw [show (pre++[wtK (v+1+1+ρ) W]++[wtK (v+1+ρ) (fwK (v+1+ρ) W (rdM s (rdK 1 T (2^(v+1)))))]).length=pre.length+1+1 by simp,aS om,ai (((pre.length+1+1:Nat):Int)-1) om om,show ((pre.length+1+1:Nat):Int)-1=((pre.length+1:Nat):Int) by omega]
   simp only [aY]
   rw [brd om,brd om,h,obs,show v+1+ρ=v+ρ+1 by omega,Su _ _ om,obs,aS (by rw [a8,ag];omega),aS (by rw [PX];omega),my n.1.3 (by rw [PX];omega),obs,obs,show v+ρ+1=v+1+ρ by omega,c]
end
section
theorem a0F (p q:Nat):p%2^(q+1)%2^q=p%2^q:=Nat.mod_mod_of_dvd p ⟨2,by rw [aZ]⟩
theorem b9z: ∀(Ws:List (List K)) (m p:Nat),ZY m Ws->prK m Ws (p%2^m)=prK m Ws p
 |[],_,_,_=>rfl
 |W::Ws,m,p,h=>by
  obtain ⟨q,rfl⟩: ∃q,m=q+1:=⟨m-1,by have:=h.2.1;omega⟩
  simp only [prK,cU,a0F]
theorem b5S: ∀(Ws:List (List K)) (m p:Nat),ZY m Ws->ptK m Ws (p%2^m)=ptK m Ws p
 |[],_,_,_=>rfl
 |W::Ws,m,p,h=>by
  obtain ⟨q,rfl⟩: ∃q,m=q+1:=⟨m-1,by have:=h.2.1;omega⟩
  simp only [ptK,cU,a0F]
theorem KC {l5:List (List UInt8)} {l6:List cw} {t5:List Int} {t6 t7 N c17 c19 c20 c21 c22 c23 c24 c25 c27 c28 c29 c30:Int} {c16:List Ext} {c18:List UInt8} {c26:List (List Ext)}: ∀(Ws:List (List K)) (pre:List cQ) (m p:Nat) (A:List Ext) (B:List (List (List UInt8))),
 ZY m Ws->m<=9->pre.length+Ws.length<=100->A.length+2*Ws.length<=1000->B.length+Ws.length<=1000->p<=1000000->N=((pre++Da m Ws).length:Int)->
 Loop (jL (pre++Da m Ws) l5 l6 (p:Int) t5 t6 t7 N c16 c17 c18 c19 c20 c21 c22 c23 c24 c25 c26 c27 c28 c29 c30) (A,B,(pre.length:Int))=
  some (A++kv (prK m Ws p),B++ptK m Ws p,N,false)
 |[],pre,m,p,A,B,h,e,i,j,k,l,hN=>by
  rw [Da,bM] at hN
  refine dx ?_
  simp only [jL]
  rw [brn om,ae om, <-hN]
  simp [prK,ptK,kv]
 |W::Ws,pre,m,p,A,B,h,e,i,j,k,l,hN=>by
  obtain ⟨n,o,a⟩:=h
  rw [ab] at i j k
  obtain ⟨q,rfl⟩: ∃q,m=q+1:=⟨m-1,by omega⟩
  have t:=K9 (q+1) e
  have u:2^(q+1)=2*2^q:=by rw [aZ];omega
  have r:=YK q e
  have s:p%2^q<2^q:=fN _ om
  have b:(pre++Da (q+1) (W::Ws)).length=pre.length+(Ws.length+1):=by rw [a8,KJ,ab]
  have f:(pre.length:Int)<N:=by rw [hN,b];omega
  have c:(pre++Da (q+1) (W::Ws))[pre.length]? =some (wtK (q+1) W):=by simp [Da]
  have d:(p:Int).tmod ((2^q:Nat):Int)=((p%2^q:Nat):Int):=by rw [dv _ _ om];omega
  have ih:=KC (l5:=l5) (l6:=l6) (t5:=t5) (t6:=t6) (t7:=t7) (N:=N) (c16:=c16) (c17:=c17) (c18:=c18) (c19:=c19) (c20:=c20) (c21:=c21) (c22:=c22) (c23:=c23) (c24:=c24) (c25:=c25) (c26:=c26) (c27:=c27) (c28:=c28) (c29:=c29) (c30:=c30)
   Ws (pre++[wtK (q+1) W]) q p (A++[(W.getD (p%2^q) 0).1,(W.getD (p%2^q+2^q) 0).1]) (B++[w6 ((lvK q W).map hL) q (p%2^q)]) a om (by rw [a8,ag];omega)
   (by rw [a8];simp only [ab,ah];omega) (by rw [a8,ag];omega) om (by rw [hN,b,aP,a8,b8,ab,KJ])
  rw [aP,b8,a8,ag] at ih
  rw [dt (s':=(A++[(W.getD (p%2^q) 0).1,(W.getD (p%2^q+2^q) 0).1],B++[w6 ((lvK q W).map hL) q (p%2^q)],((pre.length+1:Nat):Int))) ?_]
  ·rw [show pre++Da (q+1) (W::Ws)=pre++wtK (q+1) W::Da q Ws from rfl,ih]
   simp only [prK,ptK,cU,b9z Ws q p a,b5S Ws q p a]
   simp [kv]
  ·simp only [jL,aY]
   rw [brd f,brd om,brd (by rw [b];omega),c,obs,show (wtK (q+1) W).word=kv W from rfl,bB,n,r,d,brd om,uv om,obs,ai (((p%2^q:Nat):Int)+_) om om,show ((p%2^q:Nat):Int)+((2^q:Nat):Int)=((p%2^q+2^q:Nat):Int) by omega,uv om,obs,
    aS (by rw [a8];simp only [ab,ah];omega),show (wtK (q+1) W).rows=wc ((lvK q W).map hL) q from rfl,a1F (by rw [aw,Hl]) om s,obs,aS (by rw [a8,ag];omega),ai _ om om];rfl
theorem SS {l2:List (List UInt8)} {c2 c4 c5 c6 c7 c8 c9 c10 c12 c13 c14 c15:Int} {c:List Ext} {c3:List UInt8} {c11:List (List Ext)} {Ws:List (List K)} {m:Nat} {pl:List Int} (h:ZY m Ws) (d:m<=9) (i:Ws.length<=100) (k:pl.length<=1000) (e: ∀x∈pl,0<=x/\x<=1000000):
 Loop (iB (Da m Ws) l2 pl (pl.length:Int) c c2 c3 c4 c5 c6 c7 c8 c9 c10 c11 c12 c13 c14 c15) ([],0)=some (pl.map (qsM m Ws),(pl.length:Int),false):=by
 refine bq (step:=iB (Da m Ws) l2 pl (pl.length:Int) c c2 c3 c4 c5 c6 c7 c8 c9 c10 c11 c12 c13 c14 c15) (fun j=>((pl.take j).map (qsM m Ws),(j:Int))) pl.length (fun j a=> ?_) ?_
 ·have f:=e _ (b9 a)
  have b:=KC (l5:=l2) (l6:=(pl.take j).map (qsM m Ws)) (t5:=pl) (t6:=(pl.length:Int)) (t7:=(j:Int)) (N:=((Da m Ws).length:Int)) (c16:=c) (c17:=c2) (c18:=c3) (c19:=c4) (c20:=c5) (c21:=c6) (c22:=c7) (c23:=c8) (c24:=c9) (c25:=c10) (c26:=c11) (c27:=c12) (c28:=c13) (c29:=c14) (c30:=c15)
   Ws [] m (pl[j].toNat) [] [] h d (by rw [ah];omega) (by rw [ah];omega) (by rw [ah];omega) om rfl
  rw [bA,fy f.1,ah] at b
  simp only [iB]
  rw [brd om,cJ a,obs,show ((0:Int))=((0:Nat):Int) from rfl,b,obs,aS (by rw [a8,aw,aD,ag];omega),ai _ om om,cA a,bW];rfl
 ·simp only [iB]
  rw [brn om,ae om,aX om]
variable {v ρ:Nat} {t P:List K} {s:Source} {k:Int}
theorem a7v {st:Setting} {nq bits:Nat} (b:t.length=2^v) (hP:P.length=v) (hv1:1<=v) (hv:v<=6) (hρ:ρ<=3) (hq1:nq<=8) (hb:bits<=12) (e1:st.Rate=(ρ:Int)) (e2:st.Queries=(nq:Int)) (e3:st.Grind=(bits:Int)) (l:Few s k) (hk:k<=800):
 te (kv t) (kv P) st s=some ((Lm v ρ nq bits t P s).1,(Lm v ρ nq bits t P s).2.2,(Lm v ρ nq bits t P s).2.1):=by
 have hk0:0<=k:=by have:=l.2;have:=l.1.4;omega
 have hp:=c5C v hv
 have d:k+3*v<=900:=by omega
 obtain ⟨u,rfl⟩: ∃u,v=u+1:=⟨v-1,by omega⟩
 obtain ⟨q,o⟩: ∃q,u+1+ρ=q+1:=⟨u+ρ,by omega⟩
 have hfQ:=a4z (ρ:=ρ) (t:=t) (P:=P) l d
 have p:=a5U (ρ:=ρ) (t:=t) (P:=P) l d
 have a:=a1j (V:=((u+1:Nat):Int)) (bh:=bhO (u+1) ρ (opW (u+1) ρ t)) (b5r (u+1) ρ _) hρ u [] [t,eqK P] (opW (u+1) ρ t) s k [] [] [] [] (b88 b hP) (Ev b) l om hv (by rw [ah];omega) (by rw [ah];omega) (by rw [ah];omega) (by rw [ah];omega) om (fun P' s' _ _=>rfl)
 have c:OkT 1 1 (opQ (u+1) ρ t P s).2.2.1:=RX (u+1) _ _ _ (b88 b hP)
 have hrl:=(PA (u+1) ρ t P s).2
 have w:=XB (opQ (u+1) ρ t P s).2.1 (u+1+ρ) (opW (u+1) ρ t) (Ev b) om
 have hwl:=Mf (opQ (u+1) ρ t P s).2.1 (u+1+ρ) (opW (u+1) ρ t)
 have hT0:(opQ (u+1) ρ t P s).2.2.1.length=2:=c.len
 have f:=fun c9 c10 c11 c12 c13 c14 c15 c16 l7 l8 l9 l11=>bq (step:=cL l7 l8 l9 l11 (kvv (opQ (u+1) ρ t P s).2.2.1) (((kvv (opQ (u+1) ρ t P s).2.2.1).length:Nat):Int) c9 c10 c11 c12 c13 c14 c15 c16) (fun j=>(kv ((p6 (opQ (u+1) ρ t P s).2.2.1).take j),(j:Int))) (opQ (u+1) ρ t P s).2.2.1.length (e:=(kv (p6 (opQ (u+1) ρ t P s).2.2.1),((opQ (u+1) ρ t P s).2.2.1.length:Int),false)) (fun j hj=>by
  simp only [cL,tG]
  rw [brd om,FF hj,obs,kv0 (by rw [c.tab j hj];omega),obs,aS (by rw [a8,bB,aD,Do,ag];omega),ai _ om om,UJ hj,kvS];rfl) (by
  simp only [cL,tG]
  rw [brn om,ae om,aX (by rw [Do];omega)])
 have hps:dU 1 (kvv [t,eqK P]) s ((u+1:Nat):Int) 0 0 0 [wtK (u+1+ρ) (opW (u+1) ρ t)]=some (kvv (opQ (u+1) ρ t P s).1,kv (opQ (u+1) ρ t P s).2.1,kv (p6 (opQ (u+1) ρ t P s).2.2.1),(opQ (u+1) ρ t P s).2.2.2,((u+1:Nat):Int),0,0,0,Da (u+1+ρ) (Cv (u+1+ρ) (opW (u+1) ρ t) (opQ (u+1) ρ t P s).2.1),B9 (u+1+ρ) (opW (u+1) ρ t) (opQ (u+1) ρ t P s).2.1):=by
  unfold dU
  rw [bA] at a
  rw [a,obs]
  simp only [bA]
  rw [show pvM 1 (bhO (u+1) ρ (opW (u+1) ρ t)) (u+1) [] [t,eqK P] s=opQ (u+1) ρ t P s from rfl]
  have z:=f (opQ (u+1) ρ t P s).2.2.2.Script (opQ (u+1) ρ t P s).2.2.2.At (opQ (u+1) ρ t P s).2.2.2.State (opQ (u+1) ρ t P s).2.2.2.Count ((u+1:Nat):Int) 0 0 0 (Da (u+1+ρ) (Cv (u+1+ρ) (opW (u+1) ρ t) (opQ (u+1) ρ t P s).2.1)) (kvv (opQ (u+1) ρ t P s).1) (kv (opQ (u+1) ρ t P s).2.1) (B9 (u+1+ρ) (opW (u+1) ρ t) (opQ (u+1) ρ t P s).2.1)
  rw [uh] at z
  rw [show (([]:List Ext),(0:Int))=(kv [],((0:Nat):Int)) from rfl,z];rfl
 have hll:p6 (opQ (u+1) ρ t P s).2.2.1=[opL (u+1) ρ t P s,((opQ (u+1) ρ t P s).2.2.1.getD 1 []).getD 0 0]:=by
  match hx:(opQ (u+1) ρ t P s).2.2.1,hT0 with
  |[x,y],_=>simp only [p6,opL,hx];rfl
 unfold te
 rw [Sc b hv,obs,e1,LL (m:=u+1) (t:=ρ) om (by rw [vD];exact b),obs,show Enc (u+1) ρ (cfK (u+1) t)=opW (u+1) ρ t from rfl,GI (k:=q) om (by rw [<-o];exact Ev b),obs,s8 (Al P) (by rw [bB];omega),obs,Gb,bB,hP, <-o,
  show ([kv t,kv (eqK P)]:List (List Ext))=kvv [t,eqK P] from rfl,hps,obs]
 dsimp only
 rw [hll,show kv [opL (u+1) ρ t P s,((opQ (u+1) ρ t P s).2.2.1.getD 1 []).getD 0 0]=[(opL (u+1) ρ t P s).1,(((opQ (u+1) ρ t P s).2.2.1.getD 1 []).getD 0 0).1] from rfl,show atL [(opL (u+1) ρ t P s).1,(((opQ (u+1) ρ t P s).2.2.1.getD 1 []).getD 0 0).1] 0=some (opL (u+1) ρ t P s).1 from rfl,obs,
  show ([(opL (u+1) ρ t P s).1]:List Ext)=kv [opL (u+1) ρ t P s] from rfl,A1 hfQ.1 sm,obs,show rsM (opQ (u+1) ρ t P s).2.2.2 [opL (u+1) ρ t P s]=opS (u+1) ρ t P s from rfl,e3,a4a p.1.3 hb,obs]
 cases hg:vA (opS (u+1) ρ t P s).State bits with
 |none=>
  dsimp only
  rw [Kn hg,brd dcd]
 |some n=>
  have i:=a6u (ρ:=ρ) (t:=t) (P:=P) l d n
  dsimp only
  rw [Kf hg,brn (show ¬((n:Int)<0) from Int.not_lt.2 (vx n)),De,obs,my p.1.3 (by rw [gc];omega),obs,show tkM (opS (u+1) ρ t P s) (lG (n:Int))=opT (u+1) ρ n t P s from rfl,e2,wv i om om,obs,brd (by rw [KJ,hwl];omega)]
  have hgt:(Da (u+1+ρ) (Cv (u+1+ρ) (opW (u+1) ρ t) (opQ (u+1) ρ t P s).2.1))[0]? =some (wtK (u+1+ρ) (opW (u+1) ρ t)):=by
   match hL:(opQ (u+1) ρ t P s).2.1,hrl with
   |r::L,_=>rfl
   |[],h=>exfalso;rw [ah] at h;omega
  have hpq:=K9 q om
  have hpl:=c1Q (NC i om (n:=nq) om) (m:=2^q) om om
  rw [hgt,obs,show (wtK (u+1+ρ) (opW (u+1) ρ t)).word=kv (opW (u+1) ρ t) from rfl,bB,Ev b,o,YK q om,OU (by rw [xg];omega) (NC i om om) om,obs]
  rw [o] at w
  rw [SS w om (by rw [Mf];omega) (by rw [plM,aw,xg];omega) hpl,obs,opO,o,cU]
end
end Go.AI.Fn
