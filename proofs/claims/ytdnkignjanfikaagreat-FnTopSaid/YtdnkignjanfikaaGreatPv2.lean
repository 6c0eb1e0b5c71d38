/- Part. -/
import Derived.Test.YtdnkignjanfikaaGreatPv1
set_option linter.unusedVariables false
set_option linter.unusedSimpArgs false
namespace Go.AI.Fn
section
def QSh:Nat->List (List UInt8)->List K->List (List (List UInt8))->List K->Prop
 |_,[],[],[],[]=>True
 |m,_::rts,_::_::prs,p::pths,_::D=>1<=m/\p.length=m-1/\Hs p/\QSh (m-1) rts prs pths D
 |_,_,_,_,_=>False
def Tq:Option K->Ext
 |none=>e0
 |some d=>d.1
theorem DO {α:Type} {pre l:List α} {x:α} {i:Int} (h:i=(pre.length:Int)):atL (pre++x::l) i=some x:=by subst h;rw [cJ sm];simp
theorem Q8 (pre l:List K):kv (pre++l)=kv pre++kv l:=b0y pre l
theorem Vo {l:K} {M:Nat} {V:Int} {c:List (List Ext)} {c2:List (List UInt8)} {c3 c4 c5:Int} {c6:List cw}: ∀(rts:List (List UInt8)) (prs:List K) (pths:List (List (List UInt8))) (D:List K) (m:Nat) (preR:List (List UInt8)) (preP:List K) (preT:List (List (List UInt8))) (preD:List K) (k:Nat) (due:Option K),
 QSh m rts prs pths D->M<=9->m+preR.length=M->preP.length=2*preR.length->preT.length=preR.length->preD.length=preR.length->V=((preR.length+rts.length:Nat):Int)->preR.length+rts.length<=100->k<2^9->(due=none↔preR.length=0)->(rts=[]->due≠none)->
 (Loop (g8 (kv (preD++D)) ((2^M:Nat):Int) (preR++rts) V c c2 c3 c4 c5 c6 (kv (preP++prs)) (preT++pths)) ((k:Int),(preR.length:Int),(Tq due).A,(Tq due).B)).bind (alt (fun e_2=>some 9) (alt (fun e_3=>some 12) (fun e_4=>br (e_4.2.2.2.1==l.1.A) (br (e_4.2.2.2.2==l.1.B) (some 0) (some 13)) (some 13))))=
  some (qcK l m rts prs pths D k due)
 |[],prs,pths,D,m,preR,preP,preT,preD,k,due,h,hM,hm,h1,h2,h3,hV,hb,hk,hd,hn=>by
  match prs,pths,D,h with
  |[],[],[],_=>
   cases due with
   |none=>exact absurd rfl (hn rfl)
   |some d=>
    rw [dx (e:= .inr (.inr ((k:Int),(preR.length:Int),false,d.1.A,d.1.B))) (by
     simp only [g8,Tq]
     rw [brn (by rw [hV,ah];omega),ae (by rw [hV,ah];omega)])]
    rw [obs,uT,uT]
    dsimp only
    rw [a1H]
    show _=some (if some d=some l then (0:Int) else 13)
    by_cases e:d=l
    ·rw [aa e,aa (by rw [e])]
    ·rw [a7 e,a7 (fun h=>e (cS h))]
 |rt::rts,prs,pths,D,m,preR,preP,preT,preD,k,due,h,hM,hm,h1,h2,h3,hV,hb,hk,hd,hn=>by
  match prs,pths,D,h with
  |a::b::prs,p::pths,r::D,⟨hm1,hpl,hph,hq⟩=>
   obtain ⟨q,rfl⟩: ∃q,m=q+1:=⟨m-1,by omega⟩
   rw [ab] at hV hb
   have hp:=K9 (q+1) om
   have hs:2^(q+1)=2*2^q:=by rw [aZ];omega
   have hsh:cc .i64 ((2^M:Nat):Int) (preR.length:Int)=((2^(q+1):Nat):Int):=by rw [b6S M hM preR.length om,show M-preR.length=q+1 by omega]
   have hh:=YK q om
   have hat:k%2^q<2^q:=fN _ om
   have hmod:(k:Int).tmod ((2^q:Nat):Int)=((k%2^q:Nat):Int):=by rw [dv _ _ om];omega
   have hk2:k%2^q<2^9:=co hat om
   have hcheck:HL rt ((2^q:Nat):Int) ((k%2^q:Nat):Int) (Hd a b) p=some (H (vY (k%2^q) (Hd a b) p q)==rt):=c0M om om (by rw [Hd,iW];simp) om hph
   have ih:=Vo (l:=l) (M:=M) (V:=V) (c:=c) (c2:=c2) (c3:=c3) (c4:=c4) (c5:=c5) (c6:=c6) rts prs pths D q (preR++[rt]) (preP++[a,b]) (preT++[p]) (preD++[r]) (k%2^q) (some (fpK (q+1) (k%2^q) a b r)) hq hM
    (by simp only [a8,ab,ah];omega) (by simp only [a8,ab,ah];omega) (by simp only [a8,ab,ah];omega) (by simp only [a8,ab,ah];omega) (by rw [hV];simp only [a8,ab,ah];omega) (by simp only [a8,ab,ah];omega) hk2 sm sm
   simp only [aP,b8,hO,bA,a8,ag] at ih
   have hR:atL (preR++rt::rts) (preR.length:Int)=some rt:=DO rfl
   have hT:atL (preT++p::pths) (preR.length:Int)=some p:=DO om
   have hD:atL (kv (preD++r::D)) (preR.length:Int)=some r.1:=by rw [Q8];exact DO (by rw [bB];omega)
   have hA:atL (kv (preP++a::b::prs)) (2*(preR.length:Int))=some a.1:=by rw [Q8];exact DO (by rw [bB];omega)
   have hB:atL (kv (preP++a::b::prs)) (2*(preR.length:Int)+1)=some b.1:=by
    rw [show preP++a::b::prs=(preP++[a])++b::prs by simp,Q8];exact DO (by rw [bB,a8,ag];omega)
   have hstep:(H (vY (k%2^q) (Hd a b) p q)==rt)=false/\(∃e,g8 (kv (preD++r::D)) ((2^M:Nat):Int) (preR++rt::rts) V c c2 c3 c4 c5 c6 (kv (preP++a::b::prs)) (preT++p::pths) ((k:Int),(preR.length:Int),(Tq due).A,(Tq due).B)=some (.inr (.inl e)))\/
    (H (vY (k%2^q) (Hd a b) p q)==rt)=true/\b7L due (if 2^q<=k then b else a)/\(∃e,g8 (kv (preD++r::D)) ((2^M:Nat):Int) (preR++rt::rts) V c c2 c3 c4 c5 c6 (kv (preP++a::b::prs)) (preT++p::pths) ((k:Int),(preR.length:Int),(Tq due).A,(Tq due).B)=some (.inr (.inr (.inl e))))\/
    (H (vY (k%2^q) (Hd a b) p q)==rt)=true/\ ¬b7L due (if 2^q<=k then b else a)/\g8 (kv (preD++r::D)) ((2^M:Nat):Int) (preR++rt::rts) V c c2 c3 c4 c5 c6 (kv (preP++a::b::prs)) (preT++p::pths) ((k:Int),(preR.length:Int),(Tq due).A,(Tq due).B)=
     some (.inl (((k%2^q:Nat):Int),((preR.length+1:Nat):Int),(fpK (q+1) (k%2^q) a b r).1.A,(fpK (q+1) (k%2^q) a b r).1.B)):=by
    have hpair:=Jb (k:=q+1) (i:=k%2^q) a b r om om
    simp only [g8,hsh,hh]
    rw [brd om,hR,obs,brd om,brd om,ai (2*(preR.length:Int)) om om,hA,obs,ai (2*(preR.length:Int)+1) om om,hB,obs,ij sm,obs,hT,obs,hmod,show ([a.1,b.1]:List Ext).flatMap e8=Hd a b from rfl,hcheck,obs]
    cases hc:(H (vY (k%2^q) (Hd a b) p q)==rt) with
    |false=>exact .inl ⟨rfl,_,rfl⟩
    |true=>
     refine .inr ?_
     rw [aQ,bu]
     by_cases hlow:k<2^q
     ·have hown:(if 2^q<=k then b else a)=a:=a7 om
      rw [hown,brn om]
      cases due with
      |none=>
       refine .inr ⟨rfl,(by rintro ⟨d,h,_⟩;cases h), ?_⟩
       rw [brn (by have:=hd.1 rfl;omega),hD,obs,hpair,obs,ai _ om om];rfl
      |some d=>
       rw [brd (by have:preR.length≠0:=fun e=>by cases hd.2 e
                   omega)]
       rw [show (Tq (some d))=d.1 from rfl,a1H]
       by_cases e:a=d
       ·rw [aa e]
        refine .inr ⟨rfl,by rintro ⟨x,h,h'⟩;cases h;exact h' e, ?_⟩
        rw [hD,obs,hpair,obs,ai _ om om];rfl
       ·rw [a7 e]
        exact .inl ⟨rfl,⟨d,rfl,e⟩,_,rfl⟩
     ·have hown:(if 2^q<=k then b else a)=b:=aa om
      rw [hown,brd om]
      cases due with
      |none=>
       refine .inr ⟨rfl,(by rintro ⟨d,h,_⟩;cases h), ?_⟩
       rw [brn (by have:=hd.1 rfl;omega),hD,obs,hpair,obs,ai _ om om];rfl
      |some d=>
       rw [brd (by have:preR.length≠0:=fun e=>by cases hd.2 e
                   omega)]
       rw [show (Tq (some d))=d.1 from rfl,a1H]
       by_cases e:b=d
       ·rw [aa e]
        refine .inr ⟨rfl,by rintro ⟨x,h,h'⟩;cases h;exact h' e, ?_⟩
        rw [hD,obs,hpair,obs,ai _ om om];rfl
       ·rw [a7 e]
        exact .inl ⟨rfl,⟨d,rfl,e⟩,_,rfl⟩
   rw [qcK,cU]
   rcases hstep with ⟨hc,e,he⟩|⟨hc,ho,e,he⟩|⟨hc,ho,he⟩
   ·rw [aa hc,dx he,obs,sr]
   ·rw [a7 (by rw [hc];simp),aa ho,dx he,obs,uT,sr]
   ·rw [a7 (by rw [hc];simp),a7 ho,dt he];exact ih
end
section
theorem GC {α:Type} {f:α->List UInt8} {c:Nat}: ∀{l:List α},(∀x∈l,(f x).length<=c)->(l.flatMap f).length<=l.length*c
 |[],_=>by simp
 |x::l,h=>by
  have b:=h x sm
  have d:=GC (l:=l) fun y a=>h y (by simp [a])
  rw [dA,a8,ab,Nat.succ_mul];omega
theorem VK {α:Type} {f:α->List UInt8} {c:Nat}: ∀{l:List α},(∀x∈l,(f x).length=c)->(l.flatMap f).length=l.length*c
 |[],_=>by simp
 |x::l,h=>by
  have b:=h x sm
  have d:=VK (l:=l) fun y a=>h y (by simp [a])
  rw [dA,a8,ab,Nat.succ_mul];omega
theorem a5z {α:Type} {f:α->List UInt8} {l:List α} {j:Nat} (a:j<l.length):(l.take (j+1)).flatMap f=(l.take j).flatMap f++f l[j]:=by
 rw [cA a,List.flatMap_append,List.flatMap_singleton]
theorem Ak {α:Type} {l:List α} {f:α->List UInt8} {c:Nat} {step:List UInt8×Int->Option ((List UInt8×Int)⊕(List UInt8×Int×Bool))} (a:List UInt8) (hc: ∀x∈l,(f x).length<=c) (k:a.length+l.length*c<=1000000)
 (d: ∀(j:Nat) (b:j<l.length) (acc:List UInt8),acc.length+c<=1000000->step (acc,(j:Int))=some (.inl (acc++f l[j],((j+1:Nat):Int)))) (h: ∀acc,step (acc,(l.length:Int))=some (.inr (acc,(l.length:Int),false))):
 Loop step (a,0)=some (a++l.flatMap f,(l.length:Int),false):=by
 have key:=bq (step:=step) (fun j=>(a++(l.take j).flatMap f,(j:Int))) l.length (e:=(a++l.flatMap f,(l.length:Int),false)) (fun j b=> ?_) ?_
 ·have key':Loop step (a++[],0)=_:=key
  rwa [bM] at key'
 ·have m:=GC (l:=l.take j) (f:=f) (c:=c) fun x i=>hc x (cm i)
  have n:(l.take j).length*c+c<=l.length*c:=by
   rw [aD,dp om, <-Nat.succ_mul];exact bg _ b
  rw [d j b _ (by rw [a8];omega),a5z b,aP]
 ·rw [h,bw]
def flB (P:List (List (List UInt8))):List UInt8:=P.flatMap fun x=>x.flatMap id
def qB (q:cw):List UInt8:=q.Pairs.flatMap e8++flB q.Paths
def oB (o:bK):List UInt8:=(o.Rounds.flatMap fun g=>g.flatMap e8)++o.Roots.flatMap id++[o.Last].flatMap e8++lG o.Nonce++o.Queries.flatMap qB
structure BoO (o:bK):Prop where
 rn:o.Rounds.length<=6
 rr: ∀g∈o.Rounds,g.length<=3
 ro:o.Roots.length<=6
 rh: ∀x∈o.Roots,x.length<=32
 qn:o.Queries.length<=8
 qp: ∀q∈o.Queries,q.Pairs.length<=12
 qt: ∀q∈o.Queries,q.Paths.length<=6
 qq: ∀q∈o.Queries, ∀p∈q.Paths,p.length<=8/\ ∀x∈p,x.length<=32
theorem b9l {l:List (List UInt8)}:l.all h32=true↔ ∀x∈l,x.length=32:=by simp [an,h32]
theorem wA {v:Nat} {t:Setting} {q:cw} (h:QA (v:Int) t q=true):q.Pairs.length=2*v/\j7 q.Pairs/\q.Paths.length=v/\ ∀j,j<v->(((q.Paths.getD j []).length:Nat):Int)=v+t.Rate-1-j/\ ∀x∈q.Paths.getD j [],x.length=32:=by
 unfold QA at h
 simp only [aB,aA] at h
 refine ⟨by omega,a0E.1 h.2.1,by omega,fun j a=> ?_⟩
 have:=QY.1 h.2.2.2 j om
 unfold a7P at this
 simp only [aB,aA] at this
 exact ⟨this.1,b9l.1 this.2⟩
structure OkO (o:bK) (v:Nat) (t:Setting):Prop where
 v1:1<=v/\v<=6
 st:setB t=true
 rn:o.Rounds.length=v
 rr: ∀g∈o.Rounds,g.length=3/\j7 g
 ro:o.Roots.length=v-1
 rh: ∀x∈o.Roots,x.length=32
 la:okE o.Last
 no:0<=o.Nonce/\o.Nonce<=65535
 qn:(o.Queries.length:Int)=t.Queries
 qq: ∀q∈o.Queries,QA (v:Int) t q=true
theorem MK {o:bK} {v:Nat} {t:Setting} (h:okO o (v:Int) t=true):OkO o v t:=by
 unfold okO qJ at h
 simp only [aB,aA,an] at h
 obtain ⟨l,b,⟨m,c⟩,n,d,e,f,i,a⟩:=h
 refine ⟨by omega,b,by omega,fun g j=> ?_,by omega,fun x k=> ?_,ve.1 e,f,i,a⟩
 ·have:=c g j
  unfold TM at this
  simp only [aB,aA] at this
  exact ⟨by omega,a0E.1 this.2⟩
 ·have:=d x k
  simpa [h32] using this
theorem OkO.path {o:bK} {v:Nat} {t:Setting} (h:OkO o v t) {q:cw} (a:q∈o.Queries) {p:List (List UInt8)} (b:p∈q.Paths):p.length<=8/\ ∀x∈p,x.length=32:=by
 obtain ⟨_,_,e,c⟩:=wA (h.qq q a)
 obtain ⟨j,d,rfl⟩:=bp b
 have:=c j om
 have f:=lQ h.st
 have i:=h.v1
 rw [show q.Paths.getD j []=q.Paths[j] by simp [d]] at this
 exact ⟨by omega,this.2⟩
theorem OkO.bo {o:bK} {v:Nat} {t:Setting} (h:OkO o v t):BoO o:=by
 have f:=h.v1
 have i:=lQ h.st
 have hn:=h.qn
 have c:=h.ro
 refine ⟨by rw [h.rn];omega,fun g d=>by rw [(h.rr g d).1];omega,by omega,fun x b=>by rw [h.rh x b];omega,by omega,fun q a=> ?_,fun q a=> ?_,fun q a p e=> ?_⟩
 ·have:=(wA (h.qq q a)).1;omega
 ·have:=(wA (h.qq q a)).2.2.1;omega
 ·have:=h.path a e
  exact ⟨this.1,fun x b=>by rw [this.2 x b];omega⟩
theorem BoO.sm {o:bK} (h:BoO o):SmO o:=⟨by have:=h.rn;omega,fun g b=>by have:=h.rr g b;omega,by have:=h.ro;omega,by have:=h.qn;omega,fun q a=>by have:=h.qp q a;omega,fun q a p c=>by have:=(h.qq q a p c).1;omega⟩
theorem BoO.pth {o:bK} (h:BoO o) {q:cw} (b:q∈o.Queries) {p:List (List UInt8)} (d:p∈q.Paths):(p.flatMap id).length<=256:=by
 have a:=h.qq q b p d
 have:=GC (f:=id) (c:=32) a.2
 have:=a.1;omega
theorem BoO.pths {o:bK} (h:BoO o) {q:cw} (a:q∈o.Queries):(flB q.Paths).length<=1536:=by
 have:=GC (f:=fun x:List (List UInt8)=>x.flatMap id) (c:=256) fun p b=>h.pth a b
 have d:=h.qt q a
 unfold flB;omega
theorem BoO.qry {o:bK} (h:BoO o) {q:cw} (a:q∈o.Queries):(qB q).length<=1632:=by
 have b:=h.pths a
 have c:=h.qp q a
 unfold qB
 rw [a8,iW];omega
theorem BoO.rnd {o:bK} (h:BoO o) {g:List Ext} (a:g∈o.Rounds):(g.flatMap e8).length<=24:=by
 have:=h.rr g a
 rw [iW];omega
theorem gdm {α:Type} {l:List α} {j:Nat} (h:j<l.length):l[j]∈l:=b9 h
theorem YL {o:bK} (h:BoO o):p9 o=some (oB o):=by
 have h1:=h.rn
 have h3:=h.ro
 have h5:=h.qn
 unfold p9
 have u:=Ak (l:=o.Rounds) (f:=fun g=>g.flatMap e8) (c:=24) (step:=iR o.Rounds (o.Rounds.length:Int) o.Rounds o.Roots o.Last.A o.Last.B o.Nonce o.Queries) [] (fun g n=>h.rnd n) (by rw [ah];omega) (fun j a acc s=>by
  have v:=h.rnd (gdm a)
  simp only [iR]
  rw [brd om,cJ a,obs,ij (by have:=h.rr _ (gdm a);omega),obs,aS (by rw [a8];omega),ai _ om om];rfl) (fun acc=>by
  simp only [iR]
  rw [brn om,ae om])
 rw [u,obs]
 have l1:=GC (l:=o.Rounds) (f:=fun g:List Ext=>g.flatMap e8) (c:=24) (fun g n=>h.rnd n)
 generalize t:([]:List UInt8)++o.Rounds.flatMap (fun g=>g.flatMap e8)=A
 have lA:A.length<=144:=by rw [<-t,bA];omega
 have w:=Ak (l:=o.Roots) (f:=id) (c:=32) (step:=iQ o.Roots (o.Roots.length:Int) o.Rounds o.Roots o.Last.A o.Last.B o.Nonce o.Queries) A (fun x e=>h.rh x e) om (fun j a acc s=>by
  have v:=h.rh _ (gdm a)
  simp only [iQ]
  rw [brd om,cJ a,obs,aS (by rw [a8];omega),ai _ om om];rfl) (fun acc=>by
  simp only [iQ]
  rw [brn om,ae om])
 rw [w,obs]
 have l2:=GC (l:=o.Roots) (f:=id) (c:=32) (fun x e=>h.rh x e)
 dsimp only
 rw [ij sm,obs,aS (by rw [a8,a8,iW,ag];omega),qV (by rw [a8,a8,iW,ag];omega),obs]
 have y:=Ak (l:=o.Queries) (f:=qB) (c:=1632) (step:=iK o.Queries (o.Queries.length:Int) o.Rounds o.Roots o.Last.A o.Last.B o.Nonce o.Queries) (A++o.Roots.flatMap id++[o.Last].flatMap e8++lG o.Nonce) (fun q z=>h.qry z)
  (by simp only [a8,iW,ag,gc];omega) (fun j a acc s=>by
  have b:=gdm a
  have hp:=h.qp _ b
  have ht:=h.qt _ b
  have hql:=h.qry b
  have k4:=Ak (l:=(o.Queries[j]).Paths) (f:=fun x=>x.flatMap id) (c:=256) (step:=iG o.Queries (o.Queries.length:Int) (j:Int) (o.Queries[j]).Paths (((o.Queries[j]).Paths.length:Nat):Int) o.Rounds o.Roots o.Last.A o.Last.B o.Nonce o.Queries (o.Queries[j]).Pairs (o.Queries[j]).Paths) (acc++(o.Queries[j]).Pairs.flatMap e8) (fun p r=>h.pth b r)
   (by rw [a8,iW];omega) (fun i hi ac2 ha2=>by
   have d:=gdm hi
   have hpl:=(h.qq _ b _ d).1
   have k5:=Ak (l:=((o.Queries[j]).Paths[i])) (f:=id) (c:=32) (step:=iP o.Queries (o.Queries.length:Int) (j:Int) (o.Queries[j]).Paths (((o.Queries[j]).Paths.length:Nat):Int) (i:Int) ((o.Queries[j]).Paths[i]) ((((o.Queries[j]).Paths[i]).length:Nat):Int) o.Rounds o.Roots o.Last.A o.Last.B o.Nonce o.Queries (o.Queries[j]).Pairs (o.Queries[j]).Paths) ac2 (fun x e=>(h.qq _ b _ d).2 x e)
    om (fun m k ac3 ha3=>by
    have e:=(h.qq _ b _ d).2 _ (gdm k)
    simp only [iP]
    rw [brd om,cJ k,obs,aS (by rw [a8];omega),ai _ om om];rfl) (fun ac3=>by
    simp only [iP]
    rw [brn om,ae om])
   simp only [iG]
   rw [brd om,cJ hi,obs,k5,obs,ai _ om om];rfl) (fun ac2=>by
   simp only [iG]
   rw [brn om,ae om])
  simp only [iK]
  rw [brd om,cJ a,obs,ij om,obs,aS (by rw [a8,iW];omega),k4,obs,ai _ om om,aP];rfl) (fun acc=>by
  simp only [iK]
  rw [brn om,ae om])
 rw [y,obs, <-t];rfl
variable {o:bK} {v:Nat} {t:Setting}
end
section
theorem US: ∀(A B preA preB:List K) (acc:K),A.length=B.length->preA.length=preB.length->preA.length+A.length<=100->
 Loop (ua (kv (preB++B)) (kv (preA++A)) ((preA++A).length:Int) 0 0) ((preA.length:Int),acc.1.A,acc.1.B)=some (((preA++A).length:Int),false,(eaK A B acc).1.A,(eaK A B acc).1.B)
 |[],B,preA,preB,acc,a,d,c=>by
  refine dx ?_
  simp only [ua]
  rw [brn sm,ae sm];simp [eaK]
 |x::A,[],preA,preB,acc,a,d,c=>by simp at a
 |x::A,b::B,preA,preB,acc,a,d,c=>by
  rw [ab,ab] at a
  rw [ab] at c
  have ih:=US A B (preA++[x]) (preB++[b]) (acc*(x*b+(1-x)*(1-b))) om (by rw [a8,a8,ag,ag];omega) (by rw [a8,ag];omega)
  rw [aP,aP,b8,b8,show (preA++[x]).length=preA.length+1 by simp] at ih
  have e:atL (kv (preA++x::A)) (preA.length:Int)=some x.1:=by rw [Q8];exact DO (by rw [bB])
  have f:atL (kv (preB++b::B)) (preA.length:Int)=some b.1:=by rw [Q8];exact DO (by rw [bB];omega)
  rw [dt (s':=(((preA.length+1:Nat):Int),(acc*(x*b+(1-x)*(1-b))).1.A,(acc*(x*b+(1-x)*(1-b))).1.B)) ?_]
  ·rw [ih];rfl
  ·simp only [ua]
   rw [brd (by rw [a8,ab];omega),e,obs,f,obs,gq x.2 b.2,obs,LN,obs,mX a4Z x.2,obs,obs,obs,mX a4Z b.2,obs,gq (II _ _) (II _ _),obs,jx (Fm _ _) (Fm _ _),obs,show Ext.mk acc.1.A acc.1.B=acc.1 from rfl,gq acc.2 (a6n _ _),obs,ai _ om om];rfl
theorem a64 {A B:List K} (h:A.length=B.length) (a:A.length<=100):JC (kv A) (kv B)=some (eaK A B 1).1:=by
 have:=US A B [] [] 1 h rfl (by rw [ah];omega)
 unfold JC
 rw [LN,obs,bB]
 rw [bA,bA,ah] at this
 have key:Loop (ua (kv B) (kv A) (A.length:Int) 0 0) (0,e1.A,e1.B)=_:=this
 rw [key];rfl
theorem c6n {L:List Ext} (h:j7 L):kv (L.map toK)=L:=by
 rw [kv,fb]
 refine (bk fun x a=> ?_).trans (jR _)
 exact tQ (h x a)
theorem b3s: ∀(n m:Nat) (rts:List (List UInt8)) (prs:List K) (pths:List (List (List UInt8))) (D:List K),n<=m->rts.length=n->prs.length=2*n->pths.length=n->D.length=n->(∀j,j<n->(pths.getD j []).length=m-1-j/\ ∀x∈pths.getD j [],x.length=32)->QSh m rts prs pths D
 |0,m,[],[],[],[],_,_,_,_,_,_=>trivial
 |0,m,_::_,_,_,_,_,h,_,_,_,_=>by simp at h
 |0,m,_,_::_,_,_,_,_,h,_,_,_=>by simp at h
 |0,m,_,_,_::_,_,_,_,_,h,_,_=>by simp at h
 |0,m,_,_,_,_::_,_,_,_,_,h,_=>by simp at h
 |n+1,m,rts,prs,pths,D,l,d,c,e,f,i=>by
  match rts,prs,pths,D,d,c,e,f with
  |rt::rts,a::b::prs,p::pths,r::D,d,c,e,f=>
   simp only [ab] at d c e f
   have h0:=i 0 om
   exact ⟨by omega,by have:=h0.1;simpa using this,fun x k=>h0.2 x k,b3s n (m-1) rts prs pths D om om om om om fun j o=>by
    have:=i (j+1) om
    exact ⟨this.1.trans om,this.2⟩⟩
  |[],_,_,_,d,_,_,_=>simp at d
  |_::_,[],_,_,_,c,_,_=>simp at c
  |_::_,[_],_,_,_,c,_,_=>simp at c;omega
  |_::_,_::_::_,[],_,_,_,e,_=>simp at e
  |_::_,_::_::_,_::_,[],_,_,_,f=>simp at f
variable {o:bK} {v ρ:Nat} {t:Setting} {root:List UInt8} {D:List K} {q:cw}
theorem c4T (h:OkO o v t) (e1:t.Rate=(ρ:Int)) (a:D.length=v) (b:q∈o.Queries):QSh (v+ρ) (root::o.Roots) (q.Pairs.map toK) q.Paths D:=by
 obtain ⟨c,i,d,e⟩:=wA (h.qq q b)
 have k:=h.v1
 have l:=lQ h.st
 have m:=h.ro
 exact b3s v (v+ρ) _ _ _ _ om (by rw [ab];omega) (by rw [aw,c]) d a fun j f=>by
  have:=e j f
  exact ⟨by omega,this.2⟩
theorem a3B (h:OkO o v t) (e1:t.Rate=(ρ:Int)) (b:D.length=v) (a:q∈o.Queries) {p:Int} (h0:0<=p) (d:p<512):
 zu (root::o.Roots) (kv D) ((2^(v+ρ):Nat):Int) p o q=some (qcK (toK o.Last) (v+ρ) (root::o.Roots) (q.Pairs.map toK) q.Paths D p.toNat none):=by
 have e:=lQ h.st
 have f:=h.v1
 have i:=h.ro
 have key:=Vo (l:=toK o.Last) (M:=v+ρ) (V:=(((root::o.Roots).length:Nat):Int)) (c:=o.Rounds) (c2:=o.Roots) (c3:=o.Last.A) (c4:=o.Last.B) (c5:=o.Nonce) (c6:=o.Queries) (root::o.Roots) (q.Pairs.map toK) q.Paths D (v+ρ) [] [] [] [] p.toNat none (c4T h e1 b a) om rfl rfl rfl rfl (by rw [ah];omega) (by rw [ah,ab];omega) om sm sm
 simp only [bA,ah,c6n (wA (h.qq q a)).2.1,fy h0,tQ h.la] at key
 exact key
end
section
theorem Tc {v:Nat} {V:Int} {rts:List (List UInt8)} {c6:List (List Ext)} {c8 c9 c10 c14 c15:Int} {c11:List cw} (z:V=(v:Int)) (m:rts.length+1=v) (a: ∀x∈rts,x.length=32): ∀(R pre:List (List K)) (cl:K) (s:Source) (k:Int) (P:List Ext),(∀g∈R,g.length=3)->Few s k->k+3*R.length<=999890->P.length+R.length<=1000->pre.length+R.length=v->v<=100->
 ((vfM 1 (bvO v rts) R pre.length cl s).1=0->Loop (bn 1 (kvv (pre++R)) V c14 c15) (P,(pre.length:Int),s.Script,s.At,s.State,s.Count,V,c6,rts,c8,c9,c10,c11,cl.1.A,cl.1.B)=
   some (.inr (P++kv (vfM 1 (bvO v rts) R pre.length cl s).2.1,V,false,(vfM 1 (bvO v rts) R pre.length cl s).2.2.2.Script,(vfM 1 (bvO v rts) R pre.length cl s).2.2.2.At,(vfM 1 (bvO v rts) R pre.length cl s).2.2.2.State,(vfM 1 (bvO v rts) R pre.length cl s).2.2.2.Count,V,c6,rts,c8,c9,c10,c11,
    (vfM 1 (bvO v rts) R pre.length cl s).2.2.1.1.A,(vfM 1 (bvO v rts) R pre.length cl s).2.2.1.1.B)))/\
 ((vfM 1 (bvO v rts) R pre.length cl s).1≠0->(vfM 1 (bvO v rts) R pre.length cl s).1=10/\ ∃e:List Ext×Int×List Ext×Int×List UInt8×Int×Int×List (List Ext)×List (List UInt8)×Int×Int×Int×List cw×Int×Int,e.2.1=10/\Loop (bn 1 (kvv (pre++R)) V c14 c15) (P,(pre.length:Int),s.Script,s.At,s.State,s.Count,V,c6,rts,c8,c9,c10,c11,cl.1.A,cl.1.B)=some (.inl e))
 |[],pre,cl,s,k,P,n,b,t,u,o,w=>by
  rw [ah] at o
  refine ⟨fun _=>dx ?_,fun h=>absurd rfl h⟩
  simp only [bn,bM]
  rw [brn om,ae om]
  simp [vfM,kv];omega
 |g::R,pre,cl,s,k,P,n,b,t,u,o,w=>by
  rw [ab] at t u o
  have p:=n g sm
  have c:rA 1=some ((2:Nat):Int):=y9 (kind:=1) (.inl rfl)
  have hat:atL (kvv (pre++g::R)) (pre.length:Int)=some (kv g):=by rw [FF sm];simp
  have hk0:0<=k:=by have:=b.2;have:=b.1.4;omega
  rw [vfM,aa (show g.length=1+2 from p)]
  by_cases f:g.getD 0 0+g.getD 1 0=cl
  ·rw [aa f]
   have q:Few (bvO v rts pre.length (nsM s g)) (k+2+1):=b4i v rts _ _ _ (JD b om g) om
   have ih:=Tc (c6:=c6) (c8:=c8) (c9:=c9) (c10:=c10) (c11:=c11) (c14:=c14) (c15:=c15) z m a R (pre++[g]) (lnK g (rdM s g)) (bvO v rts pre.length (nsM s g)) (k+2+1) (P++[(rdM s g).1]) (fun x l=>n x (by simp [l])) q om (by rw [a8,ag];omega) (by rw [a8,ag];omega) w
   rw [aP,b8,a8,ag] at ih
   have step:bn 1 (kvv (pre++g::R)) V c14 c15 (P,(pre.length:Int),s.Script,s.At,s.State,s.Count,V,c6,rts,c8,c9,c10,c11,cl.1.A,cl.1.B)=
    some (.inl (P++[(rdM s g).1],((pre.length+1:Nat):Int),(bvO v rts pre.length (nsM s g)).Script,(bvO v rts pre.length (nsM s g)).At,(bvO v rts pre.length (nsM s g)).State,(bvO v rts pre.length (nsM s g)).Count,V,c6,rts,c8,c9,c10,c11,(lnK g (rdM s g)).1.A,(lnK g (rdM s g)).1.B)):=by
    simp only [bn,nT]
    rw [brd om,hat,obs,c,obs,ai _ om om,m9 (by rw [bB];omega),atK (i:=0) (j:=0) rfl om,obs,atK (i:=1) (j:=1) rfl om,obs,jx (aI _) (aI _),obs]
    rw [show eA (g.getD 0 0).1 (g.getD 1 0).1=cl.1 from congrArg Subtype.val f,bre rfl,bre rfl,show Source.mk s.Script s.At s.State s.Count=s from rfl,A1 b.1 om,obs,ZZ b,obs]
    dsimp only
    rw [O6 _ om,obs,aS (by rw [a8,ag];omega),ai (V-1) om om,ai ((pre.length:Int)+1) om om]
    by_cases y:pre.length+1<v
    ·have l:rts.getD pre.length []∈rts:=by simp [show pre.length<rts.length by omega]
     rw [brd om,b9P (d:=[]) om,obs,aS (by rw [a _ l];omega),my (JD b om g).1.3 (by rw [a _ l];omega),obs,obs,bvO,aa y];rfl
    ·rw [brn om,obs,bvO,a7 y];rfl
   refine ⟨fun h=> ?_,fun h=> ?_⟩
   ·rw [dt step,ih.1 h]
    simp [kv]
   ·obtain ⟨r,e,h1,he⟩:=ih.2 h
    exact ⟨r,e,h1,by rw [dt step,he]⟩
  ·rw [a7 f]
   refine ⟨fun h=>absurd (show (10:Int)=0 from h) dcd,fun _=>⟨rfl,(P,10,s.Script,s.At,s.State,s.Count,V,c6,rts,c8,c9,c10,c11,cl.1.A,cl.1.B),rfl,dx ?_⟩⟩
   simp only [bn,nT]
   rw [brd om,hat,obs,c,obs,ai _ om om,m9 (by rw [bB];omega),atK (i:=0) (j:=0) rfl om,obs,atK (i:=1) (j:=1) rfl om,obs,jx (aI _) (aI _),obs]
   rw [show eA (g.getD 0 0).1 (g.getD 1 0).1=(g.getD 0 0+g.getD 1 0).1 from rfl,a1H,a7 f]
end
section
variable {o:bK} {v ρ nq bits:Nat} {t:Setting} {root:List UInt8} {D P:List K} {s:Source} {k:Int}
theorem Vt {c2 c4 c5 c6 c7 c8 c9 c16 c17 c18 N:Int} {c:List Ext} {c3:List UInt8} (h:OkO o v t) (e1:t.Rate=(ρ:Int)) (hD:D.length=v): ∀(ps:List Int) (qs:List cw) (preP:List Int) (preQ:List cw),o.Queries=preQ++qs->preP.length=preQ.length->ps.length=qs.length->preP.length+ps.length<=100->(∀p∈ps,0<=p/\p<512)->N=((preP++ps).length:Int)->
 (qsC (toK o.Last) (v+ρ) (root::o.Roots) D ps qs=0->Loop (fH (root::o.Roots) (kv D) ((2^(v+ρ):Nat):Int) (preP++ps) N c c2 c3 c4 c5 c6 c7 c8 c9 o.Rounds o.Roots o.Last.A o.Last.B o.Nonce o.Queries c16 c17 c18) (preP.length:Int)=some (.inr (N,false)))/\
 (qsC (toK o.Last) (v+ρ) (root::o.Roots) D ps qs≠0->Loop (fH (root::o.Roots) (kv D) ((2^(v+ρ):Nat):Int) (preP++ps) N c c2 c3 c4 c5 c6 c7 c8 c9 o.Rounds o.Roots o.Last.A o.Last.B o.Nonce o.Queries c16 c17 c18) (preP.length:Int)=some (.inl (qsC (toK o.Last) (v+ρ) (root::o.Roots) D ps qs)))
 |[],qs,preP,preQ,hQ,h1,h2,h3,hp,hN=>by
  rw [bM] at hN
  refine ⟨fun _=>dx ?_,fun h=>absurd (by cases qs<;>rfl) h⟩
  simp only [fH]
  rw [brn om,ae om,hN]
 |p::ps,[],preP,preQ,hQ,h1,h2,h3,hp,hN=>by simp at h2
 |p::ps,q::qs,preP,preQ,hQ,h1,h2,h3,hp,hN=>by
  rw [ab] at h3
  have hp0:=hp p sm
  have hm:q∈o.Queries:=by rw [hQ];simp
  have hq:=a3B (root:=root) h e1 hD hm hp0.1 hp0.2
  have ih:=Vt (N:=N) (c:=c) (c2:=c2) (c3:=c3) (c4:=c4) (c5:=c5) (c6:=c6) (c7:=c7) (c8:=c8) (c9:=c9) (c16:=c16) (c17:=c17) (c18:=c18) h e1 hD ps qs (preP++[p]) (preQ++[q]) (by rw [hQ];simp) (by simp [h1]) (by simpa using h2) (by rw [a8,ag];omega) (fun x hx=>hp x (by simp [hx])) (by rw [hN];simp)
  rw [aP,b8,show (preP++[p]).length=preP.length+1 by simp] at ih
  have hs:fH (root::o.Roots) (kv D) ((2^(v+ρ):Nat):Int) (preP++p::ps) N c c2 c3 c4 c5 c6 c7 c8 c9 o.Rounds o.Roots o.Last.A o.Last.B o.Nonce o.Queries c16 c17 c18 (preP.length:Int)=
   br (qcK (toK o.Last) (v+ρ) (root::o.Roots) (q.Pairs.map toK) q.Paths D p.toNat none !=0) (some (.inr (.inl (qcK (toK o.Last) (v+ρ) (root::o.Roots) (q.Pairs.map toK) q.Paths D p.toNat none)))) (some (.inl ((preP.length+1:Nat):Int))):=by
   simp only [fH]
   rw [brd (by rw [hN,a8,ab];omega),DO rfl,obs,show atL o.Queries (preP.length:Int)=some q by rw [hQ];exact DO om,obs,show bK.mk o.Rounds o.Roots (Ext.mk o.Last.A o.Last.B) o.Nonce o.Queries=o from rfl,hq,obs,ai _ om om];rfl
  rw [qsC]
  by_cases hz:qcK (toK o.Last) (v+ρ) (root::o.Roots) (q.Pairs.map toK) q.Paths D p.toNat none=0
  ·rw [aa hz]
   rw [m9 hz] at hs
   rw [dt hs];exact ih
  ·rw [a7 hz]
   rw [brb hz] at hs
   exact ⟨fun h=>absurd h hz,fun _=>dx hs⟩
def Sr (o:bK):List (List K):=o.Rounds.map fun g=>g.map toK
theorem b8R (h:OkO o v t):kvv (Sr o)=o.Rounds:=by
 rw [kvv,Sr,fb]
 refine (bk fun g a=> ?_).trans (jR _)
 exact c6n (h.rr g a).2
end
section
variable {o:bK} {v ρ nq bits:Nat} {t:Setting} {root:List UInt8} {P:List K} {cl:K} {s:Source} {k:Int}
noncomputable def vfO (v:Nat) (o:bK) (cl:K) (s:Source):Int×List K×K×Source:=vfM 1 (bvO v o.Roots) (Sr o) 0 cl s
noncomputable def chO (v ρ nq bits:Nat) (root:List UInt8) (P:List K) (cl:K) (o:bK) (s:Source):Int:=chC (v+ρ) bits nq root P o.Roots (toK o.Last) o.Nonce o.Queries (vfO v o cl s)
end
section
variable {o:bK} {v ρ nq bits:Nat} {t:Setting} {root:List UInt8} {P:List K} {cl:K} {s:Source} {k:Int}
theorem a1Z (h:OkO o v t) (hP:P.length=v) (e1:t.Rate=(ρ:Int)) (e2:t.Queries=(nq:Int)) (e3:t.Grind=(bits:Int)) (r:Few s k) (hk:k<=999850):
 ∃src,qW root (kv P) cl.1 t o s=some (chO v ρ nq bits root P cl o s,src)/\(chO v ρ nq bits root P cl o s=0->src=chS nq (toK o.Last) o.Nonce (vfO v o cl s)):=by
 have hs:=lQ h.st
 have hv:=h.v1
 have hro:=h.ro
 have l:=h.rn
 have hqn:=h.qn
 have hk0:0<=k:=by have:=r.2;have:=r.1.4;omega
 have hrl:(Sr o).length=v:=by rw [Sr,aw,l]
 have hr3: ∀g∈Sr o,g.length=3:=fun g hg=>by
  obtain ⟨x,hx,rfl⟩:=bf.1 hg
  rw [aw,(h.rr x hx).1]
 obtain ⟨q,hq⟩: ∃q,v+ρ=q+1:=⟨v+ρ-1,by omega⟩
 have hpq:=K9 q om
 have u:=Tc (V:=(v:Int)) (rts:=o.Roots) (c6:=o.Rounds) (c8:=o.Last.A) (c9:=o.Last.B) (c10:=o.Nonce) (c11:=o.Queries) (c14:=0) (c15:=0) rfl om h.rh (Sr o) [] cl s k [] hr3 r om (by rw [ah];omega) (by rw [ah];omega) om
 rw [bA,bA,ah,b8R h] at u
 have f:=Xi (kind:=1) (bv:=bvO v o.Roots) (Sr o) 0 cl s
 have d:=Wd (kind:=1) (b4i v o.Roots) (Sr o) 0 cl s k r om
 rw [show vfM 1 (bvO v o.Roots) (Sr o) 0 cl s=vfO v o cl s from rfl] at u f d
 rw [hrl] at f d
 unfold qW eY
 rw [bB,hP,l]
 unfold chO chC
 by_cases h0:(vfO v o cl s).1=0
 ·have key:Loop (bn 1 o.Rounds (v:Int) 0 0) ([],0,s.Script,s.At,s.State,s.Count,(v:Int),o.Rounds,o.Roots,o.Last.A,o.Last.B,o.Nonce,o.Queries,cl.1.A,cl.1.B)=_:=u.1 h0
  have m:=f h0
  rw [key,obs,uT,aa h0,obs]
  dsimp only
  rw [m9 rfl]
  simp only [show Ext.mk o.Last.A o.Last.B=o.Last from rfl]
  have a:o.Last=(toK o.Last).1:=(tQ h.la).symm
  rw [a64 (by rw [m,hP]) om,obs,gq h.la (aI _),obs,show eM o.Last (eaK (vfO v o cl s).2.1 P 1).1=(toK o.Last*eaK (vfO v o cl s).2.1 P 1).1 by rw [K.mul_val, <-a],a1H]
  by_cases w:toK o.Last*eaK (vfO v o cl s).2.1 P 1=(vfO v o cl s).2.2.1
  ·rw [aa w,aa w]
   have i:Few (rsM (vfO v o cl s).2.2.2 [toK o.Last]) (k+3*v+1):=d.take _
   rw [show Source.mk (vfO v o cl s).2.2.2.Script (vfO v o cl s).2.2.2.At (vfO v o cl s).2.2.2.State (vfO v o cl s).2.2.2.Count=(vfO v o cl s).2.2.2 from rfl,show ([o.Last]:List Ext)=kv [toK o.Last] by rw [kv,oG, <-a],A1 d.1 sm,obs,e3,MS i.1.3 om,obs]
   cases h2:tA (rsM (vfO v o cl s).2.2.2 [toK o.Last]).State bits o.Nonce with
   |false=>rw [lF,dj,a7 sm];exact ⟨_,rfl,fun h=>absurd h dcd⟩
   |true=>
    have n:Few (tkM (rsM (vfO v o cl s).2.2.2 [toK o.Last]) (lG o.Nonce)) (k+3*v+1+1):=i.take _
    have hpl: ∀x∈plM (drL (tkM (rsM (vfO v o cl s).2.2.2 [toK o.Last]) (lG o.Nonce)) nq) ((2^q:Nat):Int),0<=x/\x<512:=fun x hx=>by
     obtain ⟨y,hy,rfl⟩:=bf.1 hx
     have g0:=dD y.A (b:=((2^q:Nat):Int)) om
     have g1:=cW y.A (b:=((2^q:Nat):Int)) om
     have g2:=K9 (q+1) om
     have g3:2^(q+1)=2*2^q:=by rw [aZ];omega
     omega
    have hsh:ct .i64 1 (((v+ρ:Nat)):Int)=((2^(v+ρ):Nat):Int):=b1R (v+ρ) om
    rw [aQ,bu,aa rfl,De,obs,my i.1.3 (by rw [gc];omega),obs,e1,ai ((v:Int)+(ρ:Int)) om om,brd om,aS (by simp only [a8,ag];omega),show (v:Int)+(ρ:Int)=((v+ρ:Nat):Int) by omega,hsh,hq,YK q om,e2,wv n om om,obs,OU (by rw [xg];omega) (NC n om om) om,obs,cU,b8]
    have p:(plM (drL (tkM (rsM (vfO v o cl s).2.2.2 [toK o.Last]) (lG o.Nonce)) nq) ((2^q:Nat):Int)).length=nq:=by rw [plM,aw,xg]
    have j:=Vt (root:=root) (N:=(((plM (drL (tkM (rsM (vfO v o cl s).2.2.2 [toK o.Last]) (lG o.Nonce)) nq) ((2^q:Nat):Int)).length:Nat):Int)) (D:=(vfO v o cl s).2.1) (c:=(drS (tkM (rsM (vfO v o cl s).2.2.2 [toK o.Last]) (lG o.Nonce)) nq).Script) (c2:=(drS (tkM (rsM (vfO v o cl s).2.2.2 [toK o.Last]) (lG o.Nonce)) nq).At) (c3:=(drS (tkM (rsM (vfO v o cl s).2.2.2 [toK o.Last]) (lG o.Nonce)) nq).State) (c4:=(drS (tkM (rsM (vfO v o cl s).2.2.2 [toK o.Last]) (lG o.Nonce)) nq).Count) (c5:=cl.1.A) (c6:=cl.1.B) (c7:=(ρ:Int)) (c8:=(nq:Int)) (c9:=t.Grind) (c16:=(v:Int)) (c17:=(vfO v o cl s).2.2.1.1.A) (c18:=(vfO v o cl s).2.2.1.1.B) h e1 m (plM (drL (tkM (rsM (vfO v o cl s).2.2.2 [toK o.Last]) (lG o.Nonce)) nq) ((2^q:Nat):Int)) o.Queries [] [] rfl rfl (by rw [p];omega) (by rw [p,ah];omega) hpl rfl
    rw [bA,ah,hq,e3] at j
    by_cases z:qsC (toK o.Last) (q+1) (root::o.Roots) (vfO v o cl s).2.1 (plM (drL (tkM (rsM (vfO v o cl s).2.2.2 [toK o.Last]) (lG o.Nonce)) nq) ((2^q:Nat):Int)) o.Queries=0
    ·have kk:=j.1 z
     rw [show (((0:Nat):Int))=0 from rfl] at kk
     rw [kk,z]
     exact ⟨_,rfl,fun _=>rfl⟩
    ·have kk:=j.2 z
     rw [show (((0:Nat):Int))=0 from rfl] at kk
     rw [kk]
     exact ⟨_,rfl,fun h=>absurd h z⟩
  ·rw [a7 w,a7 w]
   exact ⟨_,rfl,fun h=>absurd h dcd⟩
 ·obtain ⟨h10,e,h11,he⟩:=u.2 h0
  have key:Loop (bn 1 o.Rounds (v:Int) 0 0) ([],0,s.Script,s.At,s.State,s.Count,(v:Int),o.Rounds,o.Roots,o.Last.A,o.Last.B,o.Nonce,o.Queries,cl.1.A,cl.1.B)=_:=he
  rw [key,obs,sr,a7 h0,h10,obs]
  dsimp only
  rw [h11,brb dcd]
  exact ⟨_,rfl,fun h=>absurd h dcd⟩
end
section
variable {o:bK} {v ρ nq bits:Nat} {t:Setting} {root:List UInt8} {P:List K} {cl:K} {s:Source} {k:Int}
end
section
def SzT (x:List UInt8):Prop:=x.length<=1048576
def c4E (a:List (List UInt8)):Prop:=a.length<=1048576/\ ∀x∈a,SzT x
def c4B (a:List (List (List UInt8))):Prop:=a.length<=1048576/\ ∀x∈a,c4E x
def c0Y (a:List (List Ext)):Prop:=a.length<=1048576/\ ∀x∈a,x.length<=1048576
def SzQ (q:cw):Prop:=q.Pairs.length<=1048576/\c4B q.Paths
def SzO (o:bK):Prop:=c0Y o.Rounds/\c4E o.Roots/\o.Queries.length<=1048576/\ ∀q∈o.Queries,SzQ q
def SzP (p:jF):Prop:=SzT p.Root/\c0Y p.Gates/\c0Y p.Wires/\SzO p.Open
theorem SzO.sm {o:bK} (h:SzO o):SmO o:=⟨by have:=h.1.1;omega,fun g b=>by have:=h.1.2 g b;omega,by have:=h.2.1.1;omega,by have:=h.2.2.1;omega,fun q a=>by have:=(h.2.2.2 q a).1;omega,fun q a p c=>by have:=((h.2.2.2 q a).2.2 p c).1;omega⟩
end
section
noncomputable def okP (p:jF) (s:bD) (t:Setting):Bool:=
 m8 s&&(setB t&&(h32 p.Root&&(qJ p.Gates s.Rows 4&&(vX p.VA&&(vX p.VB&&(vX p.VC&&(qJ p.Wires s.Cols 3&&(vX p.VW&&okO p.Open (s.Cols-1) t))))))))
theorem DM {p:jF} {s:bD} {t:Setting} (h:SzP p) (c:s.A.length<=1048576) (d:s.B.length<=1048576) (e:s.C.length<=1048576):wy p s t=some (okP p s t):=by
 have f:=h.2.1.1
 have i:=h.2.2.1.1
 unfold wy okP
 rw [Cx om om om,obs]
 cases b:m8 s
 ·rfl
 ·obtain ⟨j,hc,_⟩:=fF b
  rw [dj,nV,obs,BB,AL om (fun g a=>by have:=h.2.1.2 g a;omega),AL om (fun g a=>by have:=h.2.2.1.2 g a;omega),ai _ om om,R8 h.2.2.2.sm,wG,wG,wG,wG]
  simp only [obs,bm,h32]
  cases setB t<;>cases decide (p.Root.length=32)<;>cases qJ p.Gates s.Rows 4<;>cases vX p.VA<;>cases vX p.VB<;>cases vX p.VC<;>cases qJ p.Wires s.Cols 3<;>cases vX p.VW<;>rfl
end
section
theorem b1M {R T:List K} {β:K} {l t t2 t3 c4 c5 c6:List aN} {c c2 c3 c7 c8 c11 c12 RR CC:Int} (a:OkM l RR CC) (b:(R.length:Int)=RR) (d:(T.length:Int)=CC):
 Loop (rZ (kv R) t t2 t3 l (l.length:Int) c c2 c3 c4 c5 c6 c7 c8 β.1.A β.1.B c11 c12) (kv T,0)=some (kv (l.foldl (btS β R) T),(l.length:Int),false):=
 SD (t:=t) (t2:=t2) (t3:=t3) (t4:=0) (c:=c) (c2:=c2) (c3:=c3) (c4:=c4) (c5:=c5) (c6:=c6) (c9:=0) (c10:=0) (c11:=0) (c12:=0) a b d
theorem b4W {R T:List K} {β:K} {l t t2 t3 c4 c5 c6:List aN} {c c2 c3 c7 c8 c9 c10 RR CC:Int} (a:OkM l RR CC) (b:(R.length:Int)=RR) (d:(T.length:Int)=CC):
 Loop (sg (kv R) t t2 t3 l (l.length:Int) c c2 c3 c4 c5 c6 c7 c8 c9 c10 β.1.A β.1.B) (kv T,0)=some (kv (l.foldl (btS β R) T),(l.length:Int),false):=
 SD (t:=t) (t2:=t2) (t3:=t3) (t4:=0) (c:=c) (c2:=c2) (c3:=c3) (c4:=c4) (c5:=c5) (c6:=c6) (c9:=0) (c10:=0) (c11:=0) (c12:=0) a b d
def btM (s:bD) (R:List K) (x y z:K):List K:=s.C.foldl (btS z R) (s.B.foldl (btS y R) (s.A.foldl (btS x R) (List.replicate (2^s.Cols.toNat) 0)))
theorem PV (s:bD) (R:List K) (x y z:K):(btM s R x y z).length=2^s.Cols.toNat:=by rw [btM,uP,uP,uP,aL]
theorem b9t (n:Nat):kv (List.replicate n 0)=List.replicate n e0:=by rw [kv,vN];rfl
theorem a9M {s:bD} (h:m8 s=true):OkM s.A ((2^s.Rows.toNat:Nat):Int) ((2^s.Cols.toNat:Nat):Int)/\OkM s.B ((2^s.Rows.toNat:Nat):Int) ((2^s.Cols.toNat:Nat):Int)/\OkM s.C ((2^s.Rows.toNat:Nat):Int) ((2^s.Cols.toNat:Nat):Int)/\
 B8 s.A ((2^s.Rows.toNat:Nat):Int) ((2^s.Cols.toNat:Nat):Int)=true/\B8 s.B ((2^s.Rows.toNat:Nat):Int) ((2^s.Cols.toNat:Nat):Int)=true/\B8 s.C ((2^s.Rows.toNat:Nat):Int) ((2^s.Cols.toNat:Nat):Int)=true:=by
 obtain ⟨c,d,_⟩:=fF h
 have e1:s.Rows=(s.Rows.toNat:Int):=by omega
 have e2:s.Cols=(s.Cols.toNat:Int):=by omega
 have a:ct .i64 1 s.Rows=((2^s.Rows.toNat:Nat):Int):=by conv=>lhs;rw [e1];rw [M3 om]
 have b:ct .i64 1 s.Cols=((2^s.Cols.toNat:Nat):Int):=by conv=>lhs;rw [e2];rw [M3 om]
 unfold m8 at h
 simp only [aB,aA,a,b] at h
 obtain ⟨_,_,_,mA,mB,mC⟩:=h
 exact ⟨HI mA,HI mB,HI mC,mA,mB,mC⟩
theorem Ff {s:bD} (h:m8 s=true) {p R:List K} {x y z:K} (c:p.length=s.Rows.toNat) (b:eqT (kv p)=kv R):so s (kv p) (x.1,y.1,z.1)=some (kv (btM s R x y z)):=by
 obtain ⟨f,hc,_⟩:=fF h
 obtain ⟨mA,mB,mC,_⟩:=a9M h
 have d:=Cq s.Cols.toNat om
 have a:(R.length:Int)=((2^s.Rows.toNat:Nat):Int):=by
  have:=PU (kv p)
  rw [b,bB,bB,c] at this;omega
 have e2:s.Cols=(s.Cols.toNat:Int):=by omega
 have e:ct .i64 1 s.Cols=((2^s.Cols.toNat:Nat):Int):=by conv=>lhs;rw [e2];rw [M3 om]
 unfold so eG
 rw [brd om,e,a1m om om om,s8 (Al p) (by rw [bB];omega),obs,b,obs]
 dsimp only
 rw [aY,show Ext.mk 0 0=e0 from rfl, <-b9t,SD mA a (by rw [aL]),obs]
 dsimp only
 rw [b1M mB a (by rw [uP,aL]),obs]
 dsimp only
 rw [b4W mC a (by rw [uP,uP,aL]),obs];rfl
theorem RT (Q:List K): ∀n,jg (List.replicate n 0) Q=0
 |0=>rfl
 |n+1=>by
  cases Q with
  |nil=>rfl
  |cons y Q=>rw [nR,jg,RT Q n];exact kg
def U4 (l:List Int):List UInt8:=l.flatMap lG
theorem a0J (l:List Int):(U4 l).length=4*l.length:=by
 induction l with
 |nil=>rfl
 |cons x l ih=>simp only [U4,dA,a8,gc,ab] at*;omega
theorem a9A (l:List Int) (x:Int):U4 (l++[x])=U4 l++lG x:=by simp [U4]
def setT (t:Setting):List UInt8:=[UInt8.ofInt t.Rate,UInt8.ofInt t.Queries,UInt8.ofInt t.Grind]
def Nf (s:bD) (t:Setting) (p:List Int):List UInt8:=H (ZV s)++setT t++U4 p
theorem b6l {l:List (List UInt8)} {l3 L:List UInt8} {p:List Int} {c c2 c3 c7 c8 c9:Int} {c4 c5 c6:List aN} (b:p.length<=5000) (hL:L.length<=1000):Loop (jQ l l3 p (p.length:Int) c c2 c3 c4 c5 c6 c7 c8 c9) (L,0)=some (L++U4 p,(p.length:Int),false):=by
 have key:=bq (step:=jQ l l3 p (p.length:Int) c c2 c3 c4 c5 c6 c7 c8 c9) (fun j=>(L++U4 (p.take j),(j:Int))) p.length (e:=(L++U4 p,(p.length:Int),false)) (fun j a=> ?_) ?_
 ·simpa [U4] using key
 ·simp only [jQ]
  have hn:=a0J (p.take j)
  rw [aD] at hn
  rw [brd om,cJ a,obs,qV (by simp only [a8];omega),obs,ai _ om om,cA a,a9A,aP];rfl
 ·simp only [jQ]
  rw [brn om,ae om,bw]
theorem SZ (s:bD) (t:Setting) (p:List Int):(Nf s t p).length=35+4*p.length:=by
 simp only [Nf,a8,Fk,setT,ab,ah,a0J]
end
section
noncomputable def stC (s:bD) (t:Setting) (p:List Int) (src:Source):Int:=
 if p.length>4096 then 2 else if m8 s=false then 1 else if setB t=false then 1 else if p.all El=false then 1 else if a8e src=false then 1
 else if (p.length:Int)≠s.Publics then 17 else if 999800<mx src.At src.Count then 6 else 0
theorem Qu {s:bD} {t:Setting} {p:List Int} {src:Source} (c:s.A.length<=1048576) (d:s.B.length<=1048576) (e:s.C.length<=1048576) (f:p.length<=1048576) (h:src.Script.length<=1048576):
 y4 s t p src=some (stC s t p src):=by
 unfold y4 stC
 by_cases c1:p.length>4096
 ·rw [brd om,aa c1]
 rw [brn om,a7 c1,Cx om om om,obs]
 cases i:m8 s
 ·rfl
 rw [aQ,bu,a7 sm,nV,obs]
 cases j:setB t
 ·rfl
 rw [aQ,bu,a7 sm,N3 om,obs]
 cases k:p.all El
 ·rfl
 rw [aQ,bu,a7 sm,Ir om,obs]
 cases b:a8e src
 ·rfl
 have a:=Tj.1 b
 have h0:0<=mx src.At src.Count:=by have:=a.4;have:=a.6;unfold mx;split<;>assumption
 have l:=b4p a.5 a.7
 rw [aQ,bu,a7 sm]
 by_cases c6:(p.length:Int)=s.Publics
 ·rw [m9 c6,a7 (by simp [c6])]
  unfold mW
  rw [obs,ai _ om om]
  by_cases c7:999800<mx src.At src.Count
  ·rw [brd om,aa c7]
  ·rw [brn om,a7 c7]
 ·rw [brb c6,aa c6]
structure Kg (s:bD) (t:Setting) (p:List Int) (src:Source):Prop where
 sy:m8 s=true
 se:setB t=true
 pl:p.length<=4096
 pf:gY p
 pe:(p.length:Int)=s.Publics
 fw:Few src 999800
theorem Ge {s:bD} {t:Setting} {p:List Int} {src:Source} (h:Kg s t p src):uL s t p=some (Nf s t p):=by
 obtain ⟨_,_,_,a,b,c⟩:=fF h.sy
 have d:=h.pl
 have e:=b0f s
 have f:=Fk (ZV s)
 unfold uL
 rw [Pa a b c,obs,xM (by simpa using by omega) sm,obs,show [ZV s].flatten=ZV s by simp,aS om,aS (by simp only [a8,ab,ah];omega),
  b6l om (by simp only [a8,ab,ah];omega),obs];rfl
theorem Xa (x y z:K):wL x.1 y.1 z.1=some (x+z*(y-x)).1:=by
 unfold wL
 rw [mX y.2 x.2,obs,gq z.2 (II _ _),obs,jx x.2 (Fm _ _),obs];rfl
theorem c4L {L:List Ext} (h:j7 L) (d:L.length=3): ∃a b c:K,L=kv [a,b,c]:=by
 obtain ⟨l,rfl⟩:=b6Y h
 rw [bB] at d
 match l,d with
 |[a,b,c],_=>exact ⟨a,b,c,rfl⟩
noncomputable def a7L (s:bD) (p:List Int) (P:List K):K:=toK (b7y s p (kv P))
theorem Zl (s:bD) (p:List Int) (P:List K):(a7L s p P).1=b7y s p (kv P):=tQ (b9c _ _)
noncomputable def vx1 (s:bD) (t:Setting) (p:List Int) (root:List UInt8) (src:Source):Source:=tkM (tkM src (Nf s t p)) root
noncomputable def vg1 (s:bD) (t:Setting) (p:List Int) (root:List UInt8) (G:List (List K)) (src:Source):Int×List K×K×Source:=vfM 2 bv0 G 0 0 (drS (vx1 s t p root src) s.Rows.toNat)
noncomputable def vx3 (s:bD) (t:Setting) (p:List Int) (root:List UInt8) (G:List (List K)) (va vb vc:K) (src:Source):Source:=rsM (vg1 s t p root G src).2.2.2 [va,vb,vc]
noncomputable def vr (x:Source) (j:Nat):K:=toK ((drL x 3).getD j e0)
noncomputable def vg2 (s:bD) (t:Setting) (p:List Int) (root:List UInt8) (G W:List (List K)) (va vb vc:K) (src:Source):Int×List K×K×Source:=
 vfM 1 bv0 W 0 (vr (vx3 s t p root G va vb vc src) 0*va+(vr (vx3 s t p root G va vb vc src) 1*vb+vr (vx3 s t p root G va vb vc src) 2*vc)) (drS (vx3 s t p root G va vb vc src) 3)
noncomputable def a5y (s:bD) (p:List Int) (rx ry:List K) (r0 r1 r2 vw:K):K:=
 jg (btM s (eqK rx) r0 r1 r2) (eqK ry)*(a7L s p (ry.take (s.Cols.toNat-1))+ry.getD (s.Cols.toNat-1) 0*(vw-a7L s p (ry.take (s.Cols.toNat-1))))
theorem UF (s:bD) (p:List Int) (rx ry:List K) (a b c vw:K):a5y s p rx ry a b c vw=jg (btM s (eqK rx) a b c) (eqK ry)*(a7L s p (ry.take (s.Cols.toNat-1))+ry.getD (s.Cols.toNat-1) 0*(vw-a7L s p (ry.take (s.Cols.toNat-1)))):=rfl
noncomputable def b8o (s:bD) (t:Setting) (p:List Int) (root:List UInt8) (G W:List (List K)) (va vb vc vw:K) (o:bK) (src:Source):Int:=
 if (vg1 s t p root G src).1≠0 then (vg1 s t p root G src).1
 else if cmK 2 [eaK ((drL (vx1 s t p root src) s.Rows.toNat).map toK) (vg1 s t p root G src).2.1 1,va,vb,vc]≠(vg1 s t p root G src).2.2.1 then 11
 else if (vg2 s t p root G W va vb vc src).1≠0 then (vg2 s t p root G W va vb vc src).1
 else if a5y s p (vg1 s t p root G src).2.1 (vg2 s t p root G W va vb vc src).2.1 (vr (vx3 s t p root G va vb vc src) 0) (vr (vx3 s t p root G va vb vc src) 1) (vr (vx3 s t p root G va vb vc src) 2) vw≠(vg2 s t p root G W va vb vc src).2.2.1 then 11
 else chO (s.Cols.toNat-1) t.Rate.toNat t.Queries.toNat t.Grind.toNat root ((vg2 s t p root G W va vb vc src).2.1.take (s.Cols.toNat-1)) vw o (rsM (vg2 s t p root G W va vb vc src).2.2.2 [vw])
theorem b59 {L:List Ext} (h:j7 L):kv (L.map toK)=L:=by
 rw [kv,fb]
 conv=>rhs;rw [<-jR L]
 exact bk fun x a=>tQ (h x a)
theorem c6w {x:Source} {k:Int} (h:Few x k) (d:k<=999890):drL x 3=kv [vr x 0,vr x 1,vr x 2]:=by
 have f:=NC h d (n:=3) om
 obtain ⟨a,b,c,e⟩:=c4L f (xg x 3)
 rw [vr,vr,vr,e]
 show [a.1,b.1,c.1]=[(toK a.1).1,(toK b.1).1,(toK c.1).1]
 rw [tQ a.2,tQ b.2,tQ c.2]
end
section
structure a1b (s:bD) (t:Setting) (root:List UInt8) (G W:List (List K)) (o:bK):Prop where
 rt:root.length=32
 gl:G.length=s.Rows.toNat
 g4: ∀g∈G,g.length=4
 wl:W.length=s.Cols.toNat
 w3: ∀g∈W,g.length=3
 op:OkO o (s.Cols.toNat-1) t
variable {s:bD} {t:Setting} {p:List Int} {src:Source} {root:List UInt8} {G W:List (List K)} {va vb vc vw:K} {o:bK}
theorem a5x (h:Kg s t p src):Few (vx1 s t p root src) 999802:=((h.fw.take _).take _).mono om
theorem a4N (h:Kg s t p src):Few (drS (vx1 s t p root src) s.Rows.toNat) 999807:=by
 obtain ⟨a,_⟩:=fF h.sy
 exact (EG (a5x h) om _ om).mono om
theorem a5J (h:Kg s t p src) (q:a1b s t root G W o):Few (vg1 s t p root G src).2.2.2 999822:=by
 obtain ⟨a,_⟩:=fF h.sy
 have:=q.gl
 exact (Wd (kind:=2) b0t G 0 0 _ _ (a4N h) om).mono om
theorem a5r (h:Kg s t p src) (q:a1b s t root G W o):Few (vx3 s t p root G va vb vc src) 999823:=(Few.take (a5J h q) _).mono om
theorem a5P (h:Kg s t p src) (q:a1b s t root G W o):Few (drS (vx3 s t p root G va vb vc src) 3) 999826:=(EG (a5r h q) om 3 om).mono om
theorem b6x (h:Kg s t p src) (q:a1b s t root G W o):Few (vg2 s t p root G W va vb vc src).2.2.2 999841:=by
 obtain ⟨_,hc,_⟩:=fF h.sy
 have:=q.wl
 exact (Wd (kind:=1) b0t W 0 _ _ _ (a5P h q) om).mono om
theorem b7i (q:a1b s t root G W o) (z:(vg1 s t p root G src).1=0):(vg1 s t p root G src).2.1.length=s.Rows.toNat:=(Xi (kind:=2) (bv:=bv0) G 0 0 _ z).trans q.gl
theorem b6K (q:a1b s t root G W o) (z:(vg2 s t p root G W va vb vc src).1=0):(vg2 s t p root G W va vb vc src).2.1.length=s.Cols.toNat:=(Xi (kind:=1) (bv:=bv0) W 0 _ _ z).trans q.wl
theorem b0B (a b c x y z:K):jg [a,b,c] [x,y,z]=a*x+(b*y+c*z):=by simp only [jg];exact kg
theorem a1s (h:Kg s t p src) (q:a1b s t root G W o):
 ∃src',mg s t p ⟨root,kvv G,va.1,vb.1,vc.1,kvv W,vw.1,o⟩ src=some (b8o s t p root G W va vb vc vw o src,src'):=by
 obtain ⟨hr,hc,hpb,_⟩:=fF h.sy
 obtain ⟨_,hpub⟩:=PL h.sy
 have hpl:=h.pl
 have hpe:=h.pe
 have hst:=SZ s t p
 have hrt:=q.rt
 have f1:=a5x (root:=root) h
 have f2:=a4N (root:=root) h
 have f3:=a5r (va:=va) (vb:=vb) (vc:=vc) h q
 have f4:=a5P (va:=va) (vb:=vb) (vc:=vc) h q
 have f5:=b6x (va:=va) (vb:=vb) (vc:=vc) h q
 have ci:=lQ h.se
 have eR:(s.Rows.toNat:Int)=s.Rows:=by omega
 have f:=wv f1 om (n:=s.Rows.toNat) om
 rw [eR] at f
 have i:da 2 (Ext.mk 0 0) (kvv G) (drS (vx1 s t p root src) s.Rows.toNat)=_:=FS (kind:=2) (.inr rfl) (R:=G) (c:=0) f2 (by have:=q.gl;omega)
 rw [show vfM 2 bv0 G 0 0 (drS (vx1 s t p root src) s.Rows.toNat)=vg1 s t p root G src from rfl] at i
 unfold mg
 dsimp only
 rw [Ge h,obs,my h.fw.1.3 om,obs,aS om,my (h.fw.take _).1.3 om,obs]
 rw [show tkM (tkM src (Nf s t p)) root=vx1 s t p root src from rfl,f,obs]
 dsimp only
 rw [i,obs]
 unfold b8o
 by_cases d:(vg1 s t p root G src).1=0
 ·have k:=b7i q d
  rw [aa d,a7 (mM d)]
  dsimp only
  have m:=NC f1 om (n:=s.Rows.toNat) om
  have hea:JC (drL (vx1 s t p root src) s.Rows.toNat) (kv (vg1 s t p root G src).2.1)=some (eaK ((drL (vx1 s t p root src) s.Rows.toNat).map toK) (vg1 s t p root G src).2.1 1).1:=by
   have:=a64 (A:=(drL (vx1 s t p root src) s.Rows.toNat).map toK) (B:=(vg1 s t p root G src).2.1) (by rw [aw,xg,k]) (by rw [aw,xg];omega)
   rwa [b59 m] at this
  have hcm: ∀x:K,wJ 2 [x.1,va.1,vb.1,vc.1]=some (cmK 2 [x,va,vb,vc]).1:=fun x=>Li (kind:=2) (v:=[x,va,vb,vc]) (.inr rfl) rfl
  rw [m9 rfl,hea,obs,hcm,obs,a1H]
  by_cases z2:cmK 2 [eaK ((drL (vx1 s t p root src) s.Rows.toNat).map toK) (vg1 s t p root G src).2.1 1,va,vb,vc]=(vg1 s t p root G src).2.2.1
  ·have r:=wv f3 om (n:=3) om
   rw [show ((3:Nat):Int)=3 from rfl,c6w f3 om] at r
   have hab:bL [va.1,vb.1,vc.1] (vg1 s t p root G src).2.2.2=some (vx3 s t p root G va vb vc src):=A1 (g:=[va,vb,vc]) (a5J h q).1 sm
   have u: ∀a b c:K,GG (kv [a,b,c]) [va.1,vb.1,vc.1]=some (a*va+(b*vb+c*vc)).1:=fun a b c=>by
    have:=Ld (Al [a,b,c]) (Al [va,vb,vc]) (by simp [bB]) (by simp [bB])
    rw [Y3,b0B] at this
    exact this
   have w:da 1 (vr (vx3 s t p root G va vb vc src) 0*va+(vr (vx3 s t p root G va vb vc src) 1*vb+vr (vx3 s t p root G va vb vc src) 2*vc)).1 (kvv W) (drS (vx3 s t p root G va vb vc src) 3)=_:=FS (kind:=1) (.inl rfl) (R:=W) f4 (by have:=q.wl;omega)
   rw [show vfM 1 bv0 W 0 (vr (vx3 s t p root G va vb vc src) 0*va+(vr (vx3 s t p root G va vb vc src) 1*vb+vr (vx3 s t p root G va vb vc src) 2*vc)) (drS (vx3 s t p root G va vb vc src) 3)=vg2 s t p root G W va vb vc src from rfl] at w
   rw [aa z2,a7 (mM z2),hab,obs,r,obs]
   dsimp only
   rw [u,obs,w,obs]
   by_cases e:(vg2 s t p root G W va vb vc src).1=0
   ·have hl2:=b6K q e
    have htk:((vg2 s t p root G W va vb vc src).2.1.take (s.Cols.toNat-1)).length=s.Cols.toNat-1:=by rw [aD];omega
    have hat:=uv (l:=(vg2 s t p root G W va vb vc src).2.1) (j:=s.Cols.toNat-1) om
    rw [show ((s.Cols.toNat-1:Nat):Int)=s.Cols-1 by omega] at hat
    rw [aa e,a7 (mM e)]
    dsimp only
    have hbt:=Ff h.sy (p:=(vg1 s t p root G src).2.1) (R:=eqK (vg1 s t p root G src).2.1) (x:=vr (vx3 s t p root G va vb vc src) 0) (y:=vr (vx3 s t p root G va vb vc src) 1) (z:=vr (vx3 s t p root G va vb vc src) 2) k (Gb _)
    have hbl:=PV s (eqK (vg1 s t p root G src).2.1) (vr (vx3 s t p root G va vb vc src) 0) (vr (vx3 s t p root G va vb vc src) 1) (vr (vx3 s t p root G va vb vc src) 2)
    have hel:=DF (vg2 s t p root G W va vb vc src).2.1
    have hpw:=Cq s.Cols.toNat om
    rw [hl2] at hel
    have hdt:GG (kv (btM s (eqK (vg1 s t p root G src).2.1) (vr (vx3 s t p root G va vb vc src) 0) (vr (vx3 s t p root G va vb vc src) 1) (vr (vx3 s t p root G va vb vc src) 2))) (kv (eqK (vg2 s t p root G W va vb vc src).2.1))=some (jg (btM s (eqK (vg1 s t p root G src).2.1) (vr (vx3 s t p root G va vb vc src) 0) (vr (vx3 s t p root G va vb vc src) 1) (vr (vx3 s t p root G va vb vc src) 2)) (eqK (vg2 s t p root G W va vb vc src).2.1)).1:=by
     rw [Ld (Al _) (Al _) (by rw [bB,bB];omega) (by rw [bB];omega),Y3]
    rw [m9 rfl,ai (s.Cols-1) om om,kx om om (by rw [bB];omega),obs,hat,obs,brd (by simp [bB])]
    rw [show a1c (kv [vr (vx3 s t p root G va vb vc src) 0,vr (vx3 s t p root G va vb vc src) 1,vr (vx3 s t p root G va vb vc src) 2])=some ((vr (vx3 s t p root G va vb vc src) 0).1,(vr (vx3 s t p root G va vb vc src) 1).1,(vr (vx3 s t p root G va vb vc src) 2).1) from rfl,obs,hbt,obs,
     s8 (Al _) (by rw [bB];omega),obs,Gb,hdt,obs,show (Int.toNat 0)=0 from rfl,hK,show (s.Cols-1).toNat-0=s.Cols.toNat-1 by omega,b8e,
     Uy h.sy om h.pf (Al _) (by rw [bB];omega),obs, <-Zl,Xa,obs,gq (aI _) (aI _),obs, <-K.mul_val, <-UF,a1H]
    by_cases z4:a5y s p (vg1 s t p root G src).2.1 (vg2 s t p root G W va vb vc src).2.1 (vr (vx3 s t p root G va vb vc src) 0) (vr (vx3 s t p root G va vb vc src) 1) (vr (vx3 s t p root G va vb vc src) 2) vw=(vg2 s t p root G W va vb vc src).2.2.1
    ·obtain ⟨src',hck,_⟩:=a1Z (s:=rsM (vg2 s t p root G W va vb vc src).2.2.2 [vw]) (root:=root) (cl:=vw) (P:=(vg2 s t p root G W va vb vc src).2.1.take (s.Cols.toNat-1)) (nq:=t.Queries.toNat) (ρ:=t.Rate.toNat) (bits:=t.Grind.toNat) q.op htk om om om ((Few.take f5 _).mono om:Few (rsM (vg2 s t p root G W va vb vc src).2.2.2 [vw]) 999842) om
     have hab2:bL [vw.1] (vg2 s t p root G W va vb vc src).2.2.2=some (rsM (vg2 s t p root G W va vb vc src).2.2.2 [vw]):=A1 (g:=[vw]) f5.1 sm
     rw [aa z4,a7 (mM z4),hab2,obs,hck,obs]
     exact ⟨_,rfl⟩
    ·rw [a7 z4,aa z4]
     exact ⟨_,rfl⟩
   ·rw [a7 e,aa e]
    dsimp only
    rw [brb e]
    exact ⟨_,rfl⟩
  ·rw [a7 z2,aa z2]
   exact ⟨_,rfl⟩
 ·rw [a7 d,aa d]
  dsimp only
  rw [brb d]
  exact ⟨_,rfl⟩
end
section
def CJ (op:Int):Int:=if 4<=op/\op<=7 then 2 else if op=8 then 1 else 0
theorem V6 (op:Int):jc op=some (CJ op):=by
 unfold jc CJ
 rw [c5u,obs]
 by_cases a:4<=op/\op<=7
 ·rw [aj a,aa a];rfl
 ·rw [ae a,a7 a,bu]
  by_cases b:op=8
  ·rw [bre b,aa b]
  ·rw [cn b,a7 b]
def cu (l:List aC) (op:Int):Nat:=l.countP fun g=>g.Op==op
theorem jf (l:List aC) (x:aC) (op:Int):cu (l++[x]) op=cu l op+(if (x.Op==op)=true then 1 else 0):=by
 simp only [cu,List.countP_append,List.countP_singleton]
theorem iY (l:List aC) (op:Int):cu l op<=l.length:=sH
theorem b3J (b:Bool):LV b=some (if b=true then 1 else 0):=by cases b<;>rfl
theorem JS {c:Circuit} {op:Int} (h:c.Gates.length<=1048576):mU c op=some (cu c.Gates op:Int):=by
 unfold mU
 have key:=bq (step:=nL op c.Gates) (fun j=>((cu (c.Gates.take j) op:Int),(j:Int))) c.Gates.length (e:=((cu c.Gates op:Int),(c.Gates.length:Int),false)) (fun j b=> ?_) ?_
 ·rw [show ((0:Int),(0:Int))=((cu (c.Gates.take 0) op:Int),((0:Nat):Int)) from rfl,key];rfl
 ·have a:=iY (c.Gates.take j) op
  rw [aD] at a
  simp only [nL]
  rw [brd om,cJ b,obs,b3J,obs,cA b,jf]
  cases d:(c.Gates[j].Op==op)
  ·rw [a7 sm,a7 sm,ai _ om om,ai _ om om];simp
  ·rw [aa rfl,aa rfl,ai _ om om,ai _ om om];simp
 ·simp only [nL]
  rw [brn om,ae om,bw]
def sI (g:aC) (k:Int):Bool:=
 decide (1<=g.Op/\g.Op<=8)&&(br (decide (CJ g.Op>0)) (decide (0<=g.A/\g.A<=k-1)) (g.A==0)&&(br (decide (CJ g.Op>1)) (decide (0<=g.B/\g.B<=k-1)) (g.B==0)&&br (g.Op==3) (El g.K) (g.K==0)))
def GL (l:List aC):Bool:=decide (1<=l.length/\l.length<=15)&&((List.range l.length).all (fun k=>((l[k]?.map fun g=>sI g (k:Int)).getD false))&&decide ((cu l 2:Int)<=7))
structure OkC (l:List aC):Prop where
 n1:1<=l.length
 n2:l.length<=15
 g: ∀(k:Nat) (h:k<l.length),sI l[k] (k:Int)=true
 p:cu l 2<=7
theorem a1g {l:List aC} (h:GL l=true):OkC l:=by
 simp only [GL,aB,aA,an,bS] at h
 obtain ⟨⟨b,c⟩,d,e⟩:=h
 exact ⟨b,c,fun k a=>by simpa [a] using d k a,by omega⟩
def gvM (P I out:List Int) (p i:Nat) (g:aC):Int:=
 if g.Op=1 then I.getD i 0 else if g.Op=2 then P.getD p 0 else if g.Op=3 then g.K else if g.Op=4 then aF (out.getD g.A.toNat 0) (out.getD g.B.toNat 0)
 else if g.Op=5 then sF (out.getD g.A.toNat 0) (out.getD g.B.toNat 0) else if g.Op=6 then mF (out.getD g.A.toNat 0) (out.getD g.B.toNat 0) else out.getD g.A.toNat 0
def rnM (P I:List Int) (l:List aC):Nat->List Int
 |0=>[]
 |j+1=>rnM P I l j++[gvM P I (rnM P I l j) (cu (l.take j) 2) (cu (l.take j) 1) (l.getD j ⟨0,0,0,0⟩)]
theorem rY (P I:List Int) (l:List aC): ∀j,(rnM P I l j).length=j
 |0=>rfl
 |j+1=>by rw [rnM,a8,rY P I l j];rfl
theorem xF {g:aC} {k:Int} (h:sI g k=true):(1<=g.Op/\g.Op<=8)/\(4<=g.Op->0<=g.A/\g.A<=k-1)/\(4<=g.Op->g.Op<=7->0<=g.B/\g.B<=k-1)/\(g.Op=3->okF g.K):=by
 simp only [sI,aB,aA] at h
 obtain ⟨d,a,b,c⟩:=h
 refine ⟨d,fun h=> ?_,fun h e=> ?_,fun h=> ?_⟩
 ·rw [brd (by
   unfold CJ
   split
   ·omega
   ·split<;>omega)] at a
  exact gy a
 ·rw [brd (by unfold CJ;rw [aa ⟨h,e⟩];omega)] at b
  exact gy b
 ·rw [bre h] at c
  exact H9.1 c
theorem mL {l:List aC} {j:Nat} {op:Int} (a:j<l.length) (h:l[j].Op=op):cu (l.take j) op<cu l op:=by
 have b:cu (l.take (j+1)) op<=cu l op:=List.Sublist.countP_le (List.take_sublist _ _)
 rw [cA a,jf,aa (by simp [h])] at b
 omega
theorem CW {l:List Int} {k:Nat} (h:k<l.length):atL l (k:Int)=some (l.getD k 0):=by rw [cJ h];simp [h]
theorem lR {l:List Int} {k:Nat} (h:k<l.length):l[k]? =some (l.getD k 0):=by simp [h]
theorem ko {l:List Int} (h:gY l) {k:Nat} (a:k<l.length):okF (l.getD k 0):=by
 have:l.getD k 0=l[k]:=by simp [a]
 rw [this];exact h _ (b9 a)
theorem c1q {P I o:List Int} {p i:Nat} {g:aC} (d:gY P) (e:gY I) (f:gY o) (j:sI g (o.length:Int)=true) (k:g.Op=2->p<P.length) (hi:g.Op=1->i<I.length):okF (gvM P I o p i g):=by
 obtain ⟨n,l,c,m⟩:=xF j
 unfold gvM
 split
 ·rename_i h;exact ko e (hi h)
 split
 ·rename_i h;exact ko d (k h)
 split
 ·rename_i h;exact m h
 have a:=l om
 split
 ·have b:=c om om;exact Z0 _ _
 split
 ·have b:=c om om;exact b0K _ _
 split
 ·exact wd _ _
 ·exact ko f om
theorem K5 {P I:List Int} {l:List aC} (ok:OkC l) (c:gY P) (d:gY I) (lP:P.length=cu l 2) (lI:I.length=cu l 1): ∀j,j<=l.length->gY (rnM P I l j)
 |0,_=>fun x a=>by cases a
 |j+1,h=>by
  have ih:=K5 ok c d lP lI j om
  have b:j<l.length:=by omega
  have e:l.getD j ⟨0,0,0,0⟩=l[j]:=by simp [b]
  intro x a
  rw [rnM,e,aJ,bI] at a
  rcases a with a|rfl
  ·exact ih x a
  ·exact c1q c d ih (by rw [rY];exact ok.g j b) (fun h=>by rw [lP];exact mL b h) (fun h=>by rw [lI];exact mL b h)
theorem YR {c:Circuit} {P I:List Int} (ok:OkC c.Gates) (p:gY P) (q:gY I) (lP:P.length=cu c.Gates 2) (lI:I.length=cu c.Gates 1):GR c P I=some (rnM P I c.Gates c.Gates.length):=by
 have hn:=ok.n2
 unfold GR
 have key:=bq (step:=rP P I c.Gates) (fun j=>(rnM P I c.Gates j,(cu (c.Gates.take j) 2:Int),(cu (c.Gates.take j) 1:Int),(j:Int))) c.Gates.length (e:=(rnM P I c.Gates c.Gates.length,(cu c.Gates 2:Int),(cu c.Gates 1:Int),(c.Gates.length:Int),false)) (fun j i=> ?_) ?_
 ·have:((rnM P I c.Gates 0,(cu (c.Gates.take 0) 2:Int),(cu (c.Gates.take 0) 1:Int),((0:Nat):Int)):List Int×Int×Int×Int)=([],0,0,0):=rfl
  rw [<-this,key];rfl
 ·have r:c.Gates.getD j ⟨0,0,0,0⟩=c.Gates[j]:=by simp [i]
  obtain ⟨u,k,l,w⟩:=xF (ok.g j i)
  have l2:=iY (c.Gates.take j) 2
  have s:=iY (c.Gates.take j) 1
  rw [aD] at s l2
  have f:=K5 ok p q lP lI j om
  have m:=rY P I c.Gates j
  have t2:=mL (op:=2) i
  have t:=mL (op:=1) i
  simp only [rP]
  rw [brd om,cJ i,obs,cA i,jf,jf,rnM,r]
  generalize c.Gates[j]=g at*
  generalize rnM P I c.Gates j=o at*
  have d: ∀v:Int,(o++[v]).length*8<=1099511627776:=fun v=>by rw [a8,m];simp;omega
  have n:g.Op=1\/g.Op=2\/g.Op=3\/g.Op=4\/g.Op=5\/g.Op=6\/7<=g.Op:=by omega
  rcases n with h|h|h|h|h|h|h
  ·rw [bre h,CW (by have:=t h;omega),obs,aS (d _),ai _ om om,ai _ om om]
   simp [gvM,h]
  ·rw [cn om,bre h,CW (by have:=t2 h;omega),obs,aS (d _),ai _ om om,ai _ om om]
   simp [gvM,h]
  ·rw [cn om,cn om,bre h,aS (d _),ai _ om om]
   simp [gvM,h]
  ·have a:=k om
   have b:=l om om
   rw [cn om,cn om,cn om,bre h,brd a.1,brd om,lR om,obs,brd b.1,brd om,lR om,obs,b4s (ko f om) (ko f om),obs,aS (d _),ai _ om om]
   simp [gvM,h]
  ·have a:=k om
   have b:=l om om
   rw [cn om,cn om,cn om,cn om,bre h,brd a.1,brd om,lR om,obs,brd b.1,brd om,lR om,obs,b3c (ko f om) (ko f om),obs,aS (d _),ai _ om om]
   simp [gvM,h]
  ·have a:=k om
   have b:=l om om
   rw [cn om,cn om,cn om,cn om,cn om,bre h,brd a.1,brd om,lR om,obs,brd b.1,brd om,lR om,obs,b3H (ko f om) (ko f om),obs,aS (d _),ai _ om om]
   simp [gvM,h]
  ·have a:=k om
   rw [cn om,cn om,cn om,cn om,cn om,cn om,brd a.1,brd om,lR om,obs,aS (d _),ai _ om om]
   have e1:(g.Op==1)=false:=by simp;omega
   have e2:(g.Op==2)=false:=by simp;omega
   rw [e1,e2,gvM,a7 om,a7 om,a7 om,a7 om,a7 om,a7 om]
   simp
 ·simp only [rP]
  rw [brn om,ae om,bw]
def ly (v:List Int) (g:aC):Bool:=br (g.Op==7) (v.getD g.A.toNat 0==v.getD g.B.toNat 0) true&&br (g.Op==8) (decide (v.getD g.A.toNat 0<=1)) true
theorem WI {l:List Int} {i:Int} (h0:0<=i) (a:i.toNat<l.length):atL l i=some (l.getD i.toNat 0):=by
 have:i=(i.toNat:Int):=by omega
 conv=>lhs;rw [this]
 exact CW a
theorem WL {c:Circuit} {v:List Int} (ok:OkC c.Gates) (u:v.length=c.Gates.length):Di c v=some (c.Gates.all (ly v)):=by
 have hn:=ok.n2
 unfold Di
 have stp: ∀k (d:k<c.Gates.length),jj v c.Gates (k:Int)=if ly v c.Gates[k]=true then some (.inl ((k+1:Nat):Int)) else some (.inr (.inl (c.Gates[k].Op,c.Gates[k].A,c.Gates[k].B,c.Gates[k].K))):=fun k d=>by
  obtain ⟨w,p,q,y⟩:=xF (ok.g k d)
  simp only [jj]
  rw [brd om,cJ d,obs]
  generalize c.Gates[k]=g at*
  have e:IntKind.wrap .i64 ((k:Int)+1)=((k+1:Nat):Int):=by rw [ai _ om om];omega
  by_cases f:g.Op=7
  ·have a:=p om
   have b:=q om om
   rw [bre f,WI a.1 om,obs,WI b.1 om,obs,cn (by omega:g.Op≠8),ly,bre f,cn (by omega:g.Op≠8),dO,e]
   by_cases h:v.getD g.A.toNat 0=v.getD g.B.toNat 0
   ·rw [m9 h,aa (by simpa using h)]
   ·rw [brb h,a7 (by simpa using h)]
  ·rw [cn f,ly,cn f,bm]
   by_cases i:g.Op=8
   ·have a:=p om
    rw [bre i,bre i,WI a.1 om,obs,e]
    by_cases h:v.getD g.A.toNat 0>1
    ·rw [brd h,ae om,a7 sm]
    ·rw [brn h,aj om,aa rfl]
   ·rw [cn i,cn i,aa rfl,e]
 have key:=Ay (step:=jj v c.Gates) (fun k=>(k:Int)) c.Gates.length (fun k=>((c.Gates[k]?.map (ly v)).getD false)) (fun k=> .inl ((c.Gates.getD k ⟨0,0,0,0⟩).Op,(c.Gates.getD k ⟨0,0,0,0⟩).A,(c.Gates.getD k ⟨0,0,0,0⟩).B,(c.Gates.getD k ⟨0,0,0,0⟩).K)) (e:= .inr ((c.Gates.length:Int),false)) (fun k d j=>by
  have l:ly v c.Gates[k]=true:=by simpa [d] using j
  rw [stp k d,aa l])
  (fun k d j=>by
   have l:ly v c.Gates[k]=false:=by simpa [d] using j
   have r:c.Gates.getD k ⟨0,0,0,0⟩=c.Gates[k]:=by simp [d]
   rw [stp k d,a7 (by rw [l];simp),r])
  (by simp only [jj];rw [brn om,ae om])
 rcases key with ⟨m,n⟩|⟨k,d,m,_,n⟩
 ·have e:Loop (jj v c.Gates) 0=some (.inr ((c.Gates.length:Int),false)):=n
  have o:c.Gates.all (ly v)=true:=an.2 fun x s=>by
   obtain ⟨k,d,rfl⟩:=bp s
   simpa [d] using m k d
  rw [e,o,obs,uT]
 ·have o:c.Gates.all (ly v)=false:=w8.2 ⟨c.Gates[k],b9 d,by simpa [d] using m⟩
  have t:Loop (jj v c.Gates) 0=_:=n
  rw [t,o,obs,sr]
def prM (v:List Int) (l:List aC):Nat->List Int
 |0=>[]
 |j+1=>prM v l j++(if (l.getD j ⟨0,0,0,0⟩).Op=2 then [] else [v.getD j 0])
theorem HF (v:List Int) (l:List aC): ∀j,j<=l.length->(prM v l j).length+cu (l.take j) 2=j
 |0,_=>rfl
 |j+1,h=>by
  have b:j<l.length:=by omega
  have ih:=HF v l j om
  have c:l.getD j ⟨0,0,0,0⟩=l[j]:=by simp [b]
  rw [prM,cA b,jf,a8,c]
  by_cases a:l[j].Op=2
  ·rw [aa a,aa (by simp [a])];simp;omega
  ·rw [a7 a,a7 (by simp [a])];simp;omega
theorem Yy {v:List Int} {l:List aC} (b:gY v) (c:v.length=l.length): ∀j,j<=l.length->gY (prM v l j)
 |0,_=>fun x a=>by cases a
 |j+1,h=>by
  have ih:=Yy b c j om
  intro x a
  rw [prM,aJ] at a
  rcases a with a|a
  ·exact ih x a
  ·split at a
   ·cases a
   ·rw [bI] at a;subst a;exact ko b om
end
section
def lgM (m:Int):Nat:=if m<=2 then 2 else if m<=4 then 3 else if m<=8 then 4 else 5
def lgC (l:List aC):Nat:=lgM (mx ((cu l 2:Int)+1) ((l.length:Int)-(cu l 2:Int)))
theorem c2Y (m:Int):2<=lgM m/\lgM m<=5:=by
 unfold lgM
 split
 ·omega
 ·split
  ·omega
  ·split<;>omega
theorem b6B {m:Int} (h:m<=15):m<=((2^(lgM m-1):Nat):Int):=by
 unfold lgM
 split
 ·simpa
 ·split
  ·simpa
  ·split
   ·simpa
   ·simp;omega
def Ed (l:List aC) (j:Nat):Int:=if (l.getD j ⟨0,0,0,0⟩).Op=2 then (cu (l.take j) 2:Int)+1 else ((2^(lgC l-1):Nat):Int)+((j:Int)-(cu (l.take j) 2:Int))
def jU (l:List aC) (n:Nat):List Int:=(List.range n).map (Ed l)
theorem Vf (l:List aC) (n:Nat):(jU l n).length=n:=by simp [jU]
theorem a40 (l:List aC) (n:Nat):jU l (n+1)=jU l n++[Ed l n]:=by simp [jU,dY]
end
section
def enP (row col:Int) (e:aN):Bool:=decide (e.Row=row)&&decide (e.Col>col)
def enR (row col v:Int):List aN->List aN
 |[]=>[⟨row,col,v⟩]
 |e::R=>if enP row col e=true then e::enR row col v R
  else if e.Row=row/\e.Col=col then (if aF e.Value v=0 then R else ⟨row,col,aF e.Value v⟩::R)
  else ⟨row,col,v⟩::e::R
def enM (L:List aN) (row col v:Int):List aN:=(enR row col v L.reverse).reverse
theorem a4J {row col v:Int} {R:List aN}: ∀{T:List aN},(∀e∈T,enP row col e=true)->enR row col v (T++R)=T++enR row col v R
 |[],_=>rfl
 |e::T,h=>by
  rw [hO,enR,aa (h e sm),a4J fun x hx=>h x (by simp [hx])];rfl
theorem b1E (row col:Int) (L:List aN): ∃A T,L=A++T/\(∀e∈T,enP row col e=true)/\(A=[]\/ ∃B e,A=B++[e]/\enP row col e=false):=by
 refine ⟨(L.reverse.dropWhile (enP row col)).reverse,(L.reverse.takeWhile (enP row col)).reverse, ?_, ?_, ?_⟩
 ·rw [<-jG,List.takeWhile_append_dropWhile,List.reverse_reverse]
 ·intro e a
  rw [List.mem_reverse] at a
  have: ∀(l:List aN), ∀e∈l.takeWhile (enP row col),enP row col e=true:=by
   intro l
   induction l with
   |nil=>intro e a;cases a
   |cons x l ih=>
    intro e a
    rw [List.takeWhile_cons] at a
    split at a
    ·rename_i b
     rcases aW.1 a with rfl|a
     ·exact b
     ·exact ih e a
    ·cases a
  exact this _ e a
 ·have: ∀(l:List aN),l.dropWhile (enP row col)=[]\/ ∃x r,l.dropWhile (enP row col)=x::r/\enP row col x=false:=by
   intro l
   induction l with
   |nil=>exact .inl rfl
   |cons x l ih=>
    rw [List.dropWhile_cons]
    split
    ·exact ih
    ·rename_i b;exact .inr ⟨x,l,rfl,by simpa using b⟩
  rcases this L.reverse with h|⟨x,r,h,b⟩
  ·exact .inl (by rw [h];rfl)
  ·exact .inr ⟨r.reverse,x,by rw [h,List.reverse_cons],b⟩
theorem V5 {row col v:Int} {A T:List aN} (h: ∀e∈T,enP row col e=true):enM (A++T) row col v=enM A row col v++T:=by
 unfold enM
 rw [jG,a4J (fun e a=>h e (by simpa using a)),jG,List.reverse_reverse]
end
section
def muS (z T:List Int) (e:aN):List Int:=T.set e.Row.toNat (aF (T.getD e.Row.toNat 0) (mF e.Value (z.getD e.Col.toNat 0)))
theorem VR (z:List Int): ∀(l:List aN) (T:List Int),(l.foldl (muS z) T).length=T.length
 |[],_=>rfl
 |e::l,T=>by rw [bQ,VR z l,muS,aO]
theorem c2C {z T:List Int} {e:aN} (h:gY T):gY (muS z T e):=by
 intro x a
 unfold muS at a
 rcases dC a with a|rfl
 ·exact h x a
 ·exact Z0 _ _
theorem a3O (z:List Int): ∀(l:List aN) (T:List Int),gY T->gY (l.foldl (muS z) T)
 |[],_,h=>h
 |e::l,T,h=>by rw [bQ];exact a3O z l _ (c2C h)
def muM (l:List aN) (n:Nat) (z:List Int):List Int:=l.foldl (muS z) (List.replicate (2^n) 0)
theorem Lo (l:List aN) (n:Nat) (z:List Int):(muM l n z).length=2^n:=by rw [muM,VR,aL]
theorem c1Y (l:List aN) (n:Nat) (z:List Int):gY (muM l n z):=a3O z l _ (by
 intro x a
 rw [List.eq_of_mem_replicate a]
 exact ⟨by omega,by omega⟩)
end
section
structure MkR (l:List aN) (row C:Int):Prop where
 ent: ∀x∈l,0<=x.Row/\x.Row<=row/\0<=x.Col/\x.Col<=C-1/\1<=x.Value/\x.Value<=2130706432
 srt:l.Pairwise ltE
theorem MkR.nil (row C:Int):MkR [] row C:=⟨fun x a=>(by cases a),List.Pairwise.nil⟩
theorem MkR.up {l:List aN} {row C r:Int} (h:MkR l row C) (e:row<=r):MkR l r C:=
 ⟨fun x d=>by obtain ⟨a,b,c⟩:=h.ent x d;exact ⟨a,by omega,c⟩,h.srt⟩
theorem Y5 {A T:List aN} {n:aN} {row C:Int} (h:MkR (A++T) row C) (hn:n.Row=row) (h0:0<=row) (hc:0<=n.Col/\n.Col<=C-1) (e:1<=n.Value/\n.Value<=2130706432) (i: ∀a∈A,ltE a n) (j: ∀b∈T,ltE n b):MkR (A++[n]++T) row C:=by
 obtain ⟨k,p2,p3⟩:=gJ.1 h.srt
 refine ⟨fun x c=> ?_, ?_⟩
 ·simp only [aJ,bI] at c
  rcases c with (c|rfl)|c
  ·exact h.ent x (by simp [c])
  ·exact ⟨by omega,by omega,hc.1,hc.2,e.1,e.2⟩
  ·exact h.ent x (by simp [c])
 ·rw [aP,gJ]
  refine ⟨k, ?_,fun a f b d=> ?_⟩
  ·rw [b8,iD];exact ⟨j,p2⟩
  ·rw [b8,aW] at d
   rcases d with rfl|d
   ·exact i a f
   ·exact p3 a f b d
theorem MkR.sub {l l':List aN} {row C:Int} (h:MkR l row C) (a:List.Sublist l' l):MkR l' row C:=
 ⟨fun x b=>h.ent x (a.subset b),h.srt.sublist a⟩
theorem qH {l:List aN} {row col v C:Int} (h:MkR l row C) (h0:0<=row) (hc:0<=col/\col<=C-1) (j:1<=v/\v<=2130706432):MkR (enM l row col v) row C/\(enM l row col v).length<=l.length+1:=by
 obtain ⟨A,T,rfl,k,q⟩:=b1E row col l
 have d: ∀b∈T,b.Row=row/\b.Col>col:=fun b e=>by simpa [enP] using k b e
 rw [V5 k]
 rcases q with rfl|⟨B,x,rfl,m⟩
 ·refine ⟨Y5 (A:=[]) (n:=⟨row,col,v⟩) h rfl h0 hc j (fun a c=>by cases c) (fun b e=> ?_),by simp [enM,enR]⟩
  have:=d b e
  unfold ltE;dsimp only;omega
 ·have r:enM (B++[x]) row col v=if x.Row=row/\x.Col=col then (if aF x.Value v=0 then B else B++[⟨row,col,aF x.Value v⟩]) else B++[x]++[⟨row,col,v⟩]:=by
   unfold enM
   rw [jG,List.reverse_singleton,b8,enR,a7 (by rw [m];simp)]
   split
   ·split<;>simp
   ·simp
  have s:=h.ent x sm
  obtain ⟨t,p2,p3⟩:=gJ.1 h.srt
  obtain ⟨q1,q2,q3⟩:=gJ.1 t
  have f: ∀a∈B,ltE a x:=fun a c=>q3 a c x sm
  rw [r]
  split
  ·rename_i u
   have o:MkR (B++T) row C:=h.sub sm
   split
   ·exact ⟨o,by simp;omega⟩
   ·rename_i w
    have p:=Z0 x.Value v
    refine ⟨Y5 o rfl h0 hc ⟨(by have:=p.1;show 1<=aF x.Value v;omega),p.2⟩ (fun a c=> ?_) (fun b e=> ?_),by simp⟩
    ·have:=f a c
     unfold ltE at*;dsimp only;omega
    ·have:=d b e
     unfold ltE;dsimp only;omega
  ·rename_i u
   have i:ltE x ⟨row,col,v⟩:=by
    simp only [enP,m7,cg] at m
    unfold ltE;dsimp only;omega
   refine ⟨Y5 h rfl h0 hc j (fun a c=> ?_) (fun b e=> ?_),by simp;omega⟩
   ·rcases aJ.1 c with c|c
    ·exact Vz (f a c) i
    ·rw [bI] at c;subst c;exact i
   ·have:=d b e
    unfold ltE;dsimp only;omega
end
section
def syM (a b c:Int) (g:aC) (r:Int) (A B C:List aN):Int×List aN×List aN×List aN:=
 if g.Op=1\/g.Op=2 then (r,A,B,C)
 else if g.Op=6 then (r+1,enM A r a 1,enM B r b 1,enM C r c 1)
 else if g.Op=4 then (r+1,enM (enM A r a 1) r b 1,enM B r 0 1,enM C r c 1)
 else if g.Op=5 then (r+1,enM (enM A r a 1) r b 2130706432,enM B r 0 1,enM C r c 1)
 else if g.Op=3 then (r+1,if g.K>0 then enM A r 0 g.K else A,enM B r 0 1,enM C r c 1)
 else if g.Op=7 then (r+1+1,enM (enM A r b 1) (r+1) a 1,enM (enM B r 0 1) (r+1) 0 1,enM (enM C r c 1) (r+1) c 1)
 else (r+1+1,enM (enM A r a 1) (r+1) a 1,enM (enM B r a 1) (r+1) 0 1,enM (enM C r c 1) (r+1) c 1)
end
section
structure Mk3 (r:Int) (A B C:List aN) (CC:Int) (n:Nat):Prop where
 a:MkR A (r-1) CC
 b:MkR B (r-1) CC
 c:MkR C (r-1) CC
 la:A.length<=n
 lb:B.length<=n
 lc:C.length<=n
theorem Mk3.of {r' r:Int} {A B C:List aN} {CC:Int} {n m:Nat} (e:r'-1=r) (a:MkR A r CC) (b:MkR B r CC) (c:MkR C r CC) (la:A.length<=n) (lb:B.length<=n) (lc:C.length<=n) (h:n<=m):Mk3 r' A B C CC m:=by
 subst e;exact ⟨a,b,c,by omega,by omega,by omega⟩
theorem c4K {a b c r CC:Int} {g:aC} {A B C:List aN} {n:Nat} (d:0<=r) (u:1<=CC) (e:4<=g.Op->0<=a/\a<=CC-1) (f:4<=g.Op->g.Op<=7->0<=b/\b<=CC-1) (hc:0<=c/\c<=CC-1) (s:g.Op=3->okF g.K)
 (t:1<=g.Op/\g.Op<=8) (m:Mk3 r A B C CC n):
 Mk3 (syM a b c g r A B C).1 (syM a b c g r A B C).2.1 (syM a b c g r A B C).2.2.1 (syM a b c g r A B C).2.2.2 CC (n+2)/\r<=(syM a b c g r A B C).1/\(syM a b c g r A B C).1<=r+2:=by
 have one:(1:Int)<=1/\(1:Int)<=2130706432:=⟨by omega,by omega⟩
 have big:(1:Int)<=2130706432/\(2130706432:Int)<=2130706432:=⟨by omega,by omega⟩
 have h:(0:Int)<=0/\(0:Int)<=CC-1:=⟨by omega,by omega⟩
 have mA:=m.a.up (r:=r) om
 have mB:=m.b.up (r:=r) om
 have mC:=m.c.up (r:=r) om
 have la:=m.la
 have lb:=m.lb
 have lc:=m.lc
 have nB:=qH mB d h one
 have nC:=qH mC d hc one
 have nB2:=qH (nB.1.up (r:=r+1) om) om h one
 have nC2:=qH (nC.1.up (r:=r+1) om) om hc one
 unfold syM
 by_cases j:g.Op=1\/g.Op=2
 ·rw [aa j];exact ⟨⟨m.a,m.b,m.c,by dsimp only;omega,by dsimp only;omega,by dsimp only;omega⟩,by dsimp only;omega,by dsimp only;omega⟩
 rw [a7 j]
 by_cases k:g.Op=6
 ·have nA:=qH mA d (e om) one
  have nb:=qH mB d (f om om) one
  rw [aa k];exact ⟨Mk3.of (n:=n+1) dmo nA.1 nb.1 nC.1 dmo dmo dmo om,by dsimp only;omega,by dsimp only;omega⟩
 rw [a7 k]
 by_cases l:g.Op=4
 ·have nA:=qH mA d (e om) one
  have nA2:=qH nA.1 d (f om om) one
  rw [aa l];exact ⟨Mk3.of (n:=n+2) dmo nA2.1 nB.1 nC.1 dmo dmo dmo om,by dsimp only;omega,by dsimp only;omega⟩
 rw [a7 l]
 by_cases o:g.Op=5
 ·have nA:=qH mA d (e om) one
  have nA2:=qH nA.1 d (f om om) big
  rw [aa o];exact ⟨Mk3.of (n:=n+2) dmo nA2.1 nB.1 nC.1 dmo dmo dmo om,by dsimp only;omega,by dsimp only;omega⟩
 rw [a7 o]
 by_cases i:g.Op=3
 ·rw [aa i]
  by_cases p:g.K>0
  ·have nA:=qH mA d h (v:=g.K) ⟨by omega,(s i).2⟩
   rw [aa p];exact ⟨Mk3.of (n:=n+1) dmo nA.1 nB.1 nC.1 dmo dmo dmo om,by dsimp only;omega,by dsimp only;omega⟩
  ·rw [a7 p];exact ⟨Mk3.of (n:=n+1) dmo mA nB.1 nC.1 dmo dmo dmo om,by dsimp only;omega,by dsimp only;omega⟩
 rw [a7 i]
 by_cases q:g.Op=7
 ·have nA:=qH mA d (f om om) one
  have nA2:=qH (nA.1.up (r:=r+1) om) om (e om) one
  rw [aa q];exact ⟨Mk3.of (n:=n+2) dmo nA2.1 nB2.1 nC2.1 dmo dmo dmo om,by dsimp only;omega,by dsimp only;omega⟩
 ·have nA:=qH mA d (e om) one
  have nA2:=qH (nA.1.up (r:=r+1) om) om (e om) one
  have nb:=qH mB d (e om) one
  have nb2:=qH (nb.1.up (r:=r+1) om) om h one
  rw [a7 q];exact ⟨Mk3.of (n:=n+2) dmo nA2.1 nb2.1 nC2.1 dmo dmo dmo om,by dsimp only;omega,by dsimp only;omega⟩
end
section
theorem NG (l:List aC) (k:Nat) (op:Int):cu l op<=cu (l.take k) op+(l.length-k):=by
 have h:cu l op=cu (l.take k) op+(l.drop k).countP (fun g=>g.Op==op):=by
  conv=>lhs;rw [<-j0 k l]
  simp only [cu,List.countP_append]
 have:=sH (p:=fun g:aC=>g.Op==op) (l:=l.drop k)
 rw [bP] at this
 omega
theorem Ny (l:List aC):2<=lgC l/\lgC l<=5:=c2Y _
theorem Ti {n:Nat} (h:1<=n):((2^n:Nat):Int)=((2^(n-1):Nat):Int)+((2^(n-1):Nat):Int):=by
 obtain ⟨m,rfl⟩: ∃m,n=m+1:=⟨n-1,by omega⟩
 rw [cU,aZ];omega
theorem c2V {a b c:Int} (h:mx a b<=c):a<=c/\b<=c:=by
 unfold mx at h
 split at h<;>constructor<;>omega
theorem a2z {l:List aC} (ok:OkC l):(cu l 2:Int)+1<=((2^(lgC l-1):Nat):Int)/\(l.length:Int)-(cu l 2:Int)<=((2^(lgC l-1):Nat):Int):=by
 have b:=ok.n2
 have c:=ok.p
 have d:=iY l 2
 have a:mx ((cu l 2:Int)+1) ((l.length:Int)-(cu l 2:Int))<=15:=by unfold mx;split<;>omega
 exact c2V (b6B a)
theorem a5D {l:List aC} (ok:OkC l) {j:Nat} (a:j<l.length):0<=Ed l j/\Ed l j<=((2^lgC l:Nat):Int)-1:=by
 have c:=a2z ok
 have d:=Ny l
 have e:=Ti (n:=lgC l) om
 have f:cu (l.take j) 2<=j:=by have:=iY (l.take j) 2;rw [aD] at this;omega
 unfold Ed
 rw [show l.getD j ⟨0,0,0,0⟩=l[j] by simp [a]]
 split
 ·rename_i h
  have:=mL a h
  omega
 ·rename_i h
  have b:=NG l (j+1) 2
  rw [cA a,jf,a7 (by simpa using h)] at b
  omega
theorem Du {l:List aC} {n i:Nat} (hi:i<n):(jU l n).getD i 0=Ed l i:=by
 simp [jU,hi]
def fdM (l:List aC):Nat->Int×List aN×List aN×List aN
 |0=>(0,[],[],[])
 |j+1=>syM ((jU l l.length).getD (l.getD j ⟨0,0,0,0⟩).A.toNat 0) ((jU l l.length).getD (l.getD j ⟨0,0,0,0⟩).B.toNat 0) ((jU l l.length).getD j 0) (l.getD j ⟨0,0,0,0⟩) (fdM l j).1 (fdM l j).2.1 (fdM l j).2.2.1 (fdM l j).2.2.2
theorem MH {l:List aC} (ok:OkC l): ∀j,j<=l.length->Mk3 (fdM l j).1 (fdM l j).2.1 (fdM l j).2.2.1 (fdM l j).2.2.2 ((2^lgC l:Nat):Int) (2*j)/\0<=(fdM l j).1/\(fdM l j).1<=2*j
 |0,_=>⟨⟨MkR.nil _ _,MkR.nil _ _,MkR.nil _ _,am _,am _,am _⟩,Int.le_refl _,by simp [fdM]⟩
 |j+1,h=>by
  obtain ⟨m,h0,h1⟩:=MH ok j om
  have hj:j<l.length:=by omega
  have hd:l.getD j ⟨0,0,0,0⟩=l[j]:=by simp [hj]
  obtain ⟨g1,g2,g3,g4⟩:=xF (ok.g j hj)
  have hp:=Cq (lgC l) (by have:=Ny l;omega)
  have hc: ∀a:Int,0<=a/\a<=(j:Int)-1->0<=(jU l l.length).getD a.toNat 0/\(jU l l.length).getD a.toNat 0<=((2^lgC l:Nat):Int)-1:=fun a ha=>by
   rw [Du om];exact a5D ok om
  have hcj:0<=(jU l l.length).getD j 0/\(jU l l.length).getD j 0<=((2^lgC l:Nat):Int)-1:=by
   rw [Du hj];exact a5D ok hj
  have:=c4K (a:=(jU l l.length).getD l[j].A.toNat 0) (b:=(jU l l.length).getD l[j].B.toNat 0) (c:=(jU l l.length).getD j 0) (g:=l[j]) h0 om (fun h=>hc _ (g2 h)) (fun h h7=>hc _ (g3 h h7)) hcj g4 g1 m
  rw [fdM,hd]
  refine ⟨?_,by omega,by omega⟩
  have e:2*(j+1)=2*j+2:=by omega
  rw [e];exact this.1
def rlM (r:Int):Nat:=if r<=2 then 1 else if r<=4 then 2 else if r<=8 then 3 else if r<=16 then 4 else 5
theorem c2s (r:Int):1<=rlM r/\rlM r<=5:=by
 unfold rlM;repeat' split
 all_goals omega
theorem a6a {r:Int} (h:r<=32):r<=((2^rlM r:Nat):Int):=by
 unfold rlM;repeat' split
 all_goals simp<;>omega
def s7 (l:List aC):bD:=⟨(rlM (fdM l l.length).1:Int),(lgC l:Int),(cu l 2:Int),(fdM l l.length).2.1,(fdM l l.length).2.2.1,(fdM l l.length).2.2.2⟩
theorem b4C {r:Int} {step:Int->Option (Int⊕(Bool×Int))} (m:r<=32) (a: ∀k:Nat,1<=k->k<=5->step (k:Int)=if ((2^k:Nat):Int)<r then some (.inl ((k+1:Nat):Int)) else some (.inr (false,(k:Int)))):
 Loop step 1=some (false,(rlM r:Int)):=by
 have b:=a 1 om om
 have c:=a 2 om om
 have d:=a 3 om om
 have e:=a 4 om om
 have f:=a 5 om om
 simp only [Nat.reducePow,Nat.reduceAdd] at b c d e f
 unfold rlM
 by_cases h:r<=2
 ·rw [aa h];rw [a7 om] at b;exact dx b
 rw [a7 h];rw [aa om] at b
 refine (dt b).trans ?_
 by_cases i:r<=4
 ·rw [aa i];rw [a7 om] at c;exact dx c
 rw [a7 i];rw [aa om] at c
 refine (dt c).trans ?_
 by_cases j:r<=8
 ·rw [aa j];rw [a7 om] at d;exact dx d
 rw [a7 j];rw [aa om] at d
 refine (dt d).trans ?_
 by_cases l:r<=16
 ·rw [aa l];rw [a7 om] at e;exact dx e
 rw [a7 l];rw [aa om] at e
 refine (dt e).trans ?_
 rw [a7 om] at f;exact dx f
end
section
def eT (e:aN):Tri:=(e.Row,e.Col,e.Value)
structure Rm (r:Int) (m:List Tri) (L:List aN):Prop where
 kd:pa m=true
 lt: ∀t∈m,t.1<r
 eq:L.map eT=i0 (m.filter nzT)
theorem Rm.nil (r:Int):Rm r [] []:=⟨rfl,(fun t h=>by cases h),(List.length_eq_zero_iff.1 (oD []).length_eq).symm⟩
theorem Rm.up {r r':Int} {m:List Tri} {L:List aN} (h:Rm r m L) (b:r<=r'):Rm r' m L:=⟨h.kd,fun t a=>by have:=h.lt t a;omega,h.eq⟩
theorem Rm.row {r:Int} {m:List Tri} {L:List aN} (h:Rm r m L): ∀e∈L,e.Row<r:=fun e a=>by
 have:eT e∈i0 (m.filter nzT):=by rw [<-h.eq];exact bf.2 ⟨e,a,rfl⟩
 have:=(oD _).mem_iff.1 this
 exact h.lt _ (k8.1 this).1
theorem a8r {x y:Tri} (h:x.1≠y.1):FJ x y=false:=by
 simp only [FJ,cg];omega
theorem Rm.app {r:Int} {m N:List Tri} {L E:List aN} (h:Rm r m L) (hN: ∀t∈N,t.1=r) (j:pa N=true) (hE:(E.map eT).Perm (N.filter nzT)) (k:(E.map eT).Pairwise (fun x y=>Af y x=false)):Rm (r+1) (m++N) (L++E):=by
 have c:pa (m++N)=true:=by
  refine wV (gJ.2 ⟨uk h.kd,uk j,fun a f b i=>a8r ?_⟩)
  have:=h.lt a f;have:=hN b i;omega
 refine ⟨c,fun t d=> ?_, ?_⟩
 ·rcases aJ.1 d with d|d
  ·have:=h.lt t d;omega
  ·have:=hN t d;omega
 ·refine ES (wV ((uk c).filter _)) ?_ ?_
  ·rw [bW,List.filter_append,h.eq]
   exact (oD _).append hE
  ·rw [bW]
   refine gJ.2 ⟨by rw [h.eq];exact Ex _,k,fun a f b i=> ?_⟩
   obtain ⟨e,l,rfl⟩:=bf.1 f
   have n:=h.row e l
   have o:=hN b (k8.1 (hE.mem_iff.1 i)).1
   rw [BS]
   simp only [eT]
   omega
theorem G7 {r c:Int}: ∀{m:List Tri},(∀t∈m,t.1<r)->j5 r c m=0
 |[],_=>rfl
 | (x,y,v)::m,h=>by
   have h0:=h (x,y,v) sm
   simp only at h0
   rw [j5,a7 om];exact G7 (fun t a=>h t (by simp [a]))
theorem GD {r c v:Int}: ∀{m:List Tri},(∀t∈m,t.1<r)->jp r c v m=m++[(r,c,v)]
 |[],_=>rfl
 | (x,y,u)::m,h=>by
   have h0:=h (x,y,u) sm
   simp only at h0
   rw [jp,a7 om,GD (fun t a=>h t (by simp [a]))];rfl
theorem RQ {r c:Int} {N:List Tri}: ∀{m:List Tri},(∀t∈m,t.1<r)->j5 r c (m++N)=j5 r c N
 |[],_=>rfl
 | (x,y,v)::m,h=>by
   have h0:=h (x,y,v) sm
   simp only at h0
   rw [hO,j5,a7 om];exact RQ (fun t a=>h t (by simp [a]))
theorem a0i {r c v:Int} {N:List Tri}: ∀{m:List Tri},(∀t∈m,t.1<r)->jp r c v (m++N)=m++jp r c v N
 |[],_=>rfl
 | (x,y,u)::m,h=>by
   have h0:=h (x,y,u) sm
   simp only at h0
   rw [hO,jp,a7 om,a0i (fun t a=>h t (by simp [a]))];rfl
theorem a1n {v:Int} (h:okF v):aF 0 v=v:=by
 unfold aF okF at*;omega
theorem LM {r c v:Int} {L:List aN} (h: ∀e∈L,e.Row<r):enM L r c v=L++[⟨r,c,v⟩]:=by
 unfold enM
 have: ∀R:List aN,(∀e∈R,e.Row<r)->enR r c v R=⟨r,c,v⟩::R:=by
  intro R a
  cases R with
  |nil=>rfl
  |cons e R=>
   have:=a e sm
   have b:enP r c e=false:=by
    simp only [enP,m7,cg];omega
   rw [enR,a7 (by rw [b];simp),a7 om]
 rw [this _ (fun e d=>h e (by simpa using d))]
 simp
theorem a4E {r c1 c2 v1 v2:Int} {L:List aN} (h: ∀e∈L,e.Row<r):enM (L++[⟨r,c1,v1⟩]) r c2 v2=
 if c1>c2 then L++[⟨r,c2,v2⟩,⟨r,c1,v1⟩] else if c1=c2 then (if aF v1 v2=0 then L else L++[⟨r,c2,aF v1 v2⟩]) else L++[⟨r,c1,v1⟩,⟨r,c2,v2⟩]:=by
 by_cases b:c1>c2
 ·rw [aa b,V5 (fun e c=>by simp at c;subst c;simp [enP];omega),LM h]
  simp
 ·rw [a7 b]
  unfold enM
  rw [jG,List.reverse_singleton,b8,enR,a7 (by simp [enP];omega)]
  by_cases a:c1=c2
  ·rw [aa ⟨rfl,a⟩,aa a]
   split<;>simp
  ·rw [a7 (fun h=>a h.2),a7 a]
   simp
theorem c6p {r c v:Int} (h:v≠0):nzT (r,c,v)=true:=by simp [nzT,h]
theorem b0o {r c v:Int} (h:v≠0):([(r,c,v)]:List Tri).filter nzT=[(r,c,v)]:=by rw [mD,aa (c6p h)];rfl
theorem c06 {r c:Int}:([(r,c,0)]:List Tri).filter nzT=[]:=rfl
theorem Rm.one {r c v:Int} {m:List Tri} {L:List aN} (h:Rm r m L) (b:v≠0):Rm (r+1) (jp r c v m) (enM L r c v):=by
 rw [GD h.lt,LM h.row]
 refine h.app (fun t a=>by simp at a;subst a;rfl) rfl ?_ ?_
 ·rw [b0o b];exact oU _
 ·simp
theorem Rm.add1 {r c v:Int} {m:List Tri} {L:List aN} (h:Rm r m L) (a:1<=v/\v<=2130706432):Rm (r+1) (jp r c (aF (j5 r c m) v) m) (enM L r c v):=by
 rw [G7 h.lt,a1n ⟨by omega,a.2⟩];exact h.one om
theorem Rm.add0 {r c:Int} {m:List Tri} {L:List aN} (h:Rm r m L):Rm (r+1) (jp r c (aF (j5 r c m) 0) m) L:=by
 rw [G7 h.lt,a1n ⟨by omega,by omega⟩,GD h.lt]
 have:=h.app (N:=[(r,c,0)]) (E:=[]) (fun t a=>by simp at a;subst a;rfl) rfl (by rw [c06];exact oU _) sm
 simpa using this
theorem Rm.add2 {r c1 c2 v1 v2:Int} {m:List Tri} {L:List aN} (h:Rm r m L) (f:1<=v1/\v1<=2130706432) (i:1<=v2/\v2<=2130706432):
 Rm (r+1) (jp r c2 (aF (j5 r c2 (jp r c1 (aF (j5 r c1 m) v1) m)) v2) (jp r c1 (aF (j5 r c1 m) v1) m)) (enM (enM L r c1 v1) r c2 v2):=by
 rw [G7 h.lt,a1n (v:=v1) ⟨by omega,f.2⟩,GD h.lt,RQ h.lt,a0i h.lt,LM h.row,a4E h.row]
 by_cases hc:c1=c2
 ·subst hc
  rw [a7 om,aa rfl]
  have e1:j5 r c1 [(r,c1,v1)]=v1:=by simp [j5]
  have e2: ∀u,jp r c1 u [(r,c1,v1)]=[(r,c1,u)]:=fun u=>by simp [jp]
  rw [e1,e2]
  by_cases c:aF v1 v2=0
  ·rw [aa c,c]
   have:=h.app (N:=[(r,c1,0)]) (E:=[]) (fun t a=>by simp at a;subst a;rfl) rfl (by rw [c06];exact oU _) sm
   simpa using this
  ·rw [a7 c]
   refine h.app (fun t a=>by simp at a;subst a;rfl) rfl ?_ ?_
   ·rw [b0o c];exact oU _
   ·simp
 ·have e1:j5 r c2 [(r,c1,v1)]=0:=by simp [j5];omega
  have e2: ∀u,jp r c2 u [(r,c1,v1)]=[(r,c1,v1),(r,c2,u)]:=fun u=>by
   rw [jp,a7 om];rfl
  rw [e1,e2,a1n ⟨by omega,i.2⟩]
  have hN: ∀t∈([(r,c1,v1),(r,c2,v2)]:List Tri),t.1=r:=fun t a=>by simp at a;rcases a with rfl|rfl<;>rfl
  have d:pa [(r,c1,v1),(r,c2,v2)]=true:=by simp [pa,FJ];omega
  have e:([(r,c1,v1),(r,c2,v2)]:List Tri).filter nzT=[(r,c1,v1),(r,c2,v2)]:=by
   rw [mD,aa (c6p om),b0o om]
  by_cases b:c1>c2
  ·rw [aa b]
   refine h.app hN d ?_ ?_
   ·rw [e];exact List.Perm.swap _ _ _
   ·simp only [aM,eu,eT,iD,bI,forall_eq,BS]
    refine ⟨by omega,by simp⟩
  ·rw [a7 b,a7 hc]
   refine h.app hN d ?_ ?_
   ·rw [e];exact oU _
   ·simp only [aM,eu,eT,iD,bI,forall_eq,BS]
    refine ⟨by omega,by simp⟩
theorem qM (r c v:Int): ∀m:List Tri,(jp r c v m).length<=m.length+1
 |[]=>by simp [jp]
 | (x,y,u)::m=>by
   rw [jp];split
   ·simp
   ·have:=qM r c v m;simp;omega
theorem W4 {r c:Int} {m:List Tri} (h: ∀t∈m,t.1<r):okF (j5 r c m):=by rw [G7 h];exact ⟨by omega,by omega⟩
theorem Rm.ent {r:Int} {m:List Tri} {L:List aN} (h:Rm r m L) (a:m.length<1073741824):wD m=some (L,m):=by
 unfold wD
 rw [h.kd,bm,brd a, <-h.eq]
 have:(L.map eT).map BD=L:=by
  rw [fb]
  have: ∀e∈L,(BD∘eT) e=e:=fun e _=>rfl
  rw [bk this];simp
 rw [this]
end
section
theorem Oa {g:aC} {k:Int} (h0:0<=k) (t:k<=1048576):G3 g k=some (sI g k):=by
 unfold G3 sI
 simp only [Kw,zo,obs]
 rw [ai (k-1) om om]
 obtain ⟨op,a,b,c⟩:=g
 dsimp only
 generalize decide (0<=a/\a<=k-1)=x
 generalize decide (0<=b/\b<=k-1)=y
 generalize El c=z
 generalize (a==0)=za
 generalize (b==0)=zb
 generalize (c==0)=zc
 have d:op=3\/op=4\/op=5\/op=6\/op=7\/op=8\/(op≠3/\op≠4/\op≠5/\op≠6/\op≠7/\op≠8):=by omega
 rcases d with rfl|rfl|rfl|rfl|rfl|rfl|⟨f,h,i,j,l,e⟩
 ·cases x<;>cases y<;>cases z<;>cases za<;>cases zb<;>cases zc<;>rfl
 ·cases x<;>cases y<;>cases z<;>cases za<;>cases zb<;>cases zc<;>rfl
 ·cases x<;>cases y<;>cases z<;>cases za<;>cases zb<;>cases zc<;>rfl
 ·cases x<;>cases y<;>cases z<;>cases za<;>cases zb<;>cases zc<;>rfl
 ·cases x<;>cases y<;>cases z<;>cases za<;>cases zb<;>cases zc<;>rfl
 ·cases x<;>cases y<;>cases z<;>cases za<;>cases zb<;>cases zc<;>rfl
 ·have m:CJ op=0:=by unfold CJ;rw [a7 om,a7 e]
  have n:(op==3)=false:=by simpa using f
  have p:(op==4)=false:=by simpa using h
  have q:(op==5)=false:=by simpa using i
  have r:(op==6)=false:=by simpa using j
  have s:(op==7)=false:=by simpa using l
  have e8:(op==8)=false:=by simpa using e
  rw [m,n,p,q,r,s,e8]
  generalize decide (1<=op/\op<=8)=o
  cases o<;>cases za<;>cases zb<;>cases zc<;>rfl
theorem Er {c:Circuit} {op:Int} (h:c.Gates.length<=1048576):gr c op=some (cu c.Gates op:Int):=by
 unfold gr
 have key:=bq (step:=gz op c.Gates (c.Gates.length:Int) c.Gates) (fun j=>((cu (c.Gates.take j) op:Int),(j:Int))) c.Gates.length (e:=((cu c.Gates op:Int),(c.Gates.length:Int),false)) (fun j b=> ?_) ?_
 ·rw [show ((0:Int),(0:Int))=((cu (c.Gates.take 0) op:Int),((0:Nat):Int)) from rfl,key];rfl
 ·have a:=iY (c.Gates.take j) op
  rw [aD] at a
  simp only [gz]
  rw [brd om,cJ b,obs,cA b,jf]
  cases d:(c.Gates[j].Op==op)
  ·rw [bu,a7 sm,ai _ om om];simp
  ·rw [dj,aa rfl,ai _ om om,ai _ om om];simp
 ·simp only [gz]
  rw [brn om,ae om,bw]
theorem G8 {c:Circuit} (h:c.Gates.length<=1048576):uF c=some (GL c.Gates):=by
 unfold uF GL
 rw [Kw,obs]
 by_cases l:1<=c.Gates.length/\c.Gates.length<=15
 ·rw [aj om,aj l,aQ,bu,bm]
  have key:=Ay (step:=gR c.Gates (c.Gates.length:Int) c.Gates) (fun k=>(k:Int)) c.Gates.length (fun k=>((c.Gates[k]?.map fun g=>sI g (k:Int)).getD false)) (fun k=> .inl ((c.Gates.getD k ⟨0,0,0,0⟩).Op,(c.Gates.getD k ⟨0,0,0,0⟩).A,(c.Gates.getD k ⟨0,0,0,0⟩).B,(c.Gates.getD k ⟨0,0,0,0⟩).K)) (e:= .inr ((c.Gates.length:Int),false)) (fun k a b=>by
   have d:sI c.Gates[k] (k:Int)=true:=by simpa [a] using b
   simp only [gR]
   rw [brd om,cJ a,obs,Oa om om,obs,d,aQ,bu,ai _ om om];rfl)
   (fun k a b=>by
    have d:sI c.Gates[k] (k:Int)=false:=by simpa [a] using b
    have m:c.Gates.getD k ⟨0,0,0,0⟩=c.Gates[k]:=by simp [a]
    simp only [gR]
    rw [brd om,cJ a,obs,Oa om om,obs,d,lF,dj,m])
   (by simp only [gR];rw [brn om,ae om])
  rcases key with ⟨f,i⟩|⟨k,a,f,_,i⟩
  ·have e:Loop (gR c.Gates (c.Gates.length:Int) c.Gates) 0=some (.inr ((c.Gates.length:Int),false)):=i
   have j:(List.range c.Gates.length).all (fun k=>((c.Gates[k]?.map fun g=>sI g (k:Int)).getD false))=true:=an.2 fun k a=>f k (bS.1 a)
   rw [e,j,obs,uT,Er h,obs,bm]
  ·have e:Loop (gR c.Gates (c.Gates.length:Int) c.Gates) 0=some (.inl _):=i
   have j:(List.range c.Gates.length).all (fun k=>((c.Gates[k]?.map fun g=>sI g (k:Int)).getD false))=false:=w8.2 ⟨k,bS.2 a,by rw [f];simp⟩
   rw [e,j,obs,sr,ub]
 ·rw [ae om,ae l,lF,dj,ub]
theorem a5v {c v a2 a3 r:Int} {mA mB mC:List Tri} (h0:0<=r) (f:r<=1000) (a:okF (j5 r c mA)) (b:okF v):
 eK [(c,v)] a2 a3 r mA mB mC=some (r+1,jp r c (aF (j5 r c mA) v) mA,jp r a2 1 mB,jp r a3 1 mC):=by
 unfold eK
 have d:dI mB mC a2 a3 [(c,v)] (([(c,v)]:List (Int×Int)).length:Int) r (mA,0)=some (.inl (jp r c (aF (j5 r c mA) v) mA,1)):=by
  simp only [dI]
  rw [brd sm]
  show (Option.bind (some (c,v)) _)=_
  rw [obs,uS a b,obs,ai _ om om];rfl
 have e:dI mB mC a2 a3 [(c,v)] (([(c,v)]:List (Int×Int)).length:Int) r (jp r c (aF (j5 r c mA) v) mA,1)=some (.inr (jp r c (aF (j5 r c mA) v) mA,1,false)):=by
  simp only [dI]
  rw [brn sm,ae sm]
 rw [dt d,dx e,obs,ai _ om om]
theorem b5O {c1 v1 c2 v2 a2 a3 r:Int} {mA mB mC:List Tri} (h0:0<=r) (j:r<=1000) (e:okF (j5 r c1 mA)) (b:okF v1) (c:okF (j5 r c2 (jp r c1 (aF (j5 r c1 mA) v1) mA))) (d:okF v2):
 eK [(c1,v1),(c2,v2)] a2 a3 r mA mB mC=some (r+1,jp r c2 (aF (j5 r c2 (jp r c1 (aF (j5 r c1 mA) v1) mA)) v2) (jp r c1 (aF (j5 r c1 mA) v1) mA),jp r a2 1 mB,jp r a3 1 mC):=by
 unfold eK
 have f:dI mB mC a2 a3 [(c1,v1),(c2,v2)] (([(c1,v1),(c2,v2)]:List (Int×Int)).length:Int) r (mA,0)=some (.inl (jp r c1 (aF (j5 r c1 mA) v1) mA,1)):=by
  simp only [dI]
  rw [brd sm]
  show (Option.bind (some (c1,v1)) _)=_
  rw [obs,uS e b,obs,ai _ om om];rfl
 generalize jp r c1 (aF (j5 r c1 mA) v1) mA=a at*
 have h:dI mB mC a2 a3 [(c1,v1),(c2,v2)] (([(c1,v1),(c2,v2)]:List (Int×Int)).length:Int) r (a,1)=some (.inl (jp r c2 (aF (j5 r c2 a) v2) a,2)):=by
  simp only [dI]
  rw [brd sm]
  show (Option.bind (some (c2,v2)) _)=_
  rw [obs,uS c d,obs,ai _ om om];rfl
 have i:dI mB mC a2 a3 [(c1,v1),(c2,v2)] (([(c1,v1),(c2,v2)]:List (Int×Int)).length:Int) r (jp r c2 (aF (j5 r c2 a) v2) a,2)=some (.inr (jp r c2 (aF (j5 r c2 a) v2) a,2,false)):=by
  simp only [dI]
  rw [brn sm,ae sm]
 rw [dt f,dt h,dx i,obs,ai _ om om]
theorem YQ {r c1 c2 u:Int} {m:List Tri} (h: ∀t∈m,t.1<r) (a:okF u):okF (j5 r c2 (jp r c1 u m)):=by
 rw [GD h,RQ h]
 by_cases hc:c1=c2
 ·have:j5 r c2 [(r,c1,u)]=u:=by simp [j5,hc]
  rw [this];exact a
 ·have:j5 r c2 [(r,c1,u)]=0:=by simp [j5];exact fun e=>absurd e.symm hc
  rw [this];exact ⟨by omega,by omega⟩
structure R3 (r:Int) (mA mB mC:List Tri) (A B C:List aN) (n:Nat):Prop where
 a:Rm r mA A
 b:Rm r mB B
 c:Rm r mC C
 la:mA.length<=n
 lb:mB.length<=n
 lc:mC.length<=n
theorem HH {c v a2 a3 r:Int} {mA mB mC:List Tri} {A B C:List aN} {n:Nat} (h0:0<=r) (e:r<=1000) (d:1<=v/\v<=2130706432) (h:R3 r mA mB mC A B C n):
 ∃mA' mB' mC',eK [(c,v)] a2 a3 r mA mB mC=some (r+1,mA',mB',mC')/\R3 (r+1) mA' mB' mC' (enM A r c v) (enM B r a2 1) (enM C r a3 1) (n+1):=
 ⟨_,_,_,a5v h0 e (W4 h.a.lt) ⟨by omega,d.2⟩,h.a.add1 d,h.b.one om,h.c.one om,by have:=qM r c (aF (j5 r c mA) v) mA;have:=h.la;omega,by have:=qM r a2 1 mB;have:=h.lb;omega,by have:=qM r a3 1 mC;have:=h.lc;omega⟩
theorem b5H {c a2 a3 r:Int} {mA mB mC:List Tri} {A B C:List aN} {n:Nat} (h0:0<=r) (d:r<=1000) (h:R3 r mA mB mC A B C n):
 ∃mA' mB' mC',eK [(c,0)] a2 a3 r mA mB mC=some (r+1,mA',mB',mC')/\R3 (r+1) mA' mB' mC' A (enM B r a2 1) (enM C r a3 1) (n+1):=
 ⟨_,_,_,a5v h0 d (W4 h.a.lt) ⟨by omega,by omega⟩,h.a.add0,h.b.one om,h.c.one om,by have:=qM r c (aF (j5 r c mA) 0) mA;have:=h.la;omega,by have:=qM r a2 1 mB;have:=h.lb;omega,by have:=qM r a3 1 mC;have:=h.lc;omega⟩
theorem a5c {c1 v1 c2 v2 a2 a3 r:Int} {mA mB mC:List Tri} {A B C:List aN} {n:Nat} (h0:0<=r) (f:r<=1000) (d:1<=v1/\v1<=2130706432) (e:1<=v2/\v2<=2130706432) (h:R3 r mA mB mC A B C n):
 ∃mA' mB' mC',eK [(c1,v1),(c2,v2)] a2 a3 r mA mB mC=some (r+1,mA',mB',mC')/\R3 (r+1) mA' mB' mC' (enM (enM A r c1 v1) r c2 v2) (enM B r a2 1) (enM C r a3 1) (n+2):=
 ⟨_,_,_,b5O h0 f (W4 h.a.lt) ⟨by omega,d.2⟩ (YQ h.a.lt (Z0 _ _)) ⟨by omega,e.2⟩,h.a.add2 d e,h.b.one om,h.c.one om,by
   have:=qM r c1 (aF (j5 r c1 mA) v1) mA
   have:=qM r c2 (aF (j5 r c2 (jp r c1 (aF (j5 r c1 mA) v1) mA)) v2) (jp r c1 (aF (j5 r c1 mA) v1) mA)
   have:=h.la;omega,by have:=qM r a2 1 mB;have:=h.lb;omega,by have:=qM r a3 1 mC;have:=h.lc;omega⟩
theorem R3.up {r:Int} {mA mB mC:List Tri} {A B C:List aN} {n m:Nat} (h:R3 r mA mB mC A B C n) (hn:n<=m):R3 r mA mB mC A B C m:=⟨h.a,h.b,h.c,by have:=h.la;omega,by have:=h.lb;omega,by have:=h.lc;omega⟩
theorem xS {t:List Int} {p v:Int} (h:0<=p/\p<t.length):ew p v t=some [(t.getD p.toNat 0,v)]:=by
 unfold ew
 obtain ⟨k,rfl⟩: ∃k:Nat,p=k:=⟨p.toNat,by omega⟩
 rw [CW om,obs,aY]
theorem c0h {t:List Int} {p:Int} (h:0<=p/\p<t.length):atL t p=some (t.getD p.toNat 0):=by
 obtain ⟨k,rfl⟩: ∃k:Nat,p=k:=⟨p.toNat,by omega⟩
 rw [CW om,aY]
theorem a8P {t:List Int} {g:aC} {k c r:Int} {mA mB mC:List Tri} {A B C:List aN} {n:Nat} (p:sI g k=true) (u:k<t.length) (h0:0<=r) (w:r<=100) (h:R3 r mA mB mC A B C n):
 ∃mA' mB' mC',vh g c t r mA mB mC=some ((syM (t.getD g.A.toNat 0) (t.getD g.B.toNat 0) c g r A B C).1,mA',mB',mC')/\
  R3 (syM (t.getD g.A.toNat 0) (t.getD g.B.toNat 0) c g r A B C).1 mA' mB' mC' (syM (t.getD g.A.toNat 0) (t.getD g.B.toNat 0) c g r A B C).2.1 (syM (t.getD g.A.toNat 0) (t.getD g.B.toNat 0) c g r A B C).2.2.1 (syM (t.getD g.A.toNat 0) (t.getD g.B.toNat 0) c g r A B C).2.2.2 (n+2):=by
 obtain ⟨g1,d,i,q⟩:=xF p
 have one:(1:Int)<=1/\(1:Int)<=2130706432:=⟨by omega,by omega⟩
 have big:(1:Int)<=2130706432/\(2130706432:Int)<=2130706432:=⟨by omega,by omega⟩
 unfold vh
 have j:g.Op=1\/g.Op=2\/g.Op=3\/g.Op=4\/g.Op=5\/g.Op=6\/g.Op=7\/g.Op=8:=by omega
 rcases j with e|e|e|e|e|e|e|e
 ·rw [cn om,cn om,cn om,cn om,cn om,cn om]
  simp only [syM,e]
  exact ⟨_,_,_,rfl,h.up om⟩
 ·rw [cn om,cn om,cn om,cn om,cn om,cn om]
  simp only [syM,e]
  exact ⟨_,_,_,rfl,h.up om⟩
 ·have f:=q e
  rw [bre e]
  by_cases o:g.K>0
  ·obtain ⟨x,y,z,e1,e2⟩:=HH (c:=0) (v:=g.K) (a2:=0) (a3:=c) h0 om ⟨by omega,f.2⟩ h
   rw [e1,obs]
   simp only [syM,e,aa o]
   exact ⟨_,_,_,rfl,e2.up om⟩
  ·have s:g.K=0:=by have:=f.1;omega
   obtain ⟨x,y,z,e1,e2⟩:=b5H (c:=0) (a2:=0) (a3:=c) h0 om h
   rw [s,e1,obs]
   simp only [syM,e,a7 o]
   exact ⟨_,_,_,rfl,e2.up om⟩
 ·have a:=d om
  have b:=i om om
  rw [cn om,bre e,xS om,obs,xS om,obs,aS sm]
  obtain ⟨x,y,z,e1,e2⟩:=a5c (c1:=t.getD g.A.toNat 0) (v1:=1) (c2:=t.getD g.B.toNat 0) (v2:=1) (a2:=0) (a3:=c) h0 om one one h
  rw [b8,e1,obs]
  simp only [syM,e]
  exact ⟨_,_,_,rfl,e2⟩
 ·have a:=d om
  have b:=i om om
  rw [cn om,cn om,bre e,xS om,obs,xS om,obs,aS sm]
  obtain ⟨x,y,z,e1,e2⟩:=a5c (c1:=t.getD g.A.toNat 0) (v1:=1) (c2:=t.getD g.B.toNat 0) (v2:=2130706432) (a2:=0) (a3:=c) h0 om one big h
  rw [b8,e1,obs]
  simp only [syM,e]
  exact ⟨_,_,_,rfl,e2⟩
 ·have a:=d om
  have b:=i om om
  rw [cn om,cn om,cn om,bre e,xS om,obs,c0h om,obs]
  obtain ⟨x,y,z,e1,e2⟩:=HH (c:=t.getD g.A.toNat 0) (v:=1) (a2:=t.getD g.B.toNat 0) (a3:=c) h0 om one h
  rw [e1,obs]
  simp only [syM,e]
  exact ⟨_,_,_,rfl,e2.up om⟩
 ·have a:=d om
  have b:=i om om
  rw [cn om,cn om,cn om,cn om,bre e,xS om,obs]
  obtain ⟨x,y,z,e1,e2⟩:=HH (c:=t.getD g.B.toNat 0) (v:=1) (a2:=0) (a3:=c) h0 om one h
  obtain ⟨x',y',z',l,m⟩:=HH (c:=t.getD g.A.toNat 0) (v:=1) (a2:=0) (a3:=c) om om one e2
  rw [e1,obs,xS om,obs,l,obs]
  simp only [syM,e]
  exact ⟨_,_,_,rfl,m⟩
 ·have a:=d om
  rw [cn om,cn om,cn om,cn om,cn om,bre e,xS om,obs,c0h om,obs]
  obtain ⟨x,y,z,e1,e2⟩:=HH (c:=t.getD g.A.toNat 0) (v:=1) (a2:=t.getD g.A.toNat 0) (a3:=c) h0 om one h
  obtain ⟨x',y',z',l,m⟩:=HH (c:=t.getD g.A.toNat 0) (v:=1) (a2:=0) (a3:=c) om om one e2
  rw [e1,obs,obs,l,obs]
  simp only [syM,e]
  exact ⟨_,_,_,rfl,m⟩
end
section
theorem a1k {s:bD} {k:Nat} (h:s.Cols=((k+1:Nat):Int)) (a:k<=50):fg s=some ((2^k:Nat):Int):=by
 have e:IntKind.wrap .i64 (((k+1:Nat):Int)-1)=(k:Int):=by rw [ai _ om om];omega
 unfold fg
 rw [h,e,brd om,M3 om]
theorem KQ {p w c2 c3 c4 c5:Int} {l:List aC} {k:Nat} (a:k<=50) (c:0<=p) (b:p<=100):
 fM w l c2 c3 c4 c5 p ((k+1:Nat):Int)=if ((2^k:Nat):Int)<mx (p+1) w then some (.inl ((k+2:Nat):Int)) else some (.inr (false,((k+1:Nat):Int))):=by
 have e2:IntKind.wrap .i64 (((k+1:Nat):Int)+1)=((k+2:Nat):Int):=by rw [ai _ om om];omega
 simp only [fM]
 rw [a1k (k:=k) rfl a,obs,e2,ai (p+1) om om]
 by_cases h:((2^k:Nat):Int)<mx (p+1) w
 ·rw [brd h,aa h]
 ·rw [brn h,a7 h,ae h]
theorem b0Q {p w c2 c3 c4 c5:Int} {l:List aC} (d:0<=p) (j:p<=7) (n:w<=15):Loop (fM w l c2 c3 c4 c5 p) 2=some (false,(lgM (mx (p+1) w):Int)):=by
 have o:mx (p+1) w<=15:=by unfold mx;split<;>omega
 have a:=KQ (p:=p) (w:=w) (l:=l) (c2:=c2) (c3:=c3) (c4:=c4) (c5:=c5) (k:=1) om d om
 have b:=KQ (p:=p) (w:=w) (l:=l) (c2:=c2) (c3:=c3) (c4:=c4) (c5:=c5) (k:=2) om d om
 have c:=KQ (p:=p) (w:=w) (l:=l) (c2:=c2) (c3:=c3) (c4:=c4) (c5:=c5) (k:=3) om d om
 have e:=KQ (p:=p) (w:=w) (l:=l) (c2:=c2) (c3:=c3) (c4:=c4) (c5:=c5) (k:=4) om d om
 simp only [Nat.reducePow,Nat.reduceAdd] at a b c e
 unfold lgM
 generalize mx (p+1) w=m at*
 by_cases f:m<=2
 ·rw [aa f];rw [a7 om] at a;exact dx a
 rw [a7 f];rw [aa om] at a
 refine (dt a).trans ?_
 by_cases h:m<=4
 ·rw [aa h];rw [a7 om] at b;exact dx b
 rw [a7 h];rw [aa om] at b
 refine (dt b).trans ?_
 by_cases i:m<=8
 ·rw [aa i];rw [a7 om] at c;exact dx c
 rw [a7 i];rw [aa om] at c
 refine (dt c).trans ?_
 rw [a7 om] at e;exact dx e
theorem a4o {l:List aC} {c9 c10 c11 c12 c13 c14:Int} (ok:OkC l):Loop (fJ l (l.length:Int) l c9 c10 c11 c12 c13 c14) ([],1,((2^(lgC l-1):Nat):Int),0)=
 some (jU l l.length,(cu l 2:Int)+1,((2^(lgC l-1):Nat):Int)+((l.length:Int)-(cu l 2:Int)),(l.length:Int),false):=by
 have k:=ok.n2
 have d:=Ny l
 have f:=Cq (lgC l-1) om
 have key:=bq (step:=fJ l (l.length:Int) l c9 c10 c11 c12 c13 c14) (fun j=>(jU l j,(cu (l.take j) 2:Int)+1,((2^(lgC l-1):Nat):Int)+((j:Int)-(cu (l.take j) 2:Int)),(j:Int))) l.length (e:=(jU l l.length,(cu l 2:Int)+1,((2^(lgC l-1):Nat):Int)+((l.length:Int)-(cu l 2:Int)),(l.length:Int),false)) (fun j b=> ?_) ?_
 ·have:((jU l 0,(cu (l.take 0) 2:Int)+1,((2^(lgC l-1):Nat):Int)+(((0:Nat):Int)-(cu (l.take 0) 2:Int)),((0:Nat):Int)):List Int×Int×Int×Int)=([],1,((2^(lgC l-1):Nat):Int),0):=by simp [jU,cu]
  rw [<-this,key]
 ·have i:l.getD j ⟨0,0,0,0⟩=l[j]:=by simp [b]
  have l2:=iY (l.take j) 2
  rw [aD] at l2
  have c:=Vf l j
  have a: ∀v:Int,(jU l j++[v]).length*8<=1099511627776:=fun v=>by rw [a8,c];simp;omega
  simp only [fJ]
  rw [brd om,cJ b,obs,cA b,jf,a40,Ed,i]
  by_cases h:l[j].Op=2
  ·rw [bre h,aS (a _),ai _ om om,ai _ om om,aa h,aa (by simp [h])]
   simp;omega
  ·rw [cn h,aS (a _),ai _ om om,ai _ om om,a7 h,a7 (by simp [h])]
   simp;omega
 ·simp only [fJ]
  rw [brn om,ae om,bw]
theorem Zq {l:List aC} {c16 c17 c18 c19 c20 c21:Int} (ok:OkC l): ∃mA mB mC,Loop (hZ (jU l l.length) l (l.length:Int) l c16 c17 c18 c19 c20 c21) ([],[],[],0,0)=
 some (mA,mB,mC,(l.length:Int),false,(fdM l l.length).1)/\R3 (fdM l l.length).1 mA mB mC (fdM l l.length).2.1 (fdM l l.length).2.2.1 (fdM l l.length).2.2.2 (2*l.length):=by
 have hn:=ok.n2
 obtain ⟨⟨mA,mB,mC,i,b,r⟩,o,d,f,k,m⟩:=rg (step:=hZ (jU l l.length) l (l.length:Int) l c16 c17 c18 c19 c20 c21)
  (fun s=> ∃j:Nat,j<=l.length/\s.2.2.2.1=(j:Int)/\s.2.2.2.2=(fdM l j).1/\R3 (fdM l j).1 s.1 s.2.1 s.2.2.1 (fdM l j).2.1 (fdM l j).2.2.1 (fdM l j).2.2.2 (2*j)) (fun s=>l.length-s.2.2.2.1.toNat)
  (fun e=>e.2.2.2.1=(l.length:Int)/\e.2.2.2.2.1=false/\e.2.2.2.2.2=(fdM l l.length).1/\R3 (fdM l l.length).1 e.1 e.2.1 e.2.2.1 (fdM l l.length).2.1 (fdM l l.length).2.2.1 (fdM l l.length).2.2.2 (2*l.length))
  (fun s=>by
   obtain ⟨mA,mB,mC,i,r⟩:=s
   rintro ⟨j,p,e1,e2,h⟩
   dsimp only at e1 e2 h
   subst e1
   simp only [hZ]
   by_cases a:j<l.length
   ·left
    have n:l.getD j ⟨0,0,0,0⟩=l[j]:=by simp [a]
    have w:=Vf l l.length
    obtain ⟨_,q,r1⟩:=MH ok j p
    obtain ⟨x,y,z,u,v⟩:=a8P (t:=jU l l.length) (c:=(jU l l.length).getD j 0) (ok.g j a) om q om h
    rw [brd om,cJ a,obs,brd om,brd (by rw [aY];omega),aY,lR om,obs,e2,u,obs,ai _ om om]
    refine ⟨_,rfl,⟨j+1,by omega,by dsimp only;omega,by rw [fdM,n], ?_⟩,by dsimp only;omega⟩
    rw [fdM,n]
    exact v
   ·right
    have:j=l.length:=by omega
    subst this
    rw [brn om,ae om]
    exact ⟨_,rfl,rfl,rfl,e2,h⟩)
  ([],[],[],0,0) ⟨0,by omega,rfl,rfl,⟨Rm.nil _,Rm.nil _,Rm.nil _,by simp,by simp,by simp⟩⟩
 dsimp only at d f k m
 subst d f k
 exact ⟨mA,mB,mC,o,m⟩
theorem OE {c:Circuit} (ok:OkC c.Gates):kQ c=some (s7 c.Gates):=by
 have hn:=ok.n2
 have i:=ok.p
 have j:=iY c.Gates 2
 have l:=Ny c.Gates
 unfold kQ
 have e:Loop (fM ((c.Gates.length:Int)-(cu c.Gates 2:Int)) c.Gates 0 0 0 1 (cu c.Gates 2:Int)) 2=some (false,(lgC c.Gates:Int)):=b0Q om om om
 rw [Er om,obs,ai _ om om,e,obs]
 dsimp only
 rw [a1k (k:=lgC c.Gates-1) dmo om,obs,a4o ok,obs]
 dsimp only
 obtain ⟨mA,mB,mC,f,d⟩:=Zq (c16:=0) (c17:=0) (c18:=0) (c19:=1) (c20:=(lgC c.Gates:Int)) (c21:=(cu c.Gates 2:Int)) ok
 obtain ⟨_,m,n⟩:=MH ok c.Gates.length (am _)
 rw [f,obs]
 dsimp only
 rw [b4C (r:=(fdM c.Gates c.Gates.length).1) om (fun k o q=> ?_),obs,d.a.ent (by have:=d.la;omega),obs,d.b.ent (by have:=d.lb;omega),obs,d.c.ent (by have:=d.lc;omega),obs]
 ·rfl
 ·simp only [mj]
  have e2:IntKind.wrap .i64 ((k:Int)+1)=((k+1:Nat):Int):=by rw [ai _ om om];omega
  rw [brd om,M3 om,e2]
  by_cases h:((2^k:Nat):Int)<(fdM c.Gates c.Gates.length).1
  ·rw [brd h,aa h]
  ·rw [brn h,a7 h,ae h]
theorem Ty {c:Circuit} (h:c.Gates.length<=1048576):wN c=some (if GL c.Gates=true then (s7 c.Gates,0) else (⟨0,0,0,[],[],[]⟩,19)):=by
 unfold wN
 rw [G8 h,obs]
 by_cases hc:GL c.Gates=true
 ·rw [hc,OE (a1g hc)];rfl
 ·have:GL c.Gates=false:=by simpa using hc
  rw [this];rfl
end
section
theorem Mc (P I:List Int) (l:List aC) {i:Nat}: ∀{j n:Nat},i<j->j<=n->(rnM P I l n).getD i 0=(rnM P I l j).getD i 0
 |j,n,hi,hn=>by
  induction n with
  |zero=>omega
  |succ n ih=>
   by_cases h:j=n+1
   ·rw [h]
   ·rw [<-ih om,rnM,List.getD_eq_getElem?_getD,bc (by rw [rY];omega), <-List.getD_eq_getElem?_getD]
theorem a6i {P I:List Int} {l:List aC} {j n:Nat} {g:aC} (f:sI g (j:Int)=true) (hn:j<=n):ly (rnM P I l n) g=ly (rnM P I l j) g:=by
 obtain ⟨k,d,h,m⟩:=xF f
 unfold ly
 by_cases c:g.Op=7
 ·have a:=d om
  have b:=h om om
  rw [Mc P I l (j:=j) om hn,Mc P I l (i:=g.B.toNat) (j:=j) om hn]
 ·by_cases e:g.Op=8
  ·have a:=d om
   rw [cn c,cn c,Mc P I l (j:=j) om hn]
  ·rw [cn c,cn c,cn e,cn e]
theorem a5T {l:List Int} {p:Nat} (h:p<l.length):atL (l.drop p) 0=some (l.getD p 0):=by
 have:(l.drop p)[0]? =some (l.getD p 0):=by rw [fZ];simp [h]
 simp only [atL]
 rw [aa om]
 exact this
theorem c0w {l:List Int} {p:Nat} (h:p<l.length) (a:l.length<=1099511627776):qA (l.drop p) 1 ((l.drop p).length:Int)=some (l.drop (p+1)):=by
 rw [kx om (by rw [bP];omega) om]
 simp only [lh,bP,Option.some.injEq]
 refine aX ?_
 rw [bP];omega
theorem QD {P I:List Int} {l c':List aC} {j:Nat} (ok:OkC l) (r:gY P) (s:gY I) (lP:P.length=cu l 2) (lI:I.length=cu l 1) (i:j<l.length):
 iC l (l.length:Int) c' (rnM P I l j,P.drop (cu (l.take j) 2),I.drop (cu (l.take j) 1),(j:Int))=
  if ly (rnM P I l j) l[j]=true then some (.inl (rnM P I l (j+1),P.drop (cu (l.take (j+1)) 2),I.drop (cu (l.take (j+1)) 1),((j+1:Nat):Int))) else some (.inr (.inl (rnM P I l j,l[j].Op,l[j].A,l[j].B,l[j].K))):=by
 have hn:=ok.n2
 have t:l.getD j ⟨0,0,0,0⟩=l[j]:=by simp [i]
 obtain ⟨w,k,m,x⟩:=xF (ok.g j i)
 have l2:=iY (l.take j) 2
 have u:=iY (l.take j) 1
 rw [aD] at u l2
 have c2:=iY l 2
 have c1:=iY l 1
 have f:=K5 ok r s lP lI j om
 have n:=rY P I l j
 have t2:=mL (op:=2) i
 have q:=mL (op:=1) i
 have ej:IntKind.wrap .i64 ((j:Int)+1)=((j+1:Nat):Int):=by rw [ai _ om om];omega
 simp only [iC]
 rw [brd om,cJ i,obs,cA i,jf,jf,rnM,t,ej]
 generalize l[j]=g at*
 generalize rnM P I l j=o at*
 have c: ∀v:Int,(o++[v]).length*8<=1099511627776:=fun v=>by rw [a8,n];simp;omega
 have p:g.Op=1\/g.Op=2\/g.Op=4\/g.Op=5\/g.Op=6\/g.Op=7\/g.Op=8\/g.Op=3:=by omega
 rcases p with h|h|h|h|h|h|h|h
 ·have d:ly o g=true:=by unfold ly;rw [cn om,cn om];rfl
  rw [aa d,bre h,a5T (by have:=q h;omega),obs,c0w (by have:=q h;omega) om,obs,aS (c _)]
  simp [gvM,h]
 ·have d:ly o g=true:=by unfold ly;rw [cn om,cn om];rfl
  rw [aa d,cn om,bre h,a5T (by have:=t2 h;omega),obs,c0w (by have:=t2 h;omega) om,obs,aS (c _)]
  simp [gvM,h]
 ·have d:ly o g=true:=by unfold ly;rw [cn om,cn om];rfl
  have a:=k om
  have b:=m om om
  rw [aa d,cn om,cn om,bre h,brd a.1,brd om,lR om,obs,brd b.1,brd om,lR om,obs,uS (ko f om) (ko f om),obs,aS (c _)]
  simp [gvM,h]
 ·have d:ly o g=true:=by unfold ly;rw [cn om,cn om];rfl
  have a:=k om
  have b:=m om om
  rw [aa d,cn om,cn om,cn om,bre h,brd a.1,brd om,lR om,obs,brd b.1,brd om,lR om,obs,Lr (ko f om) (ko f om),obs,aS (c _)]
  simp [gvM,h]
 ·have d:ly o g=true:=by unfold ly;rw [cn om,cn om];rfl
  have a:=k om
  have b:=m om om
  rw [aa d,cn om,cn om,cn om,cn om,bre h,brd a.1,brd om,lR om,obs,brd b.1,brd om,lR om,obs,ml (ko f om) (ko f om),obs,aS (c _)]
  simp [gvM,h]
 ·have a:=k om
  have b:=m om om
  have d:ly o g=(o.getD g.A.toNat 0==o.getD g.B.toNat 0):=by unfold ly;rw [bre h,cn om,dO]
  rw [cn om,cn om,cn om,cn om,cn om,bre h,bre h,brd a.1,brd om,lR om,obs,bre h,brd b.1,brd om,lR om,obs]
  by_cases e:o.getD g.A.toNat 0=o.getD g.B.toNat 0
  ·rw [aa (by rw [d];simpa using e),m9 e,cn om,aS (c _)]
   simp [gvM,h]
  ·rw [a7 (by rw [d];simpa using e),brb e]
 ·have a:=k om
  have d:ly o g=decide (o.getD g.A.toNat 0<=1):=by unfold ly;rw [cn om,bre h,bm]
  rw [cn om,cn om,cn om,cn om,cn om,cn om,bre h,brd a.1,brd om,lR om,obs,cn om,bre h]
  by_cases e:o.getD g.A.toNat 0>1
  ·rw [a7 (by rw [d,ae om];simp),brd e]
  ·rw [aa (by rw [d,aj om]),brn e,aS (c _)]
   simp [gvM,h]
 ·have d:ly o g=true:=by unfold ly;rw [cn om,cn om];rfl
  rw [aa d,cn om,cn om,cn om,cn om,cn om,cn om,cn om,aS (c _)]
  simp [gvM,h]
theorem a06 {c:Circuit} {P I:List Int} (ok:OkC c.Gates) (j:gY P) (l:gY I) (lP:P.length=cu c.Gates 2) (lI:I.length=cu c.Gates 1):
 pm c P I=some (if c.Gates.all (ly (rnM P I c.Gates c.Gates.length))=true then (rnM P I c.Gates c.Gates.length,true) else ([],false)):=by
 have hn:=ok.n2
 unfold pm
 have key:=Ay (step:=iC c.Gates (c.Gates.length:Int) c.Gates) (fun k=>(rnM P I c.Gates k,P.drop (cu (c.Gates.take k) 2),I.drop (cu (c.Gates.take k) 1),(k:Int))) c.Gates.length
  (fun k=>((c.Gates[k]?.map (ly (rnM P I c.Gates k))).getD false)) (fun k=> .inl (rnM P I c.Gates k,(c.Gates.getD k ⟨0,0,0,0⟩).Op,(c.Gates.getD k ⟨0,0,0,0⟩).A,(c.Gates.getD k ⟨0,0,0,0⟩).B,(c.Gates.getD k ⟨0,0,0,0⟩).K))
  (e:= .inr (rnM P I c.Gates c.Gates.length,P.drop (cu (c.Gates.take c.Gates.length) 2),I.drop (cu (c.Gates.take c.Gates.length) 1),(c.Gates.length:Int),false))
  (fun k a b=>by
   have d:ly (rnM P I c.Gates k) c.Gates[k]=true:=by simpa [a] using b
   rw [QD ok j l lP lI a,aa d])
  (fun k a b=>by
   have d:ly (rnM P I c.Gates k) c.Gates[k]=false:=by simpa [a] using b
   have m:c.Gates.getD k ⟨0,0,0,0⟩=c.Gates[k]:=by simp [a]
   rw [QD ok j l lP lI a,a7 (by rw [d];simp),m])
  (by simp only [iC];rw [brn om,ae om])
 have h0:((rnM P I c.Gates 0,P.drop (cu (c.Gates.take 0) 2),I.drop (cu (c.Gates.take 0) 1),((0:Nat):Int)):List Int×List Int×List Int×Int)=([],P,I,0):=rfl
 rw [h0] at key
 rcases key with ⟨f,h⟩|⟨k,a,f,_,h⟩
 ·have i:c.Gates.all (ly (rnM P I c.Gates c.Gates.length))=true:=an.2 fun x n=>by
   obtain ⟨k,a,rfl⟩:=bp n
   rw [a6i (ok.g k a) om]
   simpa [a] using f k a
  rw [h,aa i,obs,uT]
 ·have i: ¬c.Gates.all (ly (rnM P I c.Gates c.Gates.length))=true:=by
   rw [Bool.not_eq_true]
   refine w8.2 ⟨c.Gates[k],b9 a, ?_⟩
   rw [a6i (ok.g k a) om]
   simpa [a] using f
  rw [h,a7 i,obs,sr]
def rcC (c:Circuit) (P I:List Int):Int:=
 if P.length>4096 then 2 else if I.length>4096 then 2 else if GL c.Gates=false then 19 else if P.all El=false then 1 else if I.all El=false then 1
 else if P.length≠cu c.Gates 2 then 8 else if I.length≠cu c.Gates 1 then 8 else 0
structure a30 (c:Circuit) (P I:List Int):Prop where
 ok:OkC c.Gates
 hP:gY P
 hI:gY I
 lP:P.length=cu c.Gates 2
 lI:I.length=cu c.Gates 1
theorem a4y {l:List Int} (h:l.all El=true):gY l:=fun x a=>H9.1 (an.1 h x a)
theorem Xr {l:List Int} (h:gY l):l.all El=true:=an.2 fun x a=>H9.2 (h x a)
theorem c0Q {c:Circuit} {P I:List Int} (h:rcC c P I=0):a30 c P I:=by
 unfold rcC at h
 split at h
 ·omega
 split at h
 ·omega
 split at h
 ·omega
 rename_i a
 split at h
 ·omega
 rename_i b
 split at h
 ·omega
 rename_i d
 split at h
 ·omega
 rename_i e
 split at h
 ·omega
 rename_i f
 exact ⟨a1g (by simpa using a),a4y (by simpa using b),a4y (by simpa using d),by omega,by omega⟩
theorem ZP {l:List aC} (h:OkC l):GL l=true:=by
 unfold GL
 rw [aj ⟨h.n1,h.n2⟩,aj (by have:=h.p;omega),bm,dO]
 refine an.2 fun k a=> ?_
 have a:=bS.1 a
 simpa [a] using h.g k a
theorem b2e {c:Circuit} {P I:List Int} (h:a30 c P I):rcC c P I=0:=by
 have a:=iY c.Gates 2
 have b:=iY c.Gates 1
 have hn:=h.ok.n2
 have:=h.lP
 have:=h.lI
 unfold rcC
 rw [a7 om,a7 om,ZP h.ok,a7 sm,Xr h.hP,a7 sm,Xr h.hI,a7 sm,a7 om,a7 om]
theorem L3 {c:Circuit} {P I:List Int} (hc:c.Gates.length<=1048576):zS c P I=some (rcC c P I):=by
 unfold zS rcC
 by_cases a:P.length>4096
 ·rw [brd om,aa a]
 rw [brn om,a7 a]
 by_cases b:I.length>4096
 ·rw [brd om,aa b]
 rw [brn om,a7 b,G8 hc,obs]
 cases GL c.Gates
 ·rfl
 rw [a7 sm,aQ,bu,N3 om,obs]
 cases P.all El
 ·rfl
 rw [a7 sm,aQ,bu,N3 om,obs]
 cases I.all El
 ·rfl
 rw [a7 sm,aQ,bu,Er hc,obs]
 by_cases d:P.length=cu c.Gates 2
 ·rw [m9 om,a7 om,Er hc,obs]
  by_cases e:I.length=cu c.Gates 1
  ·rw [m9 om,a7 om]
  ·rw [brb om,aa e]
 ·rw [brb om,aa d]
def b65 (c:Circuit) (P I:List Int):List Int×Int:=
 if rcC c P I=0 then (if c.Gates.all (ly (rnM P I c.Gates c.Gates.length))=true then (rnM P I c.Gates c.Gates.length,0) else ([],15)) else ([],rcC c P I)
theorem Pu {c:Circuit} {P I:List Int} (hc:c.Gates.length<=1048576):mo c P I=some (b65 c P I):=by
 unfold mo b65
 rw [L3 hc,obs]
 by_cases h0:rcC c P I=0
 ·have ok:=c0Q h0
  rw [m9 h0,aa h0,a06 ok.ok ok.hP ok.hI ok.lP ok.lI,obs]
  by_cases a:c.Gates.all (ly (rnM P I c.Gates c.Gates.length))=true
  ·rw [aa a,aa a];rfl
  ·rw [a7 a,a7 a];rfl
 ·rw [brb h0,a7 h0]
end
section
def zc (z:List Int) (c:Int):Int:=z.getD c.toNat 0
def rS (z:List Int) (r x:Int) (e:aN):Int:=if e.Row=r then aF x (mF e.Value (zc z e.Col)) else x
def rV (z:List Int) (r:Int) (L:List aN):Int:=L.foldl (rS z r) 0
theorem a4C (z:List Int) {k:Nat}: ∀(L:List aN) (T:List Int),(∀e∈L,0<=e.Row/\e.Row<T.length)->(L.foldl (muS z) T).getD k 0=L.foldl (rS z k) (T.getD k 0)
 |[],_,_=>rfl
 |e::L,T,h=>by
  have c:=h e sm
  rw [bQ,bQ,a4C z L _ (fun x b=>by rw [muS,aO];exact h x (by simp [b]))]
  congr 1
  unfold muS rS zc
  by_cases a:e.Row=(k:Int)
  ·rw [aa a,a,aY,List.getD_eq_getElem?_getD,dW,aa rfl,aa om];rfl
  ·rw [a7 a,List.getD_eq_getElem?_getD,dW,a7 om, <-List.getD_eq_getElem?_getD]
theorem Xg {z:List Int} {n k:Nat} {L:List aN} (h: ∀e∈L,0<=e.Row/\e.Row<((2^n:Nat):Int)):(muM L n z).getD k 0=rV z k L:=by
 rw [muM,a4C z L _ (fun e a=>by rw [aL];exact h e a)]
 have:(List.replicate (2^n) (0:Int)).getD k 0=0:=by
  rw [List.getD_eq_getElem?_getD,List.getElem?_replicate];split<;>rfl
 rw [this];rfl
theorem XF {z:List Int} {r:Int}: ∀{L:List aN} {x:Int},(∀e∈L,e.Row≠r)->L.foldl (rS z r) x=x
 |[],_,_=>rfl
 |e::L,x,h=>by rw [bQ,rS,a7 (h e sm),XF (fun e he=>h e (by simp [he]))]
theorem b0k (z:List Int) (r:Int) (L N:List aN):rV z r (L++N)=N.foldl (rS z r) (rV z r L):=by rw [rV,gG];rfl
theorem KE {z:List Int} {r:Int} {L:List aN} (h: ∀e∈L,e.Row<r):rV z r L=0:=XF fun e a=>by have:=h e a;omega
theorem KM {z:List Int} (h:gY z) (i:Nat):okF (z.getD i 0):=by
 by_cases hi:i<z.length
 ·exact ko h hi
 ·rw [List.getD_eq_getElem?_getD,cf om];exact b77
theorem b0P {x:Int} (h:okF x):mF 1 x=x:=by unfold mF;rw [u3];exact CM h
theorem Sm {x:Int} (h:okF x):mF x 1=x:=by unfold mF;rw [Int.mul_one];exact CM h
theorem c0r (x:Int):mF 0 x=0:=by unfold mF;rw [Int.zero_mul];rfl
theorem b1N (a b x:Int):mF (aF a b) x=aF (mF a x) (mF b x):=by
 unfold mF aF
 rw [mM1,mA1,mA2,Int.add_mul]
theorem c1J (a b:Int):aF a b=aF b a:=by unfold aF;rw [Int.add_comm]
theorem c1x {a b:Int}:aF a (mF 2130706432 b)=sF a b:=by
 unfold aF mF sF
 rw [mA2]
 have:a+2130706432*b=(a-b)+b*2130706433:=by omega
 rw [this,Int.add_mul_emod_self_right]
structure Ua (z:List Int) (r:Int) (A A':List aN) (x:Int):Prop where
 old: ∀k,k<r->rV z k A'=rV z k A
 new:rV z r A'=x
 row: ∀e∈A',e.Row<r+1
theorem VG {z:List Int} {r:Int} {A:List aN} (h: ∀e∈A,e.Row<r):Ua z r A A 0:=⟨fun _ _=>rfl,KE h,fun e a=>by have:=h e a;omega⟩
theorem PO {z:List Int} {r x:Int} {A N:List aN} (h: ∀e∈A,e.Row<r) (hN: ∀e∈N,e.Row=r) (b:N.foldl (rS z r) 0=x):Ua z r A (A++N) x:=
 ⟨fun k c=>by rw [b0k];exact XF fun e a=>by have:=hN e a;omega,by rw [b0k,KE h];exact b,fun e a=>by
  rcases aJ.1 a with a|a
  ·have:=h e a;omega
  ·have:=hN e a;omega⟩
theorem mm {z:List Int} {r c v:Int} {A:List aN} (h: ∀e∈A,e.Row<r):Ua z r A (enM A r c v) (mF v (zc z c)):=by
 rw [LM h]
 refine PO h (fun e a=>by simp at a;subst a;rfl) ?_
 rw [bQ,jh,rS,aa rfl,a1n (wd _ _)]
theorem Zi {z:List Int} {r c1 c2 v1 v2:Int} {A:List aN} (h: ∀e∈A,e.Row<r):Ua z r A (enM (enM A r c1 v1) r c2 v2) (aF (mF v1 (zc z c1)) (mF v2 (zc z c2))):=by
 rw [LM h,a4E h]
 by_cases c:c1>c2
 ·rw [aa c]
  refine PO h (fun e a=>by simp at a;rcases a with rfl|rfl<;>rfl) ?_
  rw [bQ,bQ,jh,rS,rS,aa rfl,aa rfl,a1n (wd _ _),c1J]
 ·rw [a7 c]
  by_cases c':c1=c2
  ·rw [aa c']
   subst c'
   by_cases b:aF v1 v2=0
   ·rw [aa b, <-b1N,b,c0r];exact VG h
   ·rw [a7 b]
    refine PO h (fun e a=>by simp at a;subst a;rfl) ?_
    rw [bQ,jh,rS,aa rfl,a1n (wd _ _),b1N]
  ·rw [a7 c']
   refine PO h (fun e a=>by simp at a;rcases a with rfl|rfl<;>rfl) ?_
   rw [bQ,bQ,jh,rS,rS,aa rfl,aa rfl,a1n (wd _ _)]
def a9k (z:List Int) (r:Int) (A B C:List aN):Prop:= ∀k:Int,0<=k->k<r->mF (rV z k A) (rV z k B)=rV z k C
theorem zi {z:List Int} {r x y w:Int} {A B C A' B' C':List aN} (j:0<=r) (a:Ua z r A A' x) (b:Ua z r B B' y) (c:Ua z r C C' w):a9k z (r+1) A' B' C'↔a9k z r A B C/\mF x y=w:=by
 constructor
 ·intro h
  refine ⟨fun k i d=> ?_, ?_⟩
  ·have:=h k i om
   rwa [a.old k d,b.old k d,c.old k d] at this
  ·have:=h r j om
   rwa [a.new,b.new,c.new] at this
 ·rintro ⟨h,e⟩ k i d
  by_cases f:k<r
  ·rw [a.old k f,b.old k f,c.old k f];exact h k i f
  ·have:k=r:=by omega
   rw [this,a.new,b.new,c.new];exact e
def eqG (a b c:Int) (g:aC):Prop:=
 if g.Op=1\/g.Op=2 then True else if g.Op=6 then mF a b=c else if g.Op=4 then aF a b=c else if g.Op=5 then sF a b=c
 else if g.Op=3 then g.K=c else if g.Op=7 then b=c/\a=c else mF a a=c/\a=c
structure b9k (r:Int) (A B C:List aN):Prop where
 a: ∀e∈A,e.Row<r
 b: ∀e∈B,e.Row<r
 c: ∀e∈C,e.Row<r
theorem c0D {z:List Int} {a b c r:Int} {g:aC} {A B C:List aN} (d:0<=r) (e:gY z) (z0:z.getD 0 0=1) (t:1<=g.Op/\g.Op<=8) (u:g.Op=3->okF g.K) (h:b9k r A B C):
 (a9k z (syM a b c g r A B C).1 (syM a b c g r A B C).2.1 (syM a b c g r A B C).2.2.1 (syM a b c g r A B C).2.2.2↔a9k z r A B C/\eqG (zc z a) (zc z b) (zc z c) g)/\
  b9k (syM a b c g r A B C).1 (syM a b c g r A B C).2.1 (syM a b c g r A B C).2.2.1 (syM a b c g r A B C).2.2.2:=by
 have za:okF (zc z a):=KM e a.toNat
 have zb:okF (zc z b):=KM e b.toNat
 have zc':okF (zc z c):=KM e c.toNat
 have e0:zc z 0=1:=z0
 have e1:mF 1 (zc z 0)=1:=by rw [e0];rfl
 have ea:mF 1 (zc z a)=zc z a:=b0P za
 have eb:mF 1 (zc z b)=zc z b:=b0P zb
 have ec:mF 1 (zc z c)=zc z c:=b0P zc'
 unfold syM eqG
 by_cases k:g.Op=1\/g.Op=2
 ·rw [aa k,aa k];exact ⟨⟨fun h=>⟨h,trivial⟩,fun h=>h.1⟩,h⟩
 rw [a7 k,a7 k]
 have rows: ∀{r:Int} {A B C A' B' C':List aN} {x y w:Int},Ua z r A A' x->Ua z r B B' y->Ua z r C C' w->b9k (r+1) A' B' C':=fun a b c=>⟨a.row,b.row,c.row⟩
 have xB1:=mm (z:=z) (c:=0) (v:=1) h.b
 have xC1:=mm (z:=z) (c:=c) (v:=1) h.c
 by_cases l:g.Op=6
 ·rw [aa l,aa l]
  have xA1:=mm (z:=z) (c:=a) (v:=1) h.a
  have xb1:=mm (z:=z) (c:=b) (v:=1) h.b
  refine ⟨?_,rows xA1 xb1 xC1⟩
  have:=zi d xA1 xb1 xC1
  rwa [ea,eb,ec] at this
 rw [a7 l,a7 l]
 by_cases m:g.Op=4
 ·rw [aa m,aa m]
  have xA1:=Zi (z:=z) (c1:=a) (v1:=1) (c2:=b) (v2:=1) h.a
  refine ⟨?_,rows xA1 xB1 xC1⟩
  have:=zi d xA1 xB1 xC1
  rwa [ea,eb,ec,e1,Sm (Z0 _ _)] at this
 rw [a7 m,a7 m]
 by_cases n:g.Op=5
 ·rw [aa n,aa n]
  have xA1:=Zi (z:=z) (c1:=a) (v1:=1) (c2:=b) (v2:=2130706432) h.a
  refine ⟨?_,rows xA1 xB1 xC1⟩
  have:=zi d xA1 xB1 xC1
  rwa [ea,ec,e1,c1x,Sm (b0K _ _)] at this
 rw [a7 n,a7 n]
 by_cases f:g.Op=3
 ·rw [aa f,aa f]
  have p:=u f
  by_cases s:g.K>0
  ·rw [aa s]
   have xA1:=mm (z:=z) (c:=0) (v:=g.K) h.a
   refine ⟨?_,rows xA1 xB1 xC1⟩
   have:=zi d xA1 xB1 xC1
   rwa [e0,Sm p,ec,show mF 1 1=1 from rfl,Sm p] at this
  ·rw [a7 s]
   have xA1:=VG (z:=z) h.a
   refine ⟨?_,rows xA1 xB1 xC1⟩
   have:=zi d xA1 xB1 xC1
   have e:g.K=0:=by have:=p.1;omega
   rw [e1,ec,c0r] at this
   rw [e];exact this
 rw [a7 f,a7 f]
 by_cases o:g.Op=7
 ·rw [aa o,aa o]
  have xA1:=mm (z:=z) (c:=b) (v:=1) h.a
  have q:=rows xA1 xB1 xC1
  have pA:=mm (z:=z) (c:=a) (v:=1) q.a
  have pB:=mm (z:=z) (c:=0) (v:=1) q.b
  have pC:=mm (z:=z) (c:=c) (v:=1) q.c
  refine ⟨?_,rows pA pB pC⟩
  have i:=zi d xA1 xB1 xC1
  have j:=zi om pA pB pC
  rw [eb,ec,e1,Sm zb] at i
  rw [ea,ec,e1,Sm za,i,and_assoc] at j
  exact j
 rw [a7 o,a7 o]
 have xA1:=mm (z:=z) (c:=a) (v:=1) h.a
 have xb1:=mm (z:=z) (c:=a) (v:=1) h.b
 have q:=rows xA1 xb1 xC1
 have pA:=mm (z:=z) (c:=a) (v:=1) q.a
 have pB:=mm (z:=z) (c:=0) (v:=1) q.b
 have pC:=mm (z:=z) (c:=c) (v:=1) q.c
 refine ⟨?_,rows pA pB pC⟩
 have i:=zi d xA1 xb1 xC1
 have j:=zi om pA pB pC
 rw [ea,ec] at i
 rw [ea,ec,e1,Sm za,i,and_assoc] at j
 exact j
theorem b0h {z:List Int} {l:List aC} (ok:OkC l) (hz:gY z) (z0:z.getD 0 0=1): ∀j,j<=l.length->
 (a9k z (fdM l j).1 (fdM l j).2.1 (fdM l j).2.2.1 (fdM l j).2.2.2↔ ∀(i:Nat) (hi:i<l.length),i<j->eqG (zc z (Ed l l[i].A.toNat)) (zc z (Ed l l[i].B.toNat)) (zc z (Ed l i)) l[i])/\b9k (fdM l j).1 (fdM l j).2.1 (fdM l j).2.2.1 (fdM l j).2.2.2
 |0,_=>⟨⟨fun _ i _ h=>by omega,fun _ k k0 k1=>by have:(fdM l 0).1=0:=rfl;omega⟩,⟨(fun e he=>by cases he),(fun e he=>by cases he),(fun e he=>by cases he)⟩⟩
 |j+1,h=>by
  obtain ⟨ih,rw3⟩:=b0h ok hz z0 j om
  obtain ⟨_,r0,_⟩:=MH ok j om
  have hj:j<l.length:=by omega
  have hd:l.getD j ⟨0,0,0,0⟩=l[j]:=by simp [hj]
  obtain ⟨g1,g2,g3,g4⟩:=xF (ok.g j hj)
  obtain ⟨s,q⟩:=c0D (a:=(jU l l.length).getD l[j].A.toNat 0) (b:=(jU l l.length).getD l[j].B.toNat 0) (c:=(jU l l.length).getD j 0) (g:=l[j]) r0 hz z0 g1 g4 rw3
  rw [fdM,hd]
  refine ⟨?_,q⟩
  rw [s,ih]
  have key:eqG (zc z ((jU l l.length).getD l[j].A.toNat 0)) (zc z ((jU l l.length).getD l[j].B.toNat 0)) (zc z ((jU l l.length).getD j 0)) l[j]↔eqG (zc z (Ed l l[j].A.toNat)) (zc z (Ed l l[j].B.toNat)) (zc z (Ed l j)) l[j]:=by
   rw [Du hj]
   by_cases h4:4<=l[j].Op
   ·have a:=g2 h4
    rw [Du om]
    by_cases h7:l[j].Op<=7
    ·have b:=g3 h4 h7
     rw [Du om]
    ·unfold eqG
     rw [a7 om,a7 om,a7 om,a7 om,a7 om,a7 om,a7 om,a7 om,a7 om,a7 om,a7 om,a7 om]
   ·unfold eqG
    by_cases h12:l[j].Op=1\/l[j].Op=2
    ·rw [aa h12,aa h12]
    ·have h3:l[j].Op=3:=by omega
     rw [a7 h12,a7 om,a7 om,a7 om,aa h3,a7 h12,a7 om,a7 om,a7 om,aa h3]
  rw [key]
  constructor
  ·rintro ⟨h1,h2⟩ i hi hlt
   by_cases e:i=j
   ·subst e;exact h2
   ·exact h1 i hi om
  ·intro h
   exact ⟨fun i hi hlt=>h i hi om,h j hj om⟩
end
end Go.AI.Fn
