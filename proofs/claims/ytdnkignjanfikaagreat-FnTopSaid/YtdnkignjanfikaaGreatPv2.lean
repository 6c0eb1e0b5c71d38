/- Part. -/
import Derived.Test.YtdnkignjanfikaaGreatPv1
set_option linter.unusedVariables false
set_option linter.unusedSimpArgs false
namespace Go.AI.Fn
section
def QSh:Nat->List (List UInt8)->List K->List (List (List UInt8))->List K->Prop
 |_,[],[],[],[]=>True
 |m,_::rts,_::_::prs,p::pths,_::D=>1<=m/\p.length=m-1/\Hs p/\QSh (m-1) rts prs pths D
 |_,_,_,_,_=>False
def QB:Option K->Ext
 |none=>e0
 |some d=>d.1
theorem DG {α:Type} {pre l:List α} {x:α} {i:Int} (h:i=(pre.length:Int)):atL (pre++x::l) i=some x:=by subst h;rw [cJ sm];simp
theorem Sw (pre l:List K):kv (pre++l)=kv pre++kv l:=b1Z pre l
theorem UW {l:K} {M:Nat} {V:Int} {c:List (List Ext)} {c2:List (List UInt8)} {c3 c4 c5:Int} {c6:List cx}: ∀(rts:List (List UInt8)) (prs:List K) (pths:List (List (List UInt8))) (D:List K) (m:Nat) (preR:List (List UInt8)) (preP:List K) (preT:List (List (List UInt8))) (preD:List K) (k:Nat) (due:Option K),
 QSh m rts prs pths D->M<=9->m+preR.length=M->preP.length=2*preR.length->preT.length=preR.length->preD.length=preR.length->V=((preR.length+rts.length:Nat):Int)->preR.length+rts.length<=100->k<2^9->(due=none↔preR.length=0)->(rts=[]->due≠none)->
 (Loop (g7 (kv (preD++D)) ((2^M:Nat):Int) (preR++rts) V c c2 c3 c4 c5 c6 (kv (preP++prs)) (preT++pths)) ((k:Int),(preR.length:Int),(QB due).A,(QB due).B)).bind (alt (fun e_2=>some 9) (alt (fun e_3=>some 12) (fun e_4=>br (e_4.2.2.2.1==l.1.A) (br (e_4.2.2.2.2==l.1.B) (some 0) (some 13)) (some 13))))=
  some (qcK l m rts prs pths D k due)
 |[],prs,pths,D,m,preR,preP,preT,preD,k,due,h,hM,hm,h1,h2,h3,hV,hb,hk,hd,hn=>by
  match prs,pths,D,h with
  |[],[],[],_=>
   cases due with
   |none=>exact absurd rfl (hn rfl)
   |some d=>
    rw [dx (e:= .inr (.inr ((k:Int),(preR.length:Int),false,d.1.A,d.1.B))) (by
     simp only [g7,QB]
     rw [brn (by rw [hV,ah];omega),ae (by rw [hV,ah];omega)])]
    rw [obs,vK,vK]
    dsimp only
    rw [Z0]
    show _=some (if some d=some l then (0:Int) else 13)
    by_cases e:d=l
    ·rw [aa e,aa (by rw [e])]
    ·rw [a7 e,a7 (fun h=>e (cS h))]
 |rt::rts,prs,pths,D,m,preR,preP,preT,preD,k,due,h,hM,hm,h1,h2,h3,hV,hb,hk,hd,hn=>by
  match prs,pths,D,h with
  |a::b::prs,p::pths,r::D,⟨hm1,hpl,hph,hq⟩=>
   obtain ⟨q,rfl⟩: ∃q,m=q+1:=⟨m-1,by omega⟩
   rw [ab] at hV hb
   have hp:=Jv (q+1) om
   have hs:2^(q+1)=2*2^q:=by rw [aZ];omega
   have hsh:cc .i64 ((2^M:Nat):Int) (preR.length:Int)=((2^(q+1):Nat):Int):=by rw [b6i M hM preR.length om,show M-preR.length=q+1 by omega]
   have hh:=a0J q om
   have hat:k%2^q<2^q:=fO _ om
   have hmod:(k:Int).tmod ((2^q:Nat):Int)=((k%2^q:Nat):Int):=by rw [dw _ _ om];omega
   have hk2:k%2^q<2^9:=cq hat om
   have hcheck:HF rt ((2^q:Nat):Int) ((k%2^q:Nat):Int) (Hi a b) p=some (H (vW (k%2^q) (Hi a b) p q)==rt):=c3d om om (by rw [Hi,j2];simp) om hph
   have ih:=UW (l:=l) (M:=M) (V:=V) (c:=c) (c2:=c2) (c3:=c3) (c4:=c4) (c5:=c5) (c6:=c6) rts prs pths D q (preR++[rt]) (preP++[a,b]) (preT++[p]) (preD++[r]) (k%2^q) (some (fpK (q+1) (k%2^q) a b r)) hq hM
    (by simp only [a8,ab,ah];omega) (by simp only [a8,ab,ah];omega) (by simp only [a8,ab,ah];omega) (by simp only [a8,ab,ah];omega) (by rw [hV];simp only [a8,ab,ah];omega) (by simp only [a8,ab,ah];omega) hk2 sm sm
   simp only [aP,b8,i5,bA,a8,ag] at ih
   have hR:atL (preR++rt::rts) (preR.length:Int)=some rt:=DG rfl
   have hT:atL (preT++p::pths) (preR.length:Int)=some p:=DG om
   have hD:atL (kv (preD++r::D)) (preR.length:Int)=some r.1:=by rw [Sw];exact DG (by rw [bB];omega)
   have hA:atL (kv (preP++a::b::prs)) (2*(preR.length:Int))=some a.1:=by rw [Sw];exact DG (by rw [bB];omega)
   have hB:atL (kv (preP++a::b::prs)) (2*(preR.length:Int)+1)=some b.1:=by
    rw [show preP++a::b::prs=(preP++[a])++b::prs by simp,Sw];exact DG (by rw [bB,a8,ag];omega)
   have hstep:(H (vW (k%2^q) (Hi a b) p q)==rt)=false/\(∃e,g7 (kv (preD++r::D)) ((2^M:Nat):Int) (preR++rt::rts) V c c2 c3 c4 c5 c6 (kv (preP++a::b::prs)) (preT++p::pths) ((k:Int),(preR.length:Int),(QB due).A,(QB due).B)=some (.inr (.inl e)))\/
    (H (vW (k%2^q) (Hi a b) p q)==rt)=true/\b7q due (if 2^q<=k then b else a)/\(∃e,g7 (kv (preD++r::D)) ((2^M:Nat):Int) (preR++rt::rts) V c c2 c3 c4 c5 c6 (kv (preP++a::b::prs)) (preT++p::pths) ((k:Int),(preR.length:Int),(QB due).A,(QB due).B)=some (.inr (.inr (.inl e))))\/
    (H (vW (k%2^q) (Hi a b) p q)==rt)=true/\ ¬b7q due (if 2^q<=k then b else a)/\g7 (kv (preD++r::D)) ((2^M:Nat):Int) (preR++rt::rts) V c c2 c3 c4 c5 c6 (kv (preP++a::b::prs)) (preT++p::pths) ((k:Int),(preR.length:Int),(QB due).A,(QB due).B)=
     some (.inl (((k%2^q:Nat):Int),((preR.length+1:Nat):Int),(fpK (q+1) (k%2^q) a b r).1.A,(fpK (q+1) (k%2^q) a b r).1.B)):=by
    have hpair:=It (k:=q+1) (i:=k%2^q) a b r om om
    simp only [g7,hsh,hh]
    rw [brd om,hR,obs,brd om,brd om,ai (2*(preR.length:Int)) om om,hA,obs,ai (2*(preR.length:Int)+1) om om,hB,obs,ij sm,obs,hT,obs,hmod,show ([a.1,b.1]:List Ext).flatMap e8=Hi a b from rfl,hcheck,obs]
    cases hc:(H (vW (k%2^q) (Hi a b) p q)==rt) with
    |false=>exact .inl ⟨rfl,_,rfl⟩
    |true=>
     refine .inr ?_
     rw [aQ,bu]
     by_cases hlow:k<2^q
     ·have hown:(if 2^q<=k then b else a)=a:=a7 om
      rw [hown,brn om]
      cases due with
      |none=>
       refine .inr ⟨rfl,(by rintro ⟨d,h,_⟩;cases h), ?_⟩
       rw [brn (by have:=hd.1 rfl;omega),hD,obs,hpair,obs,ai _ om om];rfl
      |some d=>
       rw [brd (by have:preR.length≠0:=fun e=>by cases hd.2 e
                   omega)]
       rw [show (QB (some d))=d.1 from rfl,Z0]
       by_cases e:a=d
       ·rw [aa e]
        refine .inr ⟨rfl,by rintro ⟨x,h,h'⟩;cases h;exact h' e, ?_⟩
        rw [hD,obs,hpair,obs,ai _ om om];rfl
       ·rw [a7 e]
        exact .inl ⟨rfl,⟨d,rfl,e⟩,_,rfl⟩
     ·have hown:(if 2^q<=k then b else a)=b:=aa om
      rw [hown,brd om]
      cases due with
      |none=>
       refine .inr ⟨rfl,(by rintro ⟨d,h,_⟩;cases h), ?_⟩
       rw [brn (by have:=hd.1 rfl;omega),hD,obs,hpair,obs,ai _ om om];rfl
      |some d=>
       rw [brd (by have:preR.length≠0:=fun e=>by cases hd.2 e
                   omega)]
       rw [show (QB (some d))=d.1 from rfl,Z0]
       by_cases e:b=d
       ·rw [aa e]
        refine .inr ⟨rfl,by rintro ⟨x,h,h'⟩;cases h;exact h' e, ?_⟩
        rw [hD,obs,hpair,obs,ai _ om om];rfl
       ·rw [a7 e]
        exact .inl ⟨rfl,⟨d,rfl,e⟩,_,rfl⟩
   rw [qcK,cX]
   rcases hstep with ⟨hc,e,he⟩|⟨hc,ho,e,he⟩|⟨hc,ho,he⟩
   ·rw [aa hc,dx he,obs,rX]
   ·rw [a7 (by rw [hc];simp),aa ho,dx he,obs,vK,rX]
   ·rw [a7 (by rw [hc];simp),a7 ho,du he];exact ih
end
section
theorem GD {α:Type} {f:α->List UInt8} {c:Nat}: ∀{l:List α},(∀x∈l,(f x).length<=c)->(l.flatMap f).length<=l.length*c
 |[],_=>by simp
 |x::l,h=>by
  have b:=h x sm
  have d:=GD (l:=l) fun y a=>h y (by simp [a])
  rw [dA,a8,ab,Nat.succ_mul];omega
theorem V7 {α:Type} {f:α->List UInt8} {c:Nat}: ∀{l:List α},(∀x∈l,(f x).length=c)->(l.flatMap f).length=l.length*c
 |[],_=>by simp
 |x::l,h=>by
  have b:=h x sm
  have d:=V7 (l:=l) fun y a=>h y (by simp [a])
  rw [dA,a8,ab,Nat.succ_mul];omega
theorem a6c {α:Type} {f:α->List UInt8} {l:List α} {j:Nat} (a:j<l.length):(l.take (j+1)).flatMap f=(l.take j).flatMap f++f l[j]:=by
 rw [cB a,List.flatMap_append,List.flatMap_singleton]
theorem Ai {α:Type} {l:List α} {f:α->List UInt8} {c:Nat} {step:List UInt8×Int->Option ((List UInt8×Int)⊕(List UInt8×Int×Bool))} (a:List UInt8) (hc: ∀x∈l,(f x).length<=c) (k:a.length+l.length*c<=1000000)
 (d: ∀(j:Nat) (b:j<l.length) (acc:List UInt8),acc.length+c<=1000000->step (acc,(j:Int))=some (.inl (acc++f l[j],((j+1:Nat):Int)))) (h: ∀acc,step (acc,(l.length:Int))=some (.inr (acc,(l.length:Int),false))):
 Loop step (a,0)=some (a++l.flatMap f,(l.length:Int),false):=by
 have key:=bq (step:=step) (fun j=>(a++(l.take j).flatMap f,(j:Int))) l.length (e:=(a++l.flatMap f,(l.length:Int),false)) (fun j b=> ?_) ?_
 ·have key':Loop step (a++[],0)=_:=key
  rwa [bL] at key'
 ·have m:=GD (l:=l.take j) (f:=f) (c:=c) fun x i=>hc x (cn i)
  have n:(l.take j).length*c+c<=l.length*c:=by
   rw [aD,dp om, <-Nat.succ_mul];exact bg _ b
  rw [d j b _ (by rw [a8];omega),a6c b,aP]
 ·rw [h,bw]
def flB (P:List (List (List UInt8))):List UInt8:=P.flatMap fun x=>x.flatMap id
def qB (q:cx):List UInt8:=q.Pairs.flatMap e8++flB q.Paths
def oB (o:bJ):List UInt8:=(o.Rounds.flatMap fun g=>g.flatMap e8)++o.Roots.flatMap id++[o.Last].flatMap e8++lD o.Nonce++o.Queries.flatMap qB
structure BoO (o:bJ):Prop where
 rn:o.Rounds.length<=6
 rr: ∀g∈o.Rounds,g.length<=3
 ro:o.Roots.length<=6
 rh: ∀x∈o.Roots,x.length<=32
 qn:o.Queries.length<=8
 qp: ∀q∈o.Queries,q.Pairs.length<=12
 qt: ∀q∈o.Queries,q.Paths.length<=6
 qq: ∀q∈o.Queries, ∀p∈q.Paths,p.length<=8/\ ∀x∈p,x.length<=32
theorem b93 {l:List (List UInt8)}:l.all h32=true↔ ∀x∈l,x.length=32:=by simp [an,h32]
theorem wz {v:Nat} {t:Setting} {q:cx} (h:Tf (v:Int) t q=true):q.Pairs.length=2*v/\j6 q.Pairs/\q.Paths.length=v/\ ∀j,j<v->(((q.Paths.getD j []).length:Nat):Int)=v+t.Rate-1-j/\ ∀x∈q.Paths.getD j [],x.length=32:=by
 unfold Tf at h
 simp only [aB,aA] at h
 refine ⟨by omega,ZI.1 h.2.1,by omega,fun j a=> ?_⟩
 have:=Q5.1 h.2.2.2 j om
 unfold a6C at this
 simp only [aB,aA] at this
 exact ⟨this.1,b93.1 this.2⟩
structure OkO (o:bJ) (v:Nat) (t:Setting):Prop where
 v1:1<=v/\v<=6
 st:setB t=true
 rn:o.Rounds.length=v
 rr: ∀g∈o.Rounds,g.length=3/\j6 g
 ro:o.Roots.length=v-1
 rh: ∀x∈o.Roots,x.length=32
 la:okE o.Last
 no:0<=o.Nonce/\o.Nonce<=65535
 qn:(o.Queries.length:Int)=t.Queries
 qq: ∀q∈o.Queries,Tf (v:Int) t q=true
theorem Nk {o:bJ} {v:Nat} {t:Setting} (h:okO o (v:Int) t=true):OkO o v t:=by
 unfold okO qP at h
 simp only [aB,aA,an] at h
 obtain ⟨l,b,⟨m,c⟩,n,d,e,f,i,a⟩:=h
 refine ⟨by omega,b,by omega,fun g j=> ?_,by omega,fun x k=> ?_,uP.1 e,f,i,a⟩
 ·have:=c g j
  unfold UD at this
  simp only [aB,aA] at this
  exact ⟨by omega,ZI.1 this.2⟩
 ·have:=d x k
  simpa [h32] using this
theorem OkO.path {o:bJ} {v:Nat} {t:Setting} (h:OkO o v t) {q:cx} (a:q∈o.Queries) {p:List (List UInt8)} (b:p∈q.Paths):p.length<=8/\ ∀x∈p,x.length=32:=by
 obtain ⟨_,_,e,c⟩:=wz (h.qq q a)
 obtain ⟨j,d,rfl⟩:=bp b
 have:=c j om
 have f:=lM h.st
 have i:=h.v1
 rw [show q.Paths.getD j []=q.Paths[j] by simp [d]] at this
 exact ⟨by omega,this.2⟩
theorem OkO.bo {o:bJ} {v:Nat} {t:Setting} (h:OkO o v t):BoO o:=by
 have f:=h.v1
 have i:=lM h.st
 have hn:=h.qn
 have c:=h.ro
 refine ⟨by rw [h.rn];omega,fun g d=>by rw [(h.rr g d).1];omega,by omega,fun x b=>by rw [h.rh x b];omega,by omega,fun q a=> ?_,fun q a=> ?_,fun q a p e=> ?_⟩
 ·have:=(wz (h.qq q a)).1;omega
 ·have:=(wz (h.qq q a)).2.2.1;omega
 ·have:=h.path a e
  exact ⟨this.1,fun x b=>by rw [this.2 x b];omega⟩
theorem BoO.sm {o:bJ} (h:BoO o):SmO o:=⟨by have:=h.rn;omega,fun g b=>by have:=h.rr g b;omega,by have:=h.ro;omega,by have:=h.qn;omega,fun q a=>by have:=h.qp q a;omega,fun q a p c=>by have:=(h.qq q a p c).1;omega⟩
theorem BoO.pth {o:bJ} (h:BoO o) {q:cx} (b:q∈o.Queries) {p:List (List UInt8)} (d:p∈q.Paths):(p.flatMap id).length<=256:=by
 have a:=h.qq q b p d
 have:=GD (f:=id) (c:=32) a.2
 have:=a.1;omega
theorem BoO.pths {o:bJ} (h:BoO o) {q:cx} (a:q∈o.Queries):(flB q.Paths).length<=1536:=by
 have:=GD (f:=fun x:List (List UInt8)=>x.flatMap id) (c:=256) fun p b=>h.pth a b
 have d:=h.qt q a
 unfold flB;omega
theorem BoO.qry {o:bJ} (h:BoO o) {q:cx} (a:q∈o.Queries):(qB q).length<=1632:=by
 have b:=h.pths a
 have c:=h.qp q a
 unfold qB
 rw [a8,j2];omega
theorem BoO.rnd {o:bJ} (h:BoO o) {g:List Ext} (a:g∈o.Rounds):(g.flatMap e8).length<=24:=by
 have:=h.rr g a
 rw [j2];omega
theorem gdm {α:Type} {l:List α} {j:Nat} (h:j<l.length):l[j]∈l:=b9 h
theorem YM {o:bJ} (h:BoO o):p7 o=some (oB o):=by
 have h1:=h.rn
 have h3:=h.ro
 have h5:=h.qn
 unfold p7
 have u:=Ai (l:=o.Rounds) (f:=fun g=>g.flatMap e8) (c:=24) (step:=iI o.Rounds (o.Rounds.length:Int) o.Rounds o.Roots o.Last.A o.Last.B o.Nonce o.Queries) [] (fun g n=>h.rnd n) (by rw [ah];omega) (fun j a acc s=>by
  have v:=h.rnd (gdm a)
  simp only [iI]
  rw [brd om,cJ a,obs,ij (by have:=h.rr _ (gdm a);omega),obs,aS (by rw [a8];omega),ai _ om om];rfl) (fun acc=>by
  simp only [iI]
  rw [brn om,ae om])
 rw [u,obs]
 have l1:=GD (l:=o.Rounds) (f:=fun g:List Ext=>g.flatMap e8) (c:=24) (fun g n=>h.rnd n)
 generalize t:([]:List UInt8)++o.Rounds.flatMap (fun g=>g.flatMap e8)=A
 have lA:A.length<=144:=by rw [<-t,bA];omega
 have w:=Ai (l:=o.Roots) (f:=id) (c:=32) (step:=iH o.Roots (o.Roots.length:Int) o.Rounds o.Roots o.Last.A o.Last.B o.Nonce o.Queries) A (fun x e=>h.rh x e) om (fun j a acc s=>by
  have v:=h.rh _ (gdm a)
  simp only [iH]
  rw [brd om,cJ a,obs,aS (by rw [a8];omega),ai _ om om];rfl) (fun acc=>by
  simp only [iH]
  rw [brn om,ae om])
 rw [w,obs]
 have l2:=GD (l:=o.Roots) (f:=id) (c:=32) (fun x e=>h.rh x e)
 dsimp only
 rw [ij sm,obs,aS (by rw [a8,a8,j2,ag];omega),qN (by rw [a8,a8,j2,ag];omega),obs]
 have y:=Ai (l:=o.Queries) (f:=qB) (c:=1632) (step:=iO o.Queries (o.Queries.length:Int) o.Rounds o.Roots o.Last.A o.Last.B o.Nonce o.Queries) (A++o.Roots.flatMap id++[o.Last].flatMap e8++lD o.Nonce) (fun q z=>h.qry z)
  (by simp only [a8,j2,ag,gg];omega) (fun j a acc s=>by
  have b:=gdm a
  have hp:=h.qp _ b
  have ht:=h.qt _ b
  have hql:=h.qry b
  have k4:=Ai (l:=(o.Queries[j]).Paths) (f:=fun x=>x.flatMap id) (c:=256) (step:=iM o.Queries (o.Queries.length:Int) (j:Int) (o.Queries[j]).Paths (((o.Queries[j]).Paths.length:Nat):Int) o.Rounds o.Roots o.Last.A o.Last.B o.Nonce o.Queries (o.Queries[j]).Pairs (o.Queries[j]).Paths) (acc++(o.Queries[j]).Pairs.flatMap e8) (fun p r=>h.pth b r)
   (by rw [a8,j2];omega) (fun i hi ac2 ha2=>by
   have d:=gdm hi
   have hpl:=(h.qq _ b _ d).1
   have k5:=Ai (l:=((o.Queries[j]).Paths[i])) (f:=id) (c:=32) (step:=iN o.Queries (o.Queries.length:Int) (j:Int) (o.Queries[j]).Paths (((o.Queries[j]).Paths.length:Nat):Int) (i:Int) ((o.Queries[j]).Paths[i]) ((((o.Queries[j]).Paths[i]).length:Nat):Int) o.Rounds o.Roots o.Last.A o.Last.B o.Nonce o.Queries (o.Queries[j]).Pairs (o.Queries[j]).Paths) ac2 (fun x e=>(h.qq _ b _ d).2 x e)
    om (fun m k ac3 ha3=>by
    have e:=(h.qq _ b _ d).2 _ (gdm k)
    simp only [iN]
    rw [brd om,cJ k,obs,aS (by rw [a8];omega),ai _ om om];rfl) (fun ac3=>by
    simp only [iN]
    rw [brn om,ae om])
   simp only [iM]
   rw [brd om,cJ hi,obs,k5,obs,ai _ om om];rfl) (fun ac2=>by
   simp only [iM]
   rw [brn om,ae om])
  simp only [iO]
  rw [brd om,cJ a,obs,ij om,obs,aS (by rw [a8,j2];omega),k4,obs,ai _ om om,aP];rfl) (fun acc=>by
  simp only [iO]
  rw [brn om,ae om])
 rw [y,obs, <-t];rfl
variable {o:bJ} {v:Nat} {t:Setting}
end
section
theorem Va: ∀(A B preA preB:List K) (acc:K),A.length=B.length->preA.length=preB.length->preA.length+A.length<=100->
 Loop (ub (kv (preB++B)) (kv (preA++A)) ((preA++A).length:Int) 0 0) ((preA.length:Int),acc.1.A,acc.1.B)=some (((preA++A).length:Int),false,(eaK A B acc).1.A,(eaK A B acc).1.B)
 |[],B,preA,preB,acc,a,d,c=>by
  refine dx ?_
  simp only [ub]
  rw [brn sm,ae sm];simp [eaK]
 |x::A,[],preA,preB,acc,a,d,c=>by simp at a
 |x::A,b::B,preA,preB,acc,a,d,c=>by
  rw [ab,ab] at a
  rw [ab] at c
  have ih:=Va A B (preA++[x]) (preB++[b]) (acc*(x*b+(1-x)*(1-b))) om (by rw [a8,a8,ag,ag];omega) (by rw [a8,ag];omega)
  rw [aP,aP,b8,b8,show (preA++[x]).length=preA.length+1 by simp] at ih
  have e:atL (kv (preA++x::A)) (preA.length:Int)=some x.1:=by rw [Sw];exact DG (by rw [bB])
  have f:atL (kv (preB++b::B)) (preA.length:Int)=some b.1:=by rw [Sw];exact DG (by rw [bB];omega)
  rw [du (s':=(((preA.length+1:Nat):Int),(acc*(x*b+(1-x)*(1-b))).1.A,(acc*(x*b+(1-x)*(1-b))).1.B)) ?_]
  ·rw [ih];rfl
  ·simp only [ub]
   rw [brd (by rw [a8,ab];omega),e,obs,f,obs,gq x.2 b.2,obs,Ma,obs,mQ a5d x.2,obs,obs,obs,mQ a5d b.2,obs,gq (IG _ _) (IG _ _),obs,jI (Fh _ _) (Fh _ _),obs,show Ext.mk acc.1.A acc.1.B=acc.1 from rfl,gq acc.2 (a56 _ _),obs,ai _ om om];rfl
theorem a5n {A B:List K} (h:A.length=B.length) (a:A.length<=100):Jy (kv A) (kv B)=some (eaK A B 1).1:=by
 have:=Va A B [] [] 1 h rfl (by rw [ah];omega)
 unfold Jy
 rw [Ma,obs,bB]
 rw [bA,bA,ah] at this
 have key:Loop (ub (kv B) (kv A) (A.length:Int) 0 0) (0,e1.A,e1.B)=_:=this
 rw [key];rfl
theorem c6p {L:List Ext} (h:j6 L):kv (L.map toK)=L:=by
 rw [kv,fg]
 refine (bn fun x a=> ?_).trans (jO _)
 exact tZ (h x a)
theorem b4s: ∀(n m:Nat) (rts:List (List UInt8)) (prs:List K) (pths:List (List (List UInt8))) (D:List K),n<=m->rts.length=n->prs.length=2*n->pths.length=n->D.length=n->(∀j,j<n->(pths.getD j []).length=m-1-j/\ ∀x∈pths.getD j [],x.length=32)->QSh m rts prs pths D
 |0,m,[],[],[],[],_,_,_,_,_,_=>trivial
 |0,m,_::_,_,_,_,_,h,_,_,_,_=>by simp at h
 |0,m,_,_::_,_,_,_,_,h,_,_,_=>by simp at h
 |0,m,_,_,_::_,_,_,_,_,h,_,_=>by simp at h
 |0,m,_,_,_,_::_,_,_,_,_,h,_=>by simp at h
 |n+1,m,rts,prs,pths,D,l,d,c,e,f,i=>by
  match rts,prs,pths,D,d,c,e,f with
  |rt::rts,a::b::prs,p::pths,r::D,d,c,e,f=>
   simp only [ab] at d c e f
   have h0:=i 0 om
   exact ⟨by omega,by have:=h0.1;simpa using this,fun x k=>h0.2 x k,b4s n (m-1) rts prs pths D om om om om om fun j o=>by
    have:=i (j+1) om
    exact ⟨this.1.trans om,this.2⟩⟩
  |[],_,_,_,d,_,_,_=>simp at d
  |_::_,[],_,_,_,c,_,_=>simp at c
  |_::_,[_],_,_,_,c,_,_=>simp at c;omega
  |_::_,_::_::_,[],_,_,_,e,_=>simp at e
  |_::_,_::_::_,_::_,[],_,_,_,f=>simp at f
variable {o:bJ} {v ρ:Nat} {t:Setting} {root:List UInt8} {D:List K} {q:cx}
theorem c5d (h:OkO o v t) (e1:t.Rate=(ρ:Int)) (a:D.length=v) (b:q∈o.Queries):QSh (v+ρ) (root::o.Roots) (q.Pairs.map toK) q.Paths D:=by
 obtain ⟨c,i,d,e⟩:=wz (h.qq q b)
 have k:=h.v1
 have l:=lM h.st
 have m:=h.ro
 exact b4s v (v+ρ) _ _ _ _ om (by rw [ab];omega) (by rw [aw,c]) d a fun j f=>by
  have:=e j f
  exact ⟨by omega,this.2⟩
theorem a4e (h:OkO o v t) (e1:t.Rate=(ρ:Int)) (b:D.length=v) (a:q∈o.Queries) {p:Int} (h0:0<=p) (d:p<512):
 zu (root::o.Roots) (kv D) ((2^(v+ρ):Nat):Int) p o q=some (qcK (toK o.Last) (v+ρ) (root::o.Roots) (q.Pairs.map toK) q.Paths D p.toNat none):=by
 have e:=lM h.st
 have f:=h.v1
 have i:=h.ro
 have key:=UW (l:=toK o.Last) (M:=v+ρ) (V:=(((root::o.Roots).length:Nat):Int)) (c:=o.Rounds) (c2:=o.Roots) (c3:=o.Last.A) (c4:=o.Last.B) (c5:=o.Nonce) (c6:=o.Queries) (root::o.Roots) (q.Pairs.map toK) q.Paths D (v+ρ) [] [] [] [] p.toNat none (c5d h e1 b a) om rfl rfl rfl rfl (by rw [ah];omega) (by rw [ah,ab];omega) om sm sm
 simp only [bA,ah,c6p (wz (h.qq q a)).2.1,fD h0,tZ h.la] at key
 exact key
end
section
theorem SW {v:Nat} {V:Int} {rts:List (List UInt8)} {c6:List (List Ext)} {c8 c9 c10 c14 c15:Int} {c11:List cx} (z:V=(v:Int)) (m:rts.length+1=v) (a: ∀x∈rts,x.length=32): ∀(R pre:List (List K)) (cl:K) (s:Source) (k:Int) (P:List Ext),(∀g∈R,g.length=3)->Few s k->k+3*R.length<=999890->P.length+R.length<=1000->pre.length+R.length=v->v<=100->
 ((vfM 1 (bvO v rts) R pre.length cl s).1=0->Loop (bm 1 (kvv (pre++R)) V c14 c15) (P,(pre.length:Int),s.Script,s.At,s.State,s.Count,V,c6,rts,c8,c9,c10,c11,cl.1.A,cl.1.B)=
   some (.inr (P++kv (vfM 1 (bvO v rts) R pre.length cl s).2.1,V,false,(vfM 1 (bvO v rts) R pre.length cl s).2.2.2.Script,(vfM 1 (bvO v rts) R pre.length cl s).2.2.2.At,(vfM 1 (bvO v rts) R pre.length cl s).2.2.2.State,(vfM 1 (bvO v rts) R pre.length cl s).2.2.2.Count,V,c6,rts,c8,c9,c10,c11,
    (vfM 1 (bvO v rts) R pre.length cl s).2.2.1.1.A,(vfM 1 (bvO v rts) R pre.length cl s).2.2.1.1.B)))/\
 ((vfM 1 (bvO v rts) R pre.length cl s).1≠0->(vfM 1 (bvO v rts) R pre.length cl s).1=10/\ ∃e:List Ext×Int×List Ext×Int×List UInt8×Int×Int×List (List Ext)×List (List UInt8)×Int×Int×Int×List cx×Int×Int,e.2.1=10/\Loop (bm 1 (kvv (pre++R)) V c14 c15) (P,(pre.length:Int),s.Script,s.At,s.State,s.Count,V,c6,rts,c8,c9,c10,c11,cl.1.A,cl.1.B)=some (.inl e))
 |[],pre,cl,s,k,P,n,b,t,u,o,w=>by
  rw [ah] at o
  refine ⟨fun _=>dx ?_,fun h=>absurd rfl h⟩
  simp only [bm,bL]
  rw [brn om,ae om]
  simp [vfM,kv];omega
 |g::R,pre,cl,s,k,P,n,b,t,u,o,w=>by
  rw [ab] at t u o
  have p:=n g sm
  have c:qE 1=some ((2:Nat):Int):=xY (kind:=1) (.inl rfl)
  have hat:atL (kvv (pre++g::R)) (pre.length:Int)=some (kv g):=by rw [Ha sm];simp
  have hk0:0<=k:=by have:=b.2;have:=b.1.4;omega
  rw [vfM,aa (show g.length=1+2 from p)]
  by_cases f:g.getD 0 0+g.getD 1 0=cl
  ·rw [aa f]
   have q:Few (bvO v rts pre.length (nsM s g)) (k+2+1):=a9L v rts _ _ _ (Kn b om g) om
   have ih:=SW (c6:=c6) (c8:=c8) (c9:=c9) (c10:=c10) (c11:=c11) (c14:=c14) (c15:=c15) z m a R (pre++[g]) (lnK g (rdM s g)) (bvO v rts pre.length (nsM s g)) (k+2+1) (P++[(rdM s g).1]) (fun x l=>n x (by simp [l])) q om (by rw [a8,ag];omega) (by rw [a8,ag];omega) w
   rw [aP,b8,a8,ag] at ih
   have step:bm 1 (kvv (pre++g::R)) V c14 c15 (P,(pre.length:Int),s.Script,s.At,s.State,s.Count,V,c6,rts,c8,c9,c10,c11,cl.1.A,cl.1.B)=
    some (.inl (P++[(rdM s g).1],((pre.length+1:Nat):Int),(bvO v rts pre.length (nsM s g)).Script,(bvO v rts pre.length (nsM s g)).At,(bvO v rts pre.length (nsM s g)).State,(bvO v rts pre.length (nsM s g)).Count,V,c6,rts,c8,c9,c10,c11,(lnK g (rdM s g)).1.A,(lnK g (rdM s g)).1.B)):=by
    simp only [bm,nX]
    rw [brd om,hat,obs,c,obs,ai _ om om,m9 (by rw [bB];omega),atK (i:=0) (j:=0) rfl om,obs,atK (i:=1) (j:=1) rfl om,obs,jI (aI _) (aI _),obs]
    rw [show eA (g.getD 0 0).1 (g.getD 1 0).1=cl.1 from congrArg Subtype.val f,bre rfl,bre rfl,show Source.mk s.Script s.At s.State s.Count=s from rfl,Az b.1 om,obs,Zb b,obs]
    dsimp only
    rw [Ok _ om,obs,aS (by rw [a8,ag];omega),ai (V-1) om om,ai ((pre.length:Int)+1) om om]
    by_cases y:pre.length+1<v
    ·have l:rts.getD pre.length []∈rts:=by simp [show pre.length<rts.length by omega]
     rw [brd om,b8N (d:=[]) om,obs,aS (by rw [a _ l];omega),mi (Kn b om g).1.3 (by rw [a _ l];omega),obs,obs,bvO,aa y];rfl
    ·rw [brn om,obs,bvO,a7 y];rfl
   refine ⟨fun h=> ?_,fun h=> ?_⟩
   ·rw [du step,ih.1 h]
    simp [kv]
   ·obtain ⟨r,e,h1,he⟩:=ih.2 h
    exact ⟨r,e,h1,by rw [du step,he]⟩
  ·rw [a7 f]
   refine ⟨fun h=>absurd (show (10:Int)=0 from h) dcd,fun _=>⟨rfl,(P,10,s.Script,s.At,s.State,s.Count,V,c6,rts,c8,c9,c10,c11,cl.1.A,cl.1.B),rfl,dx ?_⟩⟩
   simp only [bm,nX]
   rw [brd om,hat,obs,c,obs,ai _ om om,m9 (by rw [bB];omega),atK (i:=0) (j:=0) rfl om,obs,atK (i:=1) (j:=1) rfl om,obs,jI (aI _) (aI _),obs]
   rw [show eA (g.getD 0 0).1 (g.getD 1 0).1=(g.getD 0 0+g.getD 1 0).1 from rfl,Z0,a7 f]
end
section
variable {o:bJ} {v ρ nq bits:Nat} {t:Setting} {root:List UInt8} {D P:List K} {s:Source} {k:Int}
theorem Vb {c2 c4 c5 c6 c7 c8 c9 c16 c17 c18 N:Int} {c:List Ext} {c3:List UInt8} (h:OkO o v t) (e1:t.Rate=(ρ:Int)) (hD:D.length=v): ∀(ps:List Int) (qs:List cx) (preP:List Int) (preQ:List cx),o.Queries=preQ++qs->preP.length=preQ.length->ps.length=qs.length->preP.length+ps.length<=100->(∀p∈ps,0<=p/\p<512)->N=((preP++ps).length:Int)->
 (qsC (toK o.Last) (v+ρ) (root::o.Roots) D ps qs=0->Loop (fG (root::o.Roots) (kv D) ((2^(v+ρ):Nat):Int) (preP++ps) N c c2 c3 c4 c5 c6 c7 c8 c9 o.Rounds o.Roots o.Last.A o.Last.B o.Nonce o.Queries c16 c17 c18) (preP.length:Int)=some (.inr (N,false)))/\
 (qsC (toK o.Last) (v+ρ) (root::o.Roots) D ps qs≠0->Loop (fG (root::o.Roots) (kv D) ((2^(v+ρ):Nat):Int) (preP++ps) N c c2 c3 c4 c5 c6 c7 c8 c9 o.Rounds o.Roots o.Last.A o.Last.B o.Nonce o.Queries c16 c17 c18) (preP.length:Int)=some (.inl (qsC (toK o.Last) (v+ρ) (root::o.Roots) D ps qs)))
 |[],qs,preP,preQ,hQ,h1,h2,h3,hp,hN=>by
  rw [bL] at hN
  refine ⟨fun _=>dx ?_,fun h=>absurd (by cases qs<;>rfl) h⟩
  simp only [fG]
  rw [brn om,ae om,hN]
 |p::ps,[],preP,preQ,hQ,h1,h2,h3,hp,hN=>by simp at h2
 |p::ps,q::qs,preP,preQ,hQ,h1,h2,h3,hp,hN=>by
  rw [ab] at h3
  have hp0:=hp p sm
  have hm:q∈o.Queries:=by rw [hQ];simp
  have hq:=a4e (root:=root) h e1 hD hm hp0.1 hp0.2
  have ih:=Vb (N:=N) (c:=c) (c2:=c2) (c3:=c3) (c4:=c4) (c5:=c5) (c6:=c6) (c7:=c7) (c8:=c8) (c9:=c9) (c16:=c16) (c17:=c17) (c18:=c18) h e1 hD ps qs (preP++[p]) (preQ++[q]) (by rw [hQ];simp) (by simp [h1]) (by simpa using h2) (by rw [a8,ag];omega) (fun x hx=>hp x (by simp [hx])) (by rw [hN];simp)
  rw [aP,b8,show (preP++[p]).length=preP.length+1 by simp] at ih
  have hs:fG (root::o.Roots) (kv D) ((2^(v+ρ):Nat):Int) (preP++p::ps) N c c2 c3 c4 c5 c6 c7 c8 c9 o.Rounds o.Roots o.Last.A o.Last.B o.Nonce o.Queries c16 c17 c18 (preP.length:Int)=
   br (qcK (toK o.Last) (v+ρ) (root::o.Roots) (q.Pairs.map toK) q.Paths D p.toNat none !=0) (some (.inr (.inl (qcK (toK o.Last) (v+ρ) (root::o.Roots) (q.Pairs.map toK) q.Paths D p.toNat none)))) (some (.inl ((preP.length+1:Nat):Int))):=by
   simp only [fG]
   rw [brd (by rw [hN,a8,ab];omega),DG rfl,obs,show atL o.Queries (preP.length:Int)=some q by rw [hQ];exact DG om,obs,show bJ.mk o.Rounds o.Roots (Ext.mk o.Last.A o.Last.B) o.Nonce o.Queries=o from rfl,hq,obs,ai _ om om];rfl
  rw [qsC]
  by_cases hz:qcK (toK o.Last) (v+ρ) (root::o.Roots) (q.Pairs.map toK) q.Paths D p.toNat none=0
  ·rw [aa hz]
   rw [m9 hz] at hs
   rw [du hs];exact ih
  ·rw [a7 hz]
   rw [brb hz] at hs
   exact ⟨fun h=>absurd h hz,fun _=>dx hs⟩
def Q3 (o:bJ):List (List K):=o.Rounds.map fun g=>g.map toK
theorem b6c (h:OkO o v t):kvv (Q3 o)=o.Rounds:=by
 rw [kvv,Q3,fg]
 refine (bn fun g a=> ?_).trans (jO _)
 exact c6p (h.rr g a).2
end
section
variable {o:bJ} {v ρ nq bits:Nat} {t:Setting} {root:List UInt8} {P:List K} {cl:K} {s:Source} {k:Int}
noncomputable def vfO (v:Nat) (o:bJ) (cl:K) (s:Source):Int×List K×K×Source:=vfM 1 (bvO v o.Roots) (Q3 o) 0 cl s
noncomputable def chO (v ρ nq bits:Nat) (root:List UInt8) (P:List K) (cl:K) (o:bJ) (s:Source):Int:=chC (v+ρ) bits nq root P o.Roots (toK o.Last) o.Nonce o.Queries (vfO v o cl s)
end
section
variable {o:bJ} {v ρ nq bits:Nat} {t:Setting} {root:List UInt8} {P:List K} {cl:K} {s:Source} {k:Int}
theorem a2R (h:OkO o v t) (hP:P.length=v) (e1:t.Rate=(ρ:Int)) (e2:t.Queries=(nq:Int)) (e3:t.Grind=(bits:Int)) (r:Few s k) (hk:k<=999850):
 ∃src,rH root (kv P) cl.1 t o s=some (chO v ρ nq bits root P cl o s,src)/\(chO v ρ nq bits root P cl o s=0->src=chS nq (toK o.Last) o.Nonce (vfO v o cl s)):=by
 have hs:=lM h.st
 have hv:=h.v1
 have hro:=h.ro
 have l:=h.rn
 have hqn:=h.qn
 have hk0:0<=k:=by have:=r.2;have:=r.1.4;omega
 have hrl:(Q3 o).length=v:=by rw [Q3,aw,l]
 have hr3: ∀g∈Q3 o,g.length=3:=fun g hg=>by
  obtain ⟨x,hx,rfl⟩:=bf.1 hg
  rw [aw,(h.rr x hx).1]
 obtain ⟨q,hq⟩: ∃q,v+ρ=q+1:=⟨v+ρ-1,by omega⟩
 have hpq:=Jv q om
 have u:=SW (V:=(v:Int)) (rts:=o.Roots) (c6:=o.Rounds) (c8:=o.Last.A) (c9:=o.Last.B) (c10:=o.Nonce) (c11:=o.Queries) (c14:=0) (c15:=0) rfl om h.rh (Q3 o) [] cl s k [] hr3 r om (by rw [ah];omega) (by rw [ah];omega) om
 rw [bA,bA,ah,b6c h] at u
 have f:=Xh (kind:=1) (bv:=bvO v o.Roots) (Q3 o) 0 cl s
 have d:=XM (kind:=1) (a9L v o.Roots) (Q3 o) 0 cl s k r om
 rw [show vfM 1 (bvO v o.Roots) (Q3 o) 0 cl s=vfO v o cl s from rfl] at u f d
 rw [hrl] at f d
 unfold rH eZ
 rw [bB,hP,l]
 unfold chO chC
 by_cases h0:(vfO v o cl s).1=0
 ·have key:Loop (bm 1 o.Rounds (v:Int) 0 0) ([],0,s.Script,s.At,s.State,s.Count,(v:Int),o.Rounds,o.Roots,o.Last.A,o.Last.B,o.Nonce,o.Queries,cl.1.A,cl.1.B)=_:=u.1 h0
  have m:=f h0
  rw [key,obs,vK,aa h0,obs]
  dsimp only
  rw [m9 rfl]
  simp only [show Ext.mk o.Last.A o.Last.B=o.Last from rfl]
  have a:o.Last=(toK o.Last).1:=(tZ h.la).symm
  rw [a5n (by rw [m,hP]) om,obs,gq h.la (aI _),obs,show eM o.Last (eaK (vfO v o cl s).2.1 P 1).1=(toK o.Last*eaK (vfO v o cl s).2.1 P 1).1 by rw [K.mul_val, <-a],Z0]
  by_cases w:toK o.Last*eaK (vfO v o cl s).2.1 P 1=(vfO v o cl s).2.2.1
  ·rw [aa w,aa w]
   have i:Few (rsM (vfO v o cl s).2.2.2 [toK o.Last]) (k+3*v+1):=d.take _
   rw [show Source.mk (vfO v o cl s).2.2.2.Script (vfO v o cl s).2.2.2.At (vfO v o cl s).2.2.2.State (vfO v o cl s).2.2.2.Count=(vfO v o cl s).2.2.2 from rfl,show ([o.Last]:List Ext)=kv [toK o.Last] by rw [kv,ov, <-a],Az d.1 sm,obs,e3,NS i.1.3 om,obs]
   cases h2:tx (rsM (vfO v o cl s).2.2.2 [toK o.Last]).State bits o.Nonce with
   |false=>rw [lF,dj,a7 sm];exact ⟨_,rfl,fun h=>absurd h dcd⟩
   |true=>
    have n:Few (tkM (rsM (vfO v o cl s).2.2.2 [toK o.Last]) (lD o.Nonce)) (k+3*v+1+1):=i.take _
    have hpl: ∀x∈plM (drL (tkM (rsM (vfO v o cl s).2.2.2 [toK o.Last]) (lD o.Nonce)) nq) ((2^q:Nat):Int),0<=x/\x<512:=fun x hx=>by
     obtain ⟨y,hy,rfl⟩:=bf.1 hx
     have g0:=dD y.A (b:=((2^q:Nat):Int)) om
     have g1:=cV y.A (b:=((2^q:Nat):Int)) om
     have g2:=Jv (q+1) om
     have g3:2^(q+1)=2*2^q:=by rw [aZ];omega
     omega
    have hsh:ct .i64 1 (((v+ρ:Nat)):Int)=((2^(v+ρ):Nat):Int):=b0D (v+ρ) om
    rw [aQ,bu,aa rfl,CH,obs,mi i.1.3 (by rw [gg];omega),obs,e1,ai ((v:Int)+(ρ:Int)) om om,brd om,aS (by simp only [a8,ag];omega),show (v:Int)+(ρ:Int)=((v+ρ:Nat):Int) by omega,hsh,hq,a0J q om,e2,wR n om om,obs,OL (by rw [xC];omega) (MZ n om om) om,obs,cX,b8]
    have p:(plM (drL (tkM (rsM (vfO v o cl s).2.2.2 [toK o.Last]) (lD o.Nonce)) nq) ((2^q:Nat):Int)).length=nq:=by rw [plM,aw,xC]
    have j:=Vb (root:=root) (N:=(((plM (drL (tkM (rsM (vfO v o cl s).2.2.2 [toK o.Last]) (lD o.Nonce)) nq) ((2^q:Nat):Int)).length:Nat):Int)) (D:=(vfO v o cl s).2.1) (c:=(drS (tkM (rsM (vfO v o cl s).2.2.2 [toK o.Last]) (lD o.Nonce)) nq).Script) (c2:=(drS (tkM (rsM (vfO v o cl s).2.2.2 [toK o.Last]) (lD o.Nonce)) nq).At) (c3:=(drS (tkM (rsM (vfO v o cl s).2.2.2 [toK o.Last]) (lD o.Nonce)) nq).State) (c4:=(drS (tkM (rsM (vfO v o cl s).2.2.2 [toK o.Last]) (lD o.Nonce)) nq).Count) (c5:=cl.1.A) (c6:=cl.1.B) (c7:=(ρ:Int)) (c8:=(nq:Int)) (c9:=t.Grind) (c16:=(v:Int)) (c17:=(vfO v o cl s).2.2.1.1.A) (c18:=(vfO v o cl s).2.2.1.1.B) h e1 m (plM (drL (tkM (rsM (vfO v o cl s).2.2.2 [toK o.Last]) (lD o.Nonce)) nq) ((2^q:Nat):Int)) o.Queries [] [] rfl rfl (by rw [p];omega) (by rw [p,ah];omega) hpl rfl
    rw [bA,ah,hq,e3] at j
    by_cases z:qsC (toK o.Last) (q+1) (root::o.Roots) (vfO v o cl s).2.1 (plM (drL (tkM (rsM (vfO v o cl s).2.2.2 [toK o.Last]) (lD o.Nonce)) nq) ((2^q:Nat):Int)) o.Queries=0
    ·have kk:=j.1 z
     rw [show (((0:Nat):Int))=0 from rfl] at kk
     rw [kk,z]
     exact ⟨_,rfl,fun _=>rfl⟩
    ·have kk:=j.2 z
     rw [show (((0:Nat):Int))=0 from rfl] at kk
     rw [kk]
     exact ⟨_,rfl,fun h=>absurd h z⟩
  ·rw [a7 w,a7 w]
   exact ⟨_,rfl,fun h=>absurd h dcd⟩
 ·obtain ⟨h10,e,h11,he⟩:=u.2 h0
  have key:Loop (bm 1 o.Rounds (v:Int) 0 0) ([],0,s.Script,s.At,s.State,s.Count,(v:Int),o.Rounds,o.Roots,o.Last.A,o.Last.B,o.Nonce,o.Queries,cl.1.A,cl.1.B)=_:=he
  rw [key,obs,rX,a7 h0,h10,obs]
  dsimp only
  rw [h11,brb dcd]
  exact ⟨_,rfl,fun h=>absurd h dcd⟩
end
section
variable {o:bJ} {v ρ nq bits:Nat} {t:Setting} {root:List UInt8} {P:List K} {cl:K} {s:Source} {k:Int}
end
section
def SzT (x:List UInt8):Prop:=x.length<=1048576
def c6g (a:List (List UInt8)):Prop:=a.length<=1048576/\ ∀x∈a,SzT x
def c6j (a:List (List (List UInt8))):Prop:=a.length<=1048576/\ ∀x∈a,c6g x
def c2q (a:List (List Ext)):Prop:=a.length<=1048576/\ ∀x∈a,x.length<=1048576
def SzQ (q:cx):Prop:=q.Pairs.length<=1048576/\c6j q.Paths
def SzO (o:bJ):Prop:=c2q o.Rounds/\c6g o.Roots/\o.Queries.length<=1048576/\ ∀q∈o.Queries,SzQ q
def SzP (p:jy):Prop:=SzT p.Root/\c2q p.Gates/\c2q p.Wires/\SzO p.Open
theorem SzO.sm {o:bJ} (h:SzO o):SmO o:=⟨by have:=h.1.1;omega,fun g b=>by have:=h.1.2 g b;omega,by have:=h.2.1.1;omega,by have:=h.2.2.1;omega,fun q a=>by have:=(h.2.2.2 q a).1;omega,fun q a p c=>by have:=((h.2.2.2 q a).2.2 p c).1;omega⟩
end
section
noncomputable def okP (p:jy) (s:bD) (t:Setting):Bool:=
 lX s&&(setB t&&(h32 p.Root&&(qP p.Gates s.Rows 4&&(vY p.VA&&(vY p.VB&&(vY p.VC&&(qP p.Wires s.Cols 3&&(vY p.VW&&okO p.Open (s.Cols-1) t))))))))
theorem DW {p:jy} {s:bD} {t:Setting} (h:SzP p) (c:s.A.length<=1048576) (d:s.B.length<=1048576) (e:s.C.length<=1048576):ws p s t=some (okP p s t):=by
 have f:=h.2.1.1
 have i:=h.2.2.1.1
 unfold ws okP
 rw [Cj om om om,obs]
 cases b:lX s
 ·rfl
 ·obtain ⟨j,hc,_⟩:=fE b
  rw [dj,nN,obs,BB,B3 om (fun g a=>by have:=h.2.1.2 g a;omega),B3 om (fun g a=>by have:=h.2.2.1.2 g a;omega),ai _ om om,RA h.2.2.2.sm,wq,wq,wq,wq]
  simp only [obs,bk,h32]
  cases setB t<;>cases decide (p.Root.length=32)<;>cases qP p.Gates s.Rows 4<;>cases vY p.VA<;>cases vY p.VB<;>cases vY p.VC<;>cases qP p.Wires s.Cols 3<;>cases vY p.VW<;>rfl
end
section
theorem b1k {R T:List K} {β:K} {l t t2 t3 c4 c5 c6:List aN} {c c2 c3 c7 c8 c11 c12 RR CC:Int} (a:OkM l RR CC) (b:(R.length:Int)=RR) (d:(T.length:Int)=CC):
 Loop (s9 (kv R) t t2 t3 l (l.length:Int) c c2 c3 c4 c5 c6 c7 c8 β.1.A β.1.B c11 c12) (kv T,0)=some (kv (l.foldl (btS β R) T),(l.length:Int),false):=
 Rv (t:=t) (t2:=t2) (t3:=t3) (t4:=0) (c:=c) (c2:=c2) (c3:=c3) (c4:=c4) (c5:=c5) (c6:=c6) (c9:=0) (c10:=0) (c11:=0) (c12:=0) a b d
theorem b3q {R T:List K} {β:K} {l t t2 t3 c4 c5 c6:List aN} {c c2 c3 c7 c8 c9 c10 RR CC:Int} (a:OkM l RR CC) (b:(R.length:Int)=RR) (d:(T.length:Int)=CC):
 Loop (su (kv R) t t2 t3 l (l.length:Int) c c2 c3 c4 c5 c6 c7 c8 c9 c10 β.1.A β.1.B) (kv T,0)=some (kv (l.foldl (btS β R) T),(l.length:Int),false):=
 Rv (t:=t) (t2:=t2) (t3:=t3) (t4:=0) (c:=c) (c2:=c2) (c3:=c3) (c4:=c4) (c5:=c5) (c6:=c6) (c9:=0) (c10:=0) (c11:=0) (c12:=0) a b d
def btM (s:bD) (R:List K) (x y z:K):List K:=s.C.foldl (btS z R) (s.B.foldl (btS y R) (s.A.foldl (btS x R) (List.replicate (2^s.Cols.toNat) 0)))
theorem PQ (s:bD) (R:List K) (x y z:K):(btM s R x y z).length=2^s.Cols.toNat:=by rw [btM,vn,vn,vn,aL]
theorem b7C (n:Nat):kv (List.replicate n 0)=List.replicate n e0:=by rw [kv,vN];rfl
theorem b2I {s:bD} (h:lX s=true):OkM s.A ((2^s.Rows.toNat:Nat):Int) ((2^s.Cols.toNat:Nat):Int)/\OkM s.B ((2^s.Rows.toNat:Nat):Int) ((2^s.Cols.toNat:Nat):Int)/\OkM s.C ((2^s.Rows.toNat:Nat):Int) ((2^s.Cols.toNat:Nat):Int)/\
 B5 s.A ((2^s.Rows.toNat:Nat):Int) ((2^s.Cols.toNat:Nat):Int)=true/\B5 s.B ((2^s.Rows.toNat:Nat):Int) ((2^s.Cols.toNat:Nat):Int)=true/\B5 s.C ((2^s.Rows.toNat:Nat):Int) ((2^s.Cols.toNat:Nat):Int)=true:=by
 obtain ⟨c,d,_⟩:=fE h
 have e1:s.Rows=(s.Rows.toNat:Int):=by omega
 have e2:s.Cols=(s.Cols.toNat:Int):=by omega
 have a:ct .i64 1 s.Rows=((2^s.Rows.toNat:Nat):Int):=by conv=>lhs;rw [e1];rw [MD om]
 have b:ct .i64 1 s.Cols=((2^s.Cols.toNat:Nat):Int):=by conv=>lhs;rw [e2];rw [MD om]
 unfold lX at h
 simp only [aB,aA,a,b] at h
 obtain ⟨_,_,_,mA,mB,mC⟩:=h
 exact ⟨HP mA,HP mB,HP mC,mA,mB,mC⟩
theorem Fv {s:bD} (h:lX s=true) {p R:List K} {x y z:K} (c:p.length=s.Rows.toNat) (b:eqT (kv p)=kv R):sj s (kv p) (x.1,y.1,z.1)=some (kv (btM s R x y z)):=by
 obtain ⟨f,hc,_⟩:=fE h
 obtain ⟨mA,mB,mC,_⟩:=b2I h
 have d:=Cp s.Cols.toNat om
 have a:(R.length:Int)=((2^s.Rows.toNat:Nat):Int):=by
  have:=PW (kv p)
  rw [b,bB,bB,c] at this;omega
 have e2:s.Cols=(s.Cols.toNat:Int):=by omega
 have e:ct .i64 1 s.Cols=((2^s.Cols.toNat:Nat):Int):=by conv=>lhs;rw [e2];rw [MD om]
 unfold sj ez
 rw [brd om,e,a0O om om om,sr (An p) (by rw [bB];omega),obs,b,obs]
 dsimp only
 rw [aY,show Ext.mk 0 0=e0 from rfl, <-b7C,Rv mA a (by rw [aL]),obs]
 dsimp only
 rw [b1k mB a (by rw [vn,aL]),obs]
 dsimp only
 rw [b3q mC a (by rw [vn,vn,aL]),obs];rfl
theorem Re (Q:List K): ∀n,ja (List.replicate n 0) Q=0
 |0=>rfl
 |n+1=>by
  cases Q with
  |nil=>rfl
  |cons y Q=>rw [nY,ja,Re Q n];exact kg
def TP (l:List Int):List UInt8:=l.flatMap lD
theorem a1m (l:List Int):(TP l).length=4*l.length:=by
 induction l with
 |nil=>rfl
 |cons x l ih=>simp only [TP,dA,a8,gg,ab] at*;omega
theorem a8E (l:List Int) (x:Int):TP (l++[x])=TP l++lD x:=by simp [TP]
def setT (t:Setting):List UInt8:=[UInt8.ofInt t.Rate,UInt8.ofInt t.Queries,UInt8.ofInt t.Grind]
def Nn (s:bD) (t:Setting) (p:List Int):List UInt8:=H (a0A s)++setT t++TP p
theorem b70 {l:List (List UInt8)} {l3 L:List UInt8} {p:List Int} {c c2 c3 c7 c8 c9:Int} {c4 c5 c6:List aN} (b:p.length<=5000) (hL:L.length<=1000):Loop (jN l l3 p (p.length:Int) c c2 c3 c4 c5 c6 c7 c8 c9) (L,0)=some (L++TP p,(p.length:Int),false):=by
 have key:=bq (step:=jN l l3 p (p.length:Int) c c2 c3 c4 c5 c6 c7 c8 c9) (fun j=>(L++TP (p.take j),(j:Int))) p.length (e:=(L++TP p,(p.length:Int),false)) (fun j a=> ?_) ?_
 ·simpa [TP] using key
 ·simp only [jN]
  have hn:=a1m (p.take j)
  rw [aD] at hn
  rw [brd om,cJ a,obs,qN (by simp only [a8];omega),obs,ai _ om om,cB a,a8E,aP];rfl
 ·simp only [jN]
  rw [brn om,ae om,bw]
theorem T7 (s:bD) (t:Setting) (p:List Int):(Nn s t p).length=35+4*p.length:=by
 simp only [Nn,a8,EU,setT,ab,ah,a1m]
end
section
noncomputable def stC (s:bD) (t:Setting) (p:List Int) (src:Source):Int:=
 if p.length>4096 then 2 else if lX s=false then 1 else if setB t=false then 1 else if p.all Ey=false then 1 else if a6Y src=false then 1
 else if (p.length:Int)≠s.Publics then 17 else if 999800<mx src.At src.Count then 6 else 0
theorem RC {s:bD} {t:Setting} {p:List Int} {src:Source} (c:s.A.length<=1048576) (d:s.B.length<=1048576) (e:s.C.length<=1048576) (f:p.length<=1048576) (h:src.Script.length<=1048576):
 yb s t p src=some (stC s t p src):=by
 unfold yb stC
 by_cases c1:p.length>4096
 ·rw [brd om,aa c1]
 rw [brn om,a7 c1,Cj om om om,obs]
 cases i:lX s
 ·rfl
 rw [aQ,bu,a7 sm,nN,obs]
 cases j:setB t
 ·rfl
 rw [aQ,bu,a7 sm,MM om,obs]
 cases k:p.all Ey
 ·rfl
 rw [aQ,bu,a7 sm,IV om,obs]
 cases b:a6Y src
 ·rfl
 have a:=Qa.1 b
 have h0:0<=mx src.At src.Count:=by have:=a.4;have:=a.6;unfold mx;split<;>assumption
 have l:=b59 a.5 a.7
 rw [aQ,bu,a7 sm]
 by_cases c6:(p.length:Int)=s.Publics
 ·rw [m9 c6,a7 (by simp [c6])]
  unfold mW
  rw [obs,ai _ om om]
  by_cases c7:999800<mx src.At src.Count
  ·rw [brd om,aa c7]
  ·rw [brn om,a7 c7]
 ·rw [brb c6,aa c6]
structure JC (s:bD) (t:Setting) (p:List Int) (src:Source):Prop where
 sy:lX s=true
 se:setB t=true
 pl:p.length<=4096
 pf:hK p
 pe:(p.length:Int)=s.Publics
 fw:Few src 999800
theorem Hb {s:bD} {t:Setting} {p:List Int} {src:Source} (h:JC s t p src):ul s t p=some (Nn s t p):=by
 obtain ⟨_,_,_,a,b,c⟩:=fE h.sy
 have d:=h.pl
 have e:=b4r s
 have f:=EU (a0A s)
 unfold ul
 rw [Pk a b c,obs,yh (by simpa using by omega) sm,obs,show [a0A s].flatten=a0A s by simp,aS om,aS (by simp only [a8,ab,ah];omega),
  b70 om (by simp only [a8,ab,ah];omega),obs];rfl
theorem WS (x y z:K):ww x.1 y.1 z.1=some (x+z*(y-x)).1:=by
 unfold ww
 rw [mQ y.2 x.2,obs,gq z.2 (IG _ _),obs,jI x.2 (Fh _ _),obs];rfl
theorem c5w {L:List Ext} (h:j6 L) (d:L.length=3): ∃a b c:K,L=kv [a,b,c]:=by
 obtain ⟨l,rfl⟩:=b5K h
 rw [bB] at d
 match l,d with
 |[a,b,c],_=>exact ⟨a,b,c,rfl⟩
noncomputable def a8z (s:bD) (p:List Int) (P:List K):K:=toK (b9d s p (kv P))
theorem a03 (s:bD) (p:List Int) (P:List K):(a8z s p P).1=b9d s p (kv P):=tZ (b9O _ _)
noncomputable def vx1 (s:bD) (t:Setting) (p:List Int) (root:List UInt8) (src:Source):Source:=tkM (tkM src (Nn s t p)) root
noncomputable def vg1 (s:bD) (t:Setting) (p:List Int) (root:List UInt8) (G:List (List K)) (src:Source):Int×List K×K×Source:=vfM 2 bv0 G 0 0 (drS (vx1 s t p root src) s.Rows.toNat)
noncomputable def vx3 (s:bD) (t:Setting) (p:List Int) (root:List UInt8) (G:List (List K)) (va vb vc:K) (src:Source):Source:=rsM (vg1 s t p root G src).2.2.2 [va,vb,vc]
noncomputable def vr (x:Source) (j:Nat):K:=toK ((drL x 3).getD j e0)
noncomputable def vg2 (s:bD) (t:Setting) (p:List Int) (root:List UInt8) (G W:List (List K)) (va vb vc:K) (src:Source):Int×List K×K×Source:=
 vfM 1 bv0 W 0 (vr (vx3 s t p root G va vb vc src) 0*va+(vr (vx3 s t p root G va vb vc src) 1*vb+vr (vx3 s t p root G va vb vc src) 2*vc)) (drS (vx3 s t p root G va vb vc src) 3)
noncomputable def a6i (s:bD) (p:List Int) (rx ry:List K) (r0 r1 r2 vw:K):K:=
 ja (btM s (eqK rx) r0 r1 r2) (eqK ry)*(a8z s p (ry.take (s.Cols.toNat-1))+ry.getD (s.Cols.toNat-1) 0*(vw-a8z s p (ry.take (s.Cols.toNat-1))))
theorem V9 (s:bD) (p:List Int) (rx ry:List K) (a b c vw:K):a6i s p rx ry a b c vw=ja (btM s (eqK rx) a b c) (eqK ry)*(a8z s p (ry.take (s.Cols.toNat-1))+ry.getD (s.Cols.toNat-1) 0*(vw-a8z s p (ry.take (s.Cols.toNat-1)))):=rfl
noncomputable def b6d (s:bD) (t:Setting) (p:List Int) (root:List UInt8) (G W:List (List K)) (va vb vc vw:K) (o:bJ) (src:Source):Int:=
 if (vg1 s t p root G src).1≠0 then (vg1 s t p root G src).1
 else if cmK 2 [eaK ((drL (vx1 s t p root src) s.Rows.toNat).map toK) (vg1 s t p root G src).2.1 1,va,vb,vc]≠(vg1 s t p root G src).2.2.1 then 11
 else if (vg2 s t p root G W va vb vc src).1≠0 then (vg2 s t p root G W va vb vc src).1
 else if a6i s p (vg1 s t p root G src).2.1 (vg2 s t p root G W va vb vc src).2.1 (vr (vx3 s t p root G va vb vc src) 0) (vr (vx3 s t p root G va vb vc src) 1) (vr (vx3 s t p root G va vb vc src) 2) vw≠(vg2 s t p root G W va vb vc src).2.2.1 then 11
 else chO (s.Cols.toNat-1) t.Rate.toNat t.Queries.toNat t.Grind.toNat root ((vg2 s t p root G W va vb vc src).2.1.take (s.Cols.toNat-1)) vw o (rsM (vg2 s t p root G W va vb vc src).2.2.2 [vw])
theorem b0Y {L:List Ext} (h:j6 L):kv (L.map toK)=L:=by
 rw [kv,fg]
 conv=>rhs;rw [<-jO L]
 exact bn fun x a=>tZ (h x a)
theorem c4C {x:Source} {k:Int} (h:Few x k) (d:k<=999890):drL x 3=kv [vr x 0,vr x 1,vr x 2]:=by
 have f:=MZ h d (n:=3) om
 obtain ⟨a,b,c,e⟩:=c5w f (xC x 3)
 rw [vr,vr,vr,e]
 show [a.1,b.1,c.1]=[(toK a.1).1,(toK b.1).1,(toK c.1).1]
 rw [tZ a.2,tZ b.2,tZ c.2]
end
section
structure a0s (s:bD) (t:Setting) (root:List UInt8) (G W:List (List K)) (o:bJ):Prop where
 rt:root.length=32
 gl:G.length=s.Rows.toNat
 g4: ∀g∈G,g.length=4
 wl:W.length=s.Cols.toNat
 w3: ∀g∈W,g.length=3
 op:OkO o (s.Cols.toNat-1) t
variable {s:bD} {t:Setting} {p:List Int} {src:Source} {root:List UInt8} {G W:List (List K)} {va vb vc vw:K} {o:bJ}
theorem a5C (h:JC s t p src):Few (vx1 s t p root src) 999802:=((h.fw.take _).take _).mono om
theorem a4T (h:JC s t p src):Few (drS (vx1 s t p root src) s.Rows.toNat) 999807:=by
 obtain ⟨a,_⟩:=fE h.sy
 exact (E7 (a5C h) om _ om).mono om
theorem a5U (h:JC s t p src) (q:a0s s t root G W o):Few (vg1 s t p root G src).2.2.2 999822:=by
 obtain ⟨a,_⟩:=fE h.sy
 have:=q.gl
 exact (XM (kind:=2) b4F G 0 0 _ _ (a4T h) om).mono om
theorem a4U (h:JC s t p src) (q:a0s s t root G W o):Few (vx3 s t p root G va vb vc src) 999823:=(Few.take (a5U h q) _).mono om
theorem a63 (h:JC s t p src) (q:a0s s t root G W o):Few (drS (vx3 s t p root G va vb vc src) 3) 999826:=(E7 (a4U h q) om 3 om).mono om
theorem b63 (h:JC s t p src) (q:a0s s t root G W o):Few (vg2 s t p root G W va vb vc src).2.2.2 999841:=by
 obtain ⟨_,hc,_⟩:=fE h.sy
 have:=q.wl
 exact (XM (kind:=1) b4F W 0 _ _ _ (a63 h q) om).mono om
theorem b6v (q:a0s s t root G W o) (z:(vg1 s t p root G src).1=0):(vg1 s t p root G src).2.1.length=s.Rows.toNat:=(Xh (kind:=2) (bv:=bv0) G 0 0 _ z).trans q.gl
theorem b9l (q:a0s s t root G W o) (z:(vg2 s t p root G W va vb vc src).1=0):(vg2 s t p root G W va vb vc src).2.1.length=s.Cols.toNat:=(Xh (kind:=1) (bv:=bv0) W 0 _ _ z).trans q.wl
theorem b1R (a b c x y z:K):ja [a,b,c] [x,y,z]=a*x+(b*y+c*z):=by simp only [ja];exact kg
theorem a0W (h:JC s t p src) (q:a0s s t root G W o):
 ∃src',md s t p ⟨root,kvv G,va.1,vb.1,vc.1,kvv W,vw.1,o⟩ src=some (b6d s t p root G W va vb vc vw o src,src'):=by
 obtain ⟨hr,hc,hpb,_⟩:=fE h.sy
 obtain ⟨_,hpub⟩:=PV h.sy
 have hpl:=h.pl
 have hpe:=h.pe
 have hst:=T7 s t p
 have hrt:=q.rt
 have f1:=a5C (root:=root) h
 have f2:=a4T (root:=root) h
 have f3:=a4U (va:=va) (vb:=vb) (vc:=vc) h q
 have f4:=a63 (va:=va) (vb:=vb) (vc:=vc) h q
 have f5:=b63 (va:=va) (vb:=vb) (vc:=vc) h q
 have ci:=lM h.se
 have eR:(s.Rows.toNat:Int)=s.Rows:=by omega
 have f:=wR f1 om (n:=s.Rows.toNat) om
 rw [eR] at f
 have i:cZ 2 (Ext.mk 0 0) (kvv G) (drS (vx1 s t p root src) s.Rows.toNat)=_:=He (kind:=2) (.inr rfl) (R:=G) (c:=0) f2 (by have:=q.gl;omega)
 rw [show vfM 2 bv0 G 0 0 (drS (vx1 s t p root src) s.Rows.toNat)=vg1 s t p root G src from rfl] at i
 unfold md
 dsimp only
 rw [Hb h,obs,mi h.fw.1.3 om,obs,aS om,mi (h.fw.take _).1.3 om,obs]
 rw [show tkM (tkM src (Nn s t p)) root=vx1 s t p root src from rfl,f,obs]
 dsimp only
 rw [i,obs]
 unfold b6d
 by_cases d:(vg1 s t p root G src).1=0
 ·have k:=b6v q d
  rw [aa d,a7 (mG d)]
  dsimp only
  have m:=MZ f1 om (n:=s.Rows.toNat) om
  have hea:Jy (drL (vx1 s t p root src) s.Rows.toNat) (kv (vg1 s t p root G src).2.1)=some (eaK ((drL (vx1 s t p root src) s.Rows.toNat).map toK) (vg1 s t p root G src).2.1 1).1:=by
   have:=a5n (A:=(drL (vx1 s t p root src) s.Rows.toNat).map toK) (B:=(vg1 s t p root G src).2.1) (by rw [aw,xC,k]) (by rw [aw,xC];omega)
   rwa [b0Y m] at this
  have hcm: ∀x:K,wA 2 [x.1,va.1,vb.1,vc.1]=some (cmK 2 [x,va,vb,vc]).1:=fun x=>Lw (kind:=2) (v:=[x,va,vb,vc]) (.inr rfl) rfl
  rw [m9 rfl,hea,obs,hcm,obs,Z0]
  by_cases z2:cmK 2 [eaK ((drL (vx1 s t p root src) s.Rows.toNat).map toK) (vg1 s t p root G src).2.1 1,va,vb,vc]=(vg1 s t p root G src).2.2.1
  ·have r:=wR f3 om (n:=3) om
   rw [show ((3:Nat):Int)=3 from rfl,c4C f3 om] at r
   have hab:bM [va.1,vb.1,vc.1] (vg1 s t p root G src).2.2.2=some (vx3 s t p root G va vb vc src):=Az (g:=[va,vb,vc]) (a5U h q).1 sm
   have u: ∀a b c:K,GF (kv [a,b,c]) [va.1,vb.1,vc.1]=some (a*va+(b*vb+c*vc)).1:=fun a b c=>by
    have:=KM (An [a,b,c]) (An [va,vb,vc]) (by simp [bB]) (by simp [bB])
    rw [Wc,b1R] at this
    exact this
   have w:cZ 1 (vr (vx3 s t p root G va vb vc src) 0*va+(vr (vx3 s t p root G va vb vc src) 1*vb+vr (vx3 s t p root G va vb vc src) 2*vc)).1 (kvv W) (drS (vx3 s t p root G va vb vc src) 3)=_:=He (kind:=1) (.inl rfl) (R:=W) f4 (by have:=q.wl;omega)
   rw [show vfM 1 bv0 W 0 (vr (vx3 s t p root G va vb vc src) 0*va+(vr (vx3 s t p root G va vb vc src) 1*vb+vr (vx3 s t p root G va vb vc src) 2*vc)) (drS (vx3 s t p root G va vb vc src) 3)=vg2 s t p root G W va vb vc src from rfl] at w
   rw [aa z2,a7 (mG z2),hab,obs,r,obs]
   dsimp only
   rw [u,obs,w,obs]
   by_cases e:(vg2 s t p root G W va vb vc src).1=0
   ·have hl2:=b9l q e
    have htk:((vg2 s t p root G W va vb vc src).2.1.take (s.Cols.toNat-1)).length=s.Cols.toNat-1:=by rw [aD];omega
    have hat:=uF (l:=(vg2 s t p root G W va vb vc src).2.1) (j:=s.Cols.toNat-1) om
    rw [show ((s.Cols.toNat-1:Nat):Int)=s.Cols-1 by omega] at hat
    rw [aa e,a7 (mG e)]
    dsimp only
    have hbt:=Fv h.sy (p:=(vg1 s t p root G src).2.1) (R:=eqK (vg1 s t p root G src).2.1) (x:=vr (vx3 s t p root G va vb vc src) 0) (y:=vr (vx3 s t p root G va vb vc src) 1) (z:=vr (vx3 s t p root G va vb vc src) 2) k (Gt _)
    have hbl:=PQ s (eqK (vg1 s t p root G src).2.1) (vr (vx3 s t p root G va vb vc src) 0) (vr (vx3 s t p root G va vb vc src) 1) (vr (vx3 s t p root G va vb vc src) 2)
    have hel:=EI (vg2 s t p root G W va vb vc src).2.1
    have hpw:=Cp s.Cols.toNat om
    rw [hl2] at hel
    have hdt:GF (kv (btM s (eqK (vg1 s t p root G src).2.1) (vr (vx3 s t p root G va vb vc src) 0) (vr (vx3 s t p root G va vb vc src) 1) (vr (vx3 s t p root G va vb vc src) 2))) (kv (eqK (vg2 s t p root G W va vb vc src).2.1))=some (ja (btM s (eqK (vg1 s t p root G src).2.1) (vr (vx3 s t p root G va vb vc src) 0) (vr (vx3 s t p root G va vb vc src) 1) (vr (vx3 s t p root G va vb vc src) 2)) (eqK (vg2 s t p root G W va vb vc src).2.1)).1:=by
     rw [KM (An _) (An _) (by rw [bB,bB];omega) (by rw [bB];omega),Wc]
    rw [m9 rfl,ai (s.Cols-1) om om,ke om om (by rw [bB];omega),obs,hat,obs,brd (by simp [bB])]
    rw [show YD (kv [vr (vx3 s t p root G va vb vc src) 0,vr (vx3 s t p root G va vb vc src) 1,vr (vx3 s t p root G va vb vc src) 2])=some ((vr (vx3 s t p root G va vb vc src) 0).1,(vr (vx3 s t p root G va vb vc src) 1).1,(vr (vx3 s t p root G va vb vc src) 2).1) from rfl,obs,hbt,obs,
     sr (An _) (by rw [bB];omega),obs,Gt,hdt,obs,show (Int.toNat 0)=0 from rfl,hJ,show (s.Cols-1).toNat-0=s.Cols.toNat-1 by omega,b6q,
     Ut h.sy om h.pf (An _) (by rw [bB];omega),obs, <-a03,WS,obs,gq (aI _) (aI _),obs, <-K.mul_val, <-V9,Z0]
    by_cases z4:a6i s p (vg1 s t p root G src).2.1 (vg2 s t p root G W va vb vc src).2.1 (vr (vx3 s t p root G va vb vc src) 0) (vr (vx3 s t p root G va vb vc src) 1) (vr (vx3 s t p root G va vb vc src) 2) vw=(vg2 s t p root G W va vb vc src).2.2.1
    ·obtain ⟨src',hck,_⟩:=a2R (s:=rsM (vg2 s t p root G W va vb vc src).2.2.2 [vw]) (root:=root) (cl:=vw) (P:=(vg2 s t p root G W va vb vc src).2.1.take (s.Cols.toNat-1)) (nq:=t.Queries.toNat) (ρ:=t.Rate.toNat) (bits:=t.Grind.toNat) q.op htk om om om ((Few.take f5 _).mono om:Few (rsM (vg2 s t p root G W va vb vc src).2.2.2 [vw]) 999842) om
     have hab2:bM [vw.1] (vg2 s t p root G W va vb vc src).2.2.2=some (rsM (vg2 s t p root G W va vb vc src).2.2.2 [vw]):=Az (g:=[vw]) f5.1 sm
     rw [aa z4,a7 (mG z4),hab2,obs,hck,obs]
     exact ⟨_,rfl⟩
    ·rw [a7 z4,aa z4]
     exact ⟨_,rfl⟩
   ·rw [a7 e,aa e]
    dsimp only
    rw [brb e]
    exact ⟨_,rfl⟩
  ·rw [a7 z2,aa z2]
   exact ⟨_,rfl⟩
 ·rw [a7 d,aa d]
  dsimp only
  rw [brb d]
  exact ⟨_,rfl⟩
end
section
def Dt (op:Int):Int:=if 4<=op/\op<=7 then 2 else if op=8 then 1 else 0
theorem VD (op:Int):je op=some (Dt op):=by
 unfold je Dt
 rw [c6m,obs]
 by_cases a:4<=op/\op<=7
 ·rw [aj a,aa a];rfl
 ·rw [ae a,a7 a,bu]
  by_cases b:op=8
  ·rw [bre b,aa b]
  ·rw [cm b,a7 b]
def cu (l:List aC) (op:Int):Nat:=l.countP fun g=>g.Op==op
theorem j9 (l:List aC) (x:aC) (op:Int):cu (l++[x]) op=cu l op+(if (x.Op==op)=true then 1 else 0):=by
 simp only [cu,List.countP_append,List.countP_singleton]
theorem iW (l:List aC) (op:Int):cu l op<=l.length:=sH
theorem b3I (b:Bool):Kr b=some (if b=true then 1 else 0):=by cases b<;>rfl
theorem JM {c:Circuit} {op:Int} (h:c.Gates.length<=1048576):mO c op=some (cu c.Gates op:Int):=by
 unfold mO
 have key:=bq (step:=o1 op c.Gates) (fun j=>((cu (c.Gates.take j) op:Int),(j:Int))) c.Gates.length (e:=((cu c.Gates op:Int),(c.Gates.length:Int),false)) (fun j b=> ?_) ?_
 ·rw [show ((0:Int),(0:Int))=((cu (c.Gates.take 0) op:Int),((0:Nat):Int)) from rfl,key];rfl
 ·have a:=iW (c.Gates.take j) op
  rw [aD] at a
  simp only [o1]
  rw [brd om,cJ b,obs,b3I,obs,cB b,j9]
  cases d:(c.Gates[j].Op==op)
  ·rw [a7 sm,a7 sm,ai _ om om,ai _ om om];simp
  ·rw [aa rfl,aa rfl,ai _ om om,ai _ om om];simp
 ·simp only [o1]
  rw [brn om,ae om,bw]
def sB (g:aC) (k:Int):Bool:=
 decide (1<=g.Op/\g.Op<=8)&&(br (decide (Dt g.Op>0)) (decide (0<=g.A/\g.A<=k-1)) (g.A==0)&&(br (decide (Dt g.Op>1)) (decide (0<=g.B/\g.B<=k-1)) (g.B==0)&&br (g.Op==3) (Ey g.K) (g.K==0)))
def Hj (l:List aC):Bool:=decide (1<=l.length/\l.length<=15)&&((List.range l.length).all (fun k=>((l[k]?.map fun g=>sB g (k:Int)).getD false))&&decide ((cu l 2:Int)<=7))
structure OkC (l:List aC):Prop where
 n1:1<=l.length
 n2:l.length<=15
 g: ∀(k:Nat) (h:k<l.length),sB l[k] (k:Int)=true
 p:cu l 2<=7
theorem a0d {l:List aC} (h:Hj l=true):OkC l:=by
 simp only [Hj,aB,aA,an,bS] at h
 obtain ⟨⟨b,c⟩,d,e⟩:=h
 exact ⟨b,c,fun k a=>by simpa [a] using d k a,by omega⟩
def gvM (P I out:List Int) (p i:Nat) (g:aC):Int:=
 if g.Op=1 then I.getD i 0 else if g.Op=2 then P.getD p 0 else if g.Op=3 then g.K else if g.Op=4 then aF (out.getD g.A.toNat 0) (out.getD g.B.toNat 0)
 else if g.Op=5 then sF (out.getD g.A.toNat 0) (out.getD g.B.toNat 0) else if g.Op=6 then mF (out.getD g.A.toNat 0) (out.getD g.B.toNat 0) else out.getD g.A.toNat 0
def rnM (P I:List Int) (l:List aC):Nat->List Int
 |0=>[]
 |j+1=>rnM P I l j++[gvM P I (rnM P I l j) (cu (l.take j) 2) (cu (l.take j) 1) (l.getD j ⟨0,0,0,0⟩)]
theorem rL (P I:List Int) (l:List aC): ∀j,(rnM P I l j).length=j
 |0=>rfl
 |j+1=>by rw [rnM,a8,rL P I l j];rfl
theorem xD {g:aC} {k:Int} (h:sB g k=true):(1<=g.Op/\g.Op<=8)/\(4<=g.Op->0<=g.A/\g.A<=k-1)/\(4<=g.Op->g.Op<=7->0<=g.B/\g.B<=k-1)/\(g.Op=3->okF g.K):=by
 simp only [sB,aB,aA] at h
 obtain ⟨d,a,b,c⟩:=h
 refine ⟨d,fun h=> ?_,fun h e=> ?_,fun h=> ?_⟩
 ·rw [brd (by
   unfold Dt
   split
   ·omega
   ·split<;>omega)] at a
  exact gz a
 ·rw [brd (by unfold Dt;rw [aa ⟨h,e⟩];omega)] at b
  exact gz b
 ·rw [bre h] at c
  exact H4.1 c
theorem mK {l:List aC} {j:Nat} {op:Int} (a:j<l.length) (h:l[j].Op=op):cu (l.take j) op<cu l op:=by
 have b:cu (l.take (j+1)) op<=cu l op:=List.Sublist.countP_le (List.take_sublist _ _)
 rw [cB a,j9,aa (by simp [h])] at b
 omega
theorem Da {l:List Int} {k:Nat} (h:k<l.length):atL l (k:Int)=some (l.getD k 0):=by rw [cJ h];simp [h]
theorem lR {l:List Int} {k:Nat} (h:k<l.length):l[k]? =some (l.getD k 0):=by simp [h]
theorem ky {l:List Int} (h:hK l) {k:Nat} (a:k<l.length):okF (l.getD k 0):=by
 have:l.getD k 0=l[k]:=by simp [a]
 rw [this];exact h _ (b9 a)
theorem c2M {P I o:List Int} {p i:Nat} {g:aC} (d:hK P) (e:hK I) (f:hK o) (j:sB g (o.length:Int)=true) (k:g.Op=2->p<P.length) (hi:g.Op=1->i<I.length):okF (gvM P I o p i g):=by
 obtain ⟨n,l,c,m⟩:=xD j
 unfold gvM
 split
 ·rename_i h;exact ky e (hi h)
 split
 ·rename_i h;exact ky d (k h)
 split
 ·rename_i h;exact m h
 have a:=l om
 split
 ·have b:=c om om;exact a0K _ _
 split
 ·have b:=c om om;exact b4M _ _
 split
 ·exact w7 _ _
 ·exact ky f om
theorem JA {P I:List Int} {l:List aC} (ok:OkC l) (c:hK P) (d:hK I) (lP:P.length=cu l 2) (lI:I.length=cu l 1): ∀j,j<=l.length->hK (rnM P I l j)
 |0,_=>fun x a=>by cases a
 |j+1,h=>by
  have ih:=JA ok c d lP lI j om
  have b:j<l.length:=by omega
  have e:l.getD j ⟨0,0,0,0⟩=l[j]:=by simp [b]
  intro x a
  rw [rnM,e,aJ,bI] at a
  rcases a with a|rfl
  ·exact ih x a
  ·exact c2M c d ih (by rw [rL];exact ok.g j b) (fun h=>by rw [lP];exact mK b h) (fun h=>by rw [lI];exact mK b h)
theorem Zd {c:Circuit} {P I:List Int} (ok:OkC c.Gates) (p:hK P) (q:hK I) (lP:P.length=cu c.Gates 2) (lI:I.length=cu c.Gates 1):GI c P I=some (rnM P I c.Gates c.Gates.length):=by
 have hn:=ok.n2
 unfold GI
 have key:=bq (step:=rZ P I c.Gates) (fun j=>(rnM P I c.Gates j,(cu (c.Gates.take j) 2:Int),(cu (c.Gates.take j) 1:Int),(j:Int))) c.Gates.length (e:=(rnM P I c.Gates c.Gates.length,(cu c.Gates 2:Int),(cu c.Gates 1:Int),(c.Gates.length:Int),false)) (fun j i=> ?_) ?_
 ·have:((rnM P I c.Gates 0,(cu (c.Gates.take 0) 2:Int),(cu (c.Gates.take 0) 1:Int),((0:Nat):Int)):List Int×Int×Int×Int)=([],0,0,0):=rfl
  rw [<-this,key];rfl
 ·have r:c.Gates.getD j ⟨0,0,0,0⟩=c.Gates[j]:=by simp [i]
  obtain ⟨u,k,l,w⟩:=xD (ok.g j i)
  have l2:=iW (c.Gates.take j) 2
  have s:=iW (c.Gates.take j) 1
  rw [aD] at s l2
  have f:=JA ok p q lP lI j om
  have m:=rL P I c.Gates j
  have t2:=mK (op:=2) i
  have t:=mK (op:=1) i
  simp only [rZ]
  rw [brd om,cJ i,obs,cB i,j9,j9,rnM,r]
  generalize c.Gates[j]=g at*
  generalize rnM P I c.Gates j=o at*
  have d: ∀v:Int,(o++[v]).length*8<=1099511627776:=fun v=>by rw [a8,m];simp;omega
  have n:g.Op=1\/g.Op=2\/g.Op=3\/g.Op=4\/g.Op=5\/g.Op=6\/7<=g.Op:=by omega
  rcases n with h|h|h|h|h|h|h
  ·rw [bre h,Da (by have:=t h;omega),obs,aS (d _),ai _ om om,ai _ om om]
   simp [gvM,h]
  ·rw [cm om,bre h,Da (by have:=t2 h;omega),obs,aS (d _),ai _ om om,ai _ om om]
   simp [gvM,h]
  ·rw [cm om,cm om,bre h,aS (d _),ai _ om om]
   simp [gvM,h]
  ·have a:=k om
   have b:=l om om
   rw [cm om,cm om,cm om,bre h,brd a.1,brd om,lR om,obs,brd b.1,brd om,lR om,obs,b0I (ky f om) (ky f om),obs,aS (d _),ai _ om om]
   simp [gvM,h]
  ·have a:=k om
   have b:=l om om
   rw [cm om,cm om,cm om,cm om,bre h,brd a.1,brd om,lR om,obs,brd b.1,brd om,lR om,obs,a9R (ky f om) (ky f om),obs,aS (d _),ai _ om om]
   simp [gvM,h]
  ·have a:=k om
   have b:=l om om
   rw [cm om,cm om,cm om,cm om,cm om,bre h,brd a.1,brd om,lR om,obs,brd b.1,brd om,lR om,obs,b4t (ky f om) (ky f om),obs,aS (d _),ai _ om om]
   simp [gvM,h]
  ·have a:=k om
   rw [cm om,cm om,cm om,cm om,cm om,cm om,brd a.1,brd om,lR om,obs,aS (d _),ai _ om om]
   have e1:(g.Op==1)=false:=by simp;omega
   have e2:(g.Op==2)=false:=by simp;omega
   rw [e1,e2,gvM,a7 om,a7 om,a7 om,a7 om,a7 om,a7 om]
   simp
 ·simp only [rZ]
  rw [brn om,ae om,bw]
def ll (v:List Int) (g:aC):Bool:=br (g.Op==7) (v.getD g.A.toNat 0==v.getD g.B.toNat 0) true&&br (g.Op==8) (decide (v.getD g.A.toNat 0<=1)) true
theorem Yr {l:List Int} {i:Int} (h0:0<=i) (a:i.toNat<l.length):atL l i=some (l.getD i.toNat 0):=by
 have:i=(i.toNat:Int):=by omega
 conv=>lhs;rw [this]
 exact Da a
theorem WX {c:Circuit} {v:List Int} (ok:OkC c.Gates) (u:v.length=c.Gates.length):Dh c v=some (c.Gates.all (ll v)):=by
 have hn:=ok.n2
 unfold Dh
 have stp: ∀k (d:k<c.Gates.length),ji v c.Gates (k:Int)=if ll v c.Gates[k]=true then some (.inl ((k+1:Nat):Int)) else some (.inr (.inl (c.Gates[k].Op,c.Gates[k].A,c.Gates[k].B,c.Gates[k].K))):=fun k d=>by
  obtain ⟨w,p,q,y⟩:=xD (ok.g k d)
  simp only [ji]
  rw [brd om,cJ d,obs]
  generalize c.Gates[k]=g at*
  have e:IntKind.wrap .i64 ((k:Int)+1)=((k+1:Nat):Int):=by rw [ai _ om om];omega
  by_cases f:g.Op=7
  ·have a:=p om
   have b:=q om om
   rw [bre f,Yr a.1 om,obs,Yr b.1 om,obs,cm (by omega:g.Op≠8),ll,bre f,cm (by omega:g.Op≠8),dO,e]
   by_cases h:v.getD g.A.toNat 0=v.getD g.B.toNat 0
   ·rw [m9 h,aa (by simpa using h)]
   ·rw [brb h,a7 (by simpa using h)]
  ·rw [cm f,ll,cm f,bk]
   by_cases i:g.Op=8
   ·have a:=p om
    rw [bre i,bre i,Yr a.1 om,obs,e]
    by_cases h:v.getD g.A.toNat 0>1
    ·rw [brd h,ae om,a7 sm]
    ·rw [brn h,aj om,aa rfl]
   ·rw [cm i,cm i,aa rfl,e]
 have key:=AN (step:=ji v c.Gates) (fun k=>(k:Int)) c.Gates.length (fun k=>((c.Gates[k]?.map (ll v)).getD false)) (fun k=> .inl ((c.Gates.getD k ⟨0,0,0,0⟩).Op,(c.Gates.getD k ⟨0,0,0,0⟩).A,(c.Gates.getD k ⟨0,0,0,0⟩).B,(c.Gates.getD k ⟨0,0,0,0⟩).K)) (e:= .inr ((c.Gates.length:Int),false)) (fun k d j=>by
  have l:ll v c.Gates[k]=true:=by simpa [d] using j
  rw [stp k d,aa l])
  (fun k d j=>by
   have l:ll v c.Gates[k]=false:=by simpa [d] using j
   have r:c.Gates.getD k ⟨0,0,0,0⟩=c.Gates[k]:=by simp [d]
   rw [stp k d,a7 (by rw [l];simp),r])
  (by simp only [ji];rw [brn om,ae om])
 rcases key with ⟨m,n⟩|⟨k,d,m,_,n⟩
 ·have e:Loop (ji v c.Gates) 0=some (.inr ((c.Gates.length:Int),false)):=n
  have o:c.Gates.all (ll v)=true:=an.2 fun x s=>by
   obtain ⟨k,d,rfl⟩:=bp s
   simpa [d] using m k d
  rw [e,o,obs,vK]
 ·have o:c.Gates.all (ll v)=false:=wg.2 ⟨c.Gates[k],b9 d,by simpa [d] using m⟩
  have t:Loop (ji v c.Gates) 0=_:=n
  rw [t,o,obs,rX]
def prM (v:List Int) (l:List aC):Nat->List Int
 |0=>[]
 |j+1=>prM v l j++(if (l.getD j ⟨0,0,0,0⟩).Op=2 then [] else [v.getD j 0])
theorem Hw (v:List Int) (l:List aC): ∀j,j<=l.length->(prM v l j).length+cu (l.take j) 2=j
 |0,_=>rfl
 |j+1,h=>by
  have b:j<l.length:=by omega
  have ih:=Hw v l j om
  have c:l.getD j ⟨0,0,0,0⟩=l[j]:=by simp [b]
  rw [prM,cB b,j9,a8,c]
  by_cases a:l[j].Op=2
  ·rw [aa a,aa (by simp [a])];simp;omega
  ·rw [a7 a,a7 (by simp [a])];simp;omega
theorem W8 {v:List Int} {l:List aC} (b:hK v) (c:v.length=l.length): ∀j,j<=l.length->hK (prM v l j)
 |0,_=>fun x a=>by cases a
 |j+1,h=>by
  have ih:=W8 b c j om
  intro x a
  rw [prM,aJ] at a
  rcases a with a|a
  ·exact ih x a
  ·split at a
   ·cases a
   ·rw [bI] at a;subst a;exact ky b om
end
section
def lgM (m:Int):Nat:=if m<=2 then 2 else if m<=4 then 3 else if m<=8 then 4 else 5
def lgC (l:List aC):Nat:=lgM (mx ((cu l 2:Int)+1) ((l.length:Int)-(cu l 2:Int)))
theorem c3c (m:Int):2<=lgM m/\lgM m<=5:=by
 unfold lgM
 split
 ·omega
 ·split
  ·omega
  ·split<;>omega
theorem b98 {m:Int} (h:m<=15):m<=((2^(lgM m-1):Nat):Int):=by
 unfold lgM
 split
 ·simpa
 ·split
  ·simpa
  ·split
   ·simpa
   ·simp;omega
def Ej (l:List aC) (j:Nat):Int:=if (l.getD j ⟨0,0,0,0⟩).Op=2 then (cu (l.take j) 2:Int)+1 else ((2^(lgC l-1):Nat):Int)+((j:Int)-(cu (l.take j) 2:Int))
def jS (l:List aC) (n:Nat):List Int:=(List.range n).map (Ej l)
theorem UX (l:List aC) (n:Nat):(jS l n).length=n:=by simp [jS]
theorem a2M (l:List aC) (n:Nat):jS l (n+1)=jS l n++[Ej l n]:=by simp [jS,ed]
end
section
def enP (row col:Int) (e:aN):Bool:=decide (e.Row=row)&&decide (e.Col>col)
def enR (row col v:Int):List aN->List aN
 |[]=>[⟨row,col,v⟩]
 |e::R=>if enP row col e=true then e::enR row col v R
  else if e.Row=row/\e.Col=col then (if aF e.Value v=0 then R else ⟨row,col,aF e.Value v⟩::R)
  else ⟨row,col,v⟩::e::R
def enM (L:List aN) (row col v:Int):List aN:=(enR row col v L.reverse).reverse
theorem a6f {row col v:Int} {R:List aN}: ∀{T:List aN},(∀e∈T,enP row col e=true)->enR row col v (T++R)=T++enR row col v R
 |[],_=>rfl
 |e::T,h=>by
  rw [i5,enR,aa (h e sm),a6f fun x hx=>h x (by simp [hx])];rfl
theorem b0C (row col:Int) (L:List aN): ∃A T,L=A++T/\(∀e∈T,enP row col e=true)/\(A=[]\/ ∃B e,A=B++[e]/\enP row col e=false):=by
 refine ⟨(L.reverse.dropWhile (enP row col)).reverse,(L.reverse.takeWhile (enP row col)).reverse, ?_, ?_, ?_⟩
 ·rw [<-jK,List.takeWhile_append_dropWhile,List.reverse_reverse]
 ·intro e a
  rw [List.mem_reverse] at a
  have: ∀(l:List aN), ∀e∈l.takeWhile (enP row col),enP row col e=true:=by
   intro l
   induction l with
   |nil=>intro e a;cases a
   |cons x l ih=>
    intro e a
    rw [List.takeWhile_cons] at a
    split at a
    ·rename_i b
     rcases aW.1 a with rfl|a
     ·exact b
     ·exact ih e a
    ·cases a
  exact this _ e a
 ·have: ∀(l:List aN),l.dropWhile (enP row col)=[]\/ ∃x r,l.dropWhile (enP row col)=x::r/\enP row col x=false:=by
   intro l
   induction l with
   |nil=>exact .inl rfl
   |cons x l ih=>
    rw [List.dropWhile_cons]
    split
    ·exact ih
    ·rename_i b;exact .inr ⟨x,l,rfl,by simpa using b⟩
  rcases this L.reverse with h|⟨x,r,h,b⟩
  ·exact .inl (by rw [h];rfl)
  ·exact .inr ⟨r.reverse,x,by rw [h,List.reverse_cons],b⟩
theorem Vp {row col v:Int} {A T:List aN} (h: ∀e∈T,enP row col e=true):enM (A++T) row col v=enM A row col v++T:=by
 unfold enM
 rw [jK,a6f (fun e a=>h e (by simpa using a)),jK,List.reverse_reverse]
end
section
def muS (z T:List Int) (e:aN):List Int:=T.set e.Row.toNat (aF (T.getD e.Row.toNat 0) (mF e.Value (z.getD e.Col.toNat 0)))
theorem WW (z:List Int): ∀(l:List aN) (T:List Int),(l.foldl (muS z) T).length=T.length
 |[],_=>rfl
 |e::l,T=>by rw [bP,WW z l,muS,aO]
theorem c1D {z T:List Int} {e:aN} (h:hK T):hK (muS z T e):=by
 intro x a
 unfold muS at a
 rcases dB a with a|rfl
 ·exact h x a
 ·exact a0K _ _
theorem a3h (z:List Int): ∀(l:List aN) (T:List Int),hK T->hK (l.foldl (muS z) T)
 |[],_,h=>h
 |e::l,T,h=>by rw [bP];exact a3h z l _ (c1D h)
def muM (l:List aN) (n:Nat) (z:List Int):List Int:=l.foldl (muS z) (List.replicate (2^n) 0)
theorem Lt (l:List aN) (n:Nat) (z:List Int):(muM l n z).length=2^n:=by rw [muM,WW,aL]
theorem c1x (l:List aN) (n:Nat) (z:List Int):hK (muM l n z):=a3h z l _ (by
 intro x a
 rw [List.eq_of_mem_replicate a]
 exact ⟨by omega,by omega⟩)
end
section
structure MkR (l:List aN) (row C:Int):Prop where
 ent: ∀x∈l,0<=x.Row/\x.Row<=row/\0<=x.Col/\x.Col<=C-1/\1<=x.Value/\x.Value<=2130706432
 srt:l.Pairwise ltE
theorem MkR.nil (row C:Int):MkR [] row C:=⟨fun x a=>(by cases a),List.Pairwise.nil⟩
theorem MkR.up {l:List aN} {row C r:Int} (h:MkR l row C) (e:row<=r):MkR l r C:=
 ⟨fun x d=>by obtain ⟨a,b,c⟩:=h.ent x d;exact ⟨a,by omega,c⟩,h.srt⟩
theorem X9 {A T:List aN} {n:aN} {row C:Int} (h:MkR (A++T) row C) (hn:n.Row=row) (h0:0<=row) (hc:0<=n.Col/\n.Col<=C-1) (e:1<=n.Value/\n.Value<=2130706432) (i: ∀a∈A,ltE a n) (j: ∀b∈T,ltE n b):MkR (A++[n]++T) row C:=by
 obtain ⟨k,p2,p3⟩:=gL.1 h.srt
 refine ⟨fun x c=> ?_, ?_⟩
 ·simp only [aJ,bI] at c
  rcases c with (c|rfl)|c
  ·exact h.ent x (by simp [c])
  ·exact ⟨by omega,by omega,hc.1,hc.2,e.1,e.2⟩
  ·exact h.ent x (by simp [c])
 ·rw [aP,gL]
  refine ⟨k, ?_,fun a f b d=> ?_⟩
  ·rw [b8,iA];exact ⟨j,p2⟩
  ·rw [b8,aW] at d
   rcases d with rfl|d
   ·exact i a f
   ·exact p3 a f b d
theorem MkR.sub {l l':List aN} {row C:Int} (h:MkR l row C) (a:List.Sublist l' l):MkR l' row C:=
 ⟨fun x b=>h.ent x (a.subset b),h.srt.sublist a⟩
theorem qW {l:List aN} {row col v C:Int} (h:MkR l row C) (h0:0<=row) (hc:0<=col/\col<=C-1) (j:1<=v/\v<=2130706432):MkR (enM l row col v) row C/\(enM l row col v).length<=l.length+1:=by
 obtain ⟨A,T,rfl,k,q⟩:=b0C row col l
 have d: ∀b∈T,b.Row=row/\b.Col>col:=fun b e=>by simpa [enP] using k b e
 rw [Vp k]
 rcases q with rfl|⟨B,x,rfl,m⟩
 ·refine ⟨X9 (A:=[]) (n:=⟨row,col,v⟩) h rfl h0 hc j (fun a c=>by cases c) (fun b e=> ?_),by simp [enM,enR]⟩
  have:=d b e
  unfold ltE;dsimp only;omega
 ·have r:enM (B++[x]) row col v=if x.Row=row/\x.Col=col then (if aF x.Value v=0 then B else B++[⟨row,col,aF x.Value v⟩]) else B++[x]++[⟨row,col,v⟩]:=by
   unfold enM
   rw [jK,List.reverse_singleton,b8,enR,a7 (by rw [m];simp)]
   split
   ·split<;>simp
   ·simp
  have s:=h.ent x sm
  obtain ⟨t,p2,p3⟩:=gL.1 h.srt
  obtain ⟨q1,q2,q3⟩:=gL.1 t
  have f: ∀a∈B,ltE a x:=fun a c=>q3 a c x sm
  rw [r]
  split
  ·rename_i u
   have o:MkR (B++T) row C:=h.sub sm
   split
   ·exact ⟨o,by simp;omega⟩
   ·rename_i w
    have p:=a0K x.Value v
    refine ⟨X9 o rfl h0 hc ⟨(by have:=p.1;show 1<=aF x.Value v;omega),p.2⟩ (fun a c=> ?_) (fun b e=> ?_),by simp⟩
    ·have:=f a c
     unfold ltE at*;dsimp only;omega
    ·have:=d b e
     unfold ltE;dsimp only;omega
  ·rename_i u
   have i:ltE x ⟨row,col,v⟩:=by
    simp only [enP,m8,cg] at m
    unfold ltE;dsimp only;omega
   refine ⟨X9 h rfl h0 hc j (fun a c=> ?_) (fun b e=> ?_),by simp;omega⟩
   ·rcases aJ.1 c with c|c
    ·exact UZ (f a c) i
    ·rw [bI] at c;subst c;exact i
   ·have:=d b e
    unfold ltE;dsimp only;omega
end
section
def syM (a b c:Int) (g:aC) (r:Int) (A B C:List aN):Int×List aN×List aN×List aN:=
 if g.Op=1\/g.Op=2 then (r,A,B,C)
 else if g.Op=6 then (r+1,enM A r a 1,enM B r b 1,enM C r c 1)
 else if g.Op=4 then (r+1,enM (enM A r a 1) r b 1,enM B r 0 1,enM C r c 1)
 else if g.Op=5 then (r+1,enM (enM A r a 1) r b 2130706432,enM B r 0 1,enM C r c 1)
 else if g.Op=3 then (r+1,if g.K>0 then enM A r 0 g.K else A,enM B r 0 1,enM C r c 1)
 else if g.Op=7 then (r+1+1,enM (enM A r b 1) (r+1) a 1,enM (enM B r 0 1) (r+1) 0 1,enM (enM C r c 1) (r+1) c 1)
 else (r+1+1,enM (enM A r a 1) (r+1) a 1,enM (enM B r a 1) (r+1) 0 1,enM (enM C r c 1) (r+1) c 1)
end
section
structure Mk3 (r:Int) (A B C:List aN) (CC:Int) (n:Nat):Prop where
 a:MkR A (r-1) CC
 b:MkR B (r-1) CC
 c:MkR C (r-1) CC
 la:A.length<=n
 lb:B.length<=n
 lc:C.length<=n
theorem Mk3.of {r' r:Int} {A B C:List aN} {CC:Int} {n m:Nat} (e:r'-1=r) (a:MkR A r CC) (b:MkR B r CC) (c:MkR C r CC) (la:A.length<=n) (lb:B.length<=n) (lc:C.length<=n) (h:n<=m):Mk3 r' A B C CC m:=by
 subst e;exact ⟨a,b,c,by omega,by omega,by omega⟩
theorem c4F {a b c r CC:Int} {g:aC} {A B C:List aN} {n:Nat} (d:0<=r) (u:1<=CC) (e:4<=g.Op->0<=a/\a<=CC-1) (f:4<=g.Op->g.Op<=7->0<=b/\b<=CC-1) (hc:0<=c/\c<=CC-1) (s:g.Op=3->okF g.K)
 (t:1<=g.Op/\g.Op<=8) (m:Mk3 r A B C CC n):
 Mk3 (syM a b c g r A B C).1 (syM a b c g r A B C).2.1 (syM a b c g r A B C).2.2.1 (syM a b c g r A B C).2.2.2 CC (n+2)/\r<=(syM a b c g r A B C).1/\(syM a b c g r A B C).1<=r+2:=by
 have one:(1:Int)<=1/\(1:Int)<=2130706432:=⟨by omega,by omega⟩
 have big:(1:Int)<=2130706432/\(2130706432:Int)<=2130706432:=⟨by omega,by omega⟩
 have h:(0:Int)<=0/\(0:Int)<=CC-1:=⟨by omega,by omega⟩
 have mA:=m.a.up (r:=r) om
 have mB:=m.b.up (r:=r) om
 have mC:=m.c.up (r:=r) om
 have la:=m.la
 have lb:=m.lb
 have lc:=m.lc
 have nB:=qW mB d h one
 have nC:=qW mC d hc one
 have nB2:=qW (nB.1.up (r:=r+1) om) om h one
 have nC2:=qW (nC.1.up (r:=r+1) om) om hc one
 unfold syM
 by_cases j:g.Op=1\/g.Op=2
 ·rw [aa j];exact ⟨⟨m.a,m.b,m.c,by dsimp only;omega,by dsimp only;omega,by dsimp only;omega⟩,by dsimp only;omega,by dsimp only;omega⟩
 rw [a7 j]
 by_cases k:g.Op=6
 ·have nA:=qW mA d (e om) one
  have nb:=qW mB d (f om om) one
  rw [aa k];exact ⟨Mk3.of (n:=n+1) dmo nA.1 nb.1 nC.1 dmo dmo dmo om,by dsimp only;omega,by dsimp only;omega⟩
 rw [a7 k]
 by_cases l:g.Op=4
 ·have nA:=qW mA d (e om) one
  have nA2:=qW nA.1 d (f om om) one
  rw [aa l];exact ⟨Mk3.of (n:=n+2) dmo nA2.1 nB.1 nC.1 dmo dmo dmo om,by dsimp only;omega,by dsimp only;omega⟩
 rw [a7 l]
 by_cases o:g.Op=5
 ·have nA:=qW mA d (e om) one
  have nA2:=qW nA.1 d (f om om) big
  rw [aa o];exact ⟨Mk3.of (n:=n+2) dmo nA2.1 nB.1 nC.1 dmo dmo dmo om,by dsimp only;omega,by dsimp only;omega⟩
 rw [a7 o]
 by_cases i:g.Op=3
 ·rw [aa i]
  by_cases p:g.K>0
  ·have nA:=qW mA d h (v:=g.K) ⟨by omega,(s i).2⟩
   rw [aa p];exact ⟨Mk3.of (n:=n+1) dmo nA.1 nB.1 nC.1 dmo dmo dmo om,by dsimp only;omega,by dsimp only;omega⟩
  ·rw [a7 p];exact ⟨Mk3.of (n:=n+1) dmo mA nB.1 nC.1 dmo dmo dmo om,by dsimp only;omega,by dsimp only;omega⟩
 rw [a7 i]
 by_cases q:g.Op=7
 ·have nA:=qW mA d (f om om) one
  have nA2:=qW (nA.1.up (r:=r+1) om) om (e om) one
  rw [aa q];exact ⟨Mk3.of (n:=n+2) dmo nA2.1 nB2.1 nC2.1 dmo dmo dmo om,by dsimp only;omega,by dsimp only;omega⟩
 ·have nA:=qW mA d (e om) one
  have nA2:=qW (nA.1.up (r:=r+1) om) om (e om) one
  have nb:=qW mB d (e om) one
  have nb2:=qW (nb.1.up (r:=r+1) om) om h one
  rw [a7 q];exact ⟨Mk3.of (n:=n+2) dmo nA2.1 nb2.1 nC2.1 dmo dmo dmo om,by dsimp only;omega,by dsimp only;omega⟩
end
section
theorem Nh (l:List aC) (k:Nat) (op:Int):cu l op<=cu (l.take k) op+(l.length-k):=by
 have h:cu l op=cu (l.take k) op+(l.drop k).countP (fun g=>g.Op==op):=by
  conv=>lhs;rw [<-iX k l]
  simp only [cu,List.countP_append]
 have:=sH (p:=fun g:aC=>g.Op==op) (l:=l.drop k)
 rw [bQ] at this
 omega
theorem NZ (l:List aC):2<=lgC l/\lgC l<=5:=c3c _
theorem Qi {n:Nat} (h:1<=n):((2^n:Nat):Int)=((2^(n-1):Nat):Int)+((2^(n-1):Nat):Int):=by
 obtain ⟨m,rfl⟩: ∃m,n=m+1:=⟨n-1,by omega⟩
 rw [cX,aZ];omega
theorem c2O {a b c:Int} (h:mx a b<=c):a<=c/\b<=c:=by
 unfold mx at h
 split at h<;>constructor<;>omega
theorem a3X {l:List aC} (ok:OkC l):(cu l 2:Int)+1<=((2^(lgC l-1):Nat):Int)/\(l.length:Int)-(cu l 2:Int)<=((2^(lgC l-1):Nat):Int):=by
 have b:=ok.n2
 have c:=ok.p
 have d:=iW l 2
 have a:mx ((cu l 2:Int)+1) ((l.length:Int)-(cu l 2:Int))<=15:=by unfold mx;split<;>omega
 exact c2O (b98 a)
theorem a6a {l:List aC} (ok:OkC l) {j:Nat} (a:j<l.length):0<=Ej l j/\Ej l j<=((2^lgC l:Nat):Int)-1:=by
 have c:=a3X ok
 have d:=NZ l
 have e:=Qi (n:=lgC l) om
 have f:cu (l.take j) 2<=j:=by have:=iW (l.take j) 2;rw [aD] at this;omega
 unfold Ej
 rw [show l.getD j ⟨0,0,0,0⟩=l[j] by simp [a]]
 split
 ·rename_i h
  have:=mK a h
  omega
 ·rename_i h
  have b:=Nh l (j+1) 2
  rw [cB a,j9,a7 (by simpa using h)] at b
  omega
theorem Dm {l:List aC} {n i:Nat} (hi:i<n):(jS l n).getD i 0=Ej l i:=by
 simp [jS,hi]
def fdM (l:List aC):Nat->Int×List aN×List aN×List aN
 |0=>(0,[],[],[])
 |j+1=>syM ((jS l l.length).getD (l.getD j ⟨0,0,0,0⟩).A.toNat 0) ((jS l l.length).getD (l.getD j ⟨0,0,0,0⟩).B.toNat 0) ((jS l l.length).getD j 0) (l.getD j ⟨0,0,0,0⟩) (fdM l j).1 (fdM l j).2.1 (fdM l j).2.2.1 (fdM l j).2.2.2
theorem NU {l:List aC} (ok:OkC l): ∀j,j<=l.length->Mk3 (fdM l j).1 (fdM l j).2.1 (fdM l j).2.2.1 (fdM l j).2.2.2 ((2^lgC l:Nat):Int) (2*j)/\0<=(fdM l j).1/\(fdM l j).1<=2*j
 |0,_=>⟨⟨MkR.nil _ _,MkR.nil _ _,MkR.nil _ _,am _,am _,am _⟩,Int.le_refl _,by simp [fdM]⟩
 |j+1,h=>by
  obtain ⟨m,h0,h1⟩:=NU ok j om
  have hj:j<l.length:=by omega
  have hd:l.getD j ⟨0,0,0,0⟩=l[j]:=by simp [hj]
  obtain ⟨g1,g2,g3,g4⟩:=xD (ok.g j hj)
  have hp:=Cp (lgC l) (by have:=NZ l;omega)
  have hc: ∀a:Int,0<=a/\a<=(j:Int)-1->0<=(jS l l.length).getD a.toNat 0/\(jS l l.length).getD a.toNat 0<=((2^lgC l:Nat):Int)-1:=fun a ha=>by
   rw [Dm om];exact a6a ok om
  have hcj:0<=(jS l l.length).getD j 0/\(jS l l.length).getD j 0<=((2^lgC l:Nat):Int)-1:=by
   rw [Dm hj];exact a6a ok hj
  have:=c4F (a:=(jS l l.length).getD l[j].A.toNat 0) (b:=(jS l l.length).getD l[j].B.toNat 0) (c:=(jS l l.length).getD j 0) (g:=l[j]) h0 om (fun h=>hc _ (g2 h)) (fun h h7=>hc _ (g3 h h7)) hcj g4 g1 m
  rw [fdM,hd]
  refine ⟨?_,by omega,by omega⟩
  have e:2*(j+1)=2*j+2:=by omega
  rw [e];exact this.1
def rlM (r:Int):Nat:=if r<=2 then 1 else if r<=4 then 2 else if r<=8 then 3 else if r<=16 then 4 else 5
theorem c0Y (r:Int):1<=rlM r/\rlM r<=5:=by
 unfold rlM;repeat' split
 all_goals omega
theorem a5Q {r:Int} (h:r<=32):r<=((2^rlM r:Nat):Int):=by
 unfold rlM;repeat' split
 all_goals simp<;>omega
def rP (l:List aC):bD:=⟨(rlM (fdM l l.length).1:Int),(lgC l:Int),(cu l 2:Int),(fdM l l.length).2.1,(fdM l l.length).2.2.1,(fdM l l.length).2.2.2⟩
theorem b54 {r:Int} {step:Int->Option (Int⊕(Bool×Int))} (m:r<=32) (a: ∀k:Nat,1<=k->k<=5->step (k:Int)=if ((2^k:Nat):Int)<r then some (.inl ((k+1:Nat):Int)) else some (.inr (false,(k:Int)))):
 Loop step 1=some (false,(rlM r:Int)):=by
 have b:=a 1 om om
 have c:=a 2 om om
 have d:=a 3 om om
 have e:=a 4 om om
 have f:=a 5 om om
 simp only [Nat.reducePow,Nat.reduceAdd] at b c d e f
 unfold rlM
 by_cases h:r<=2
 ·rw [aa h];rw [a7 om] at b;exact dx b
 rw [a7 h];rw [aa om] at b
 refine (du b).trans ?_
 by_cases i:r<=4
 ·rw [aa i];rw [a7 om] at c;exact dx c
 rw [a7 i];rw [aa om] at c
 refine (du c).trans ?_
 by_cases j:r<=8
 ·rw [aa j];rw [a7 om] at d;exact dx d
 rw [a7 j];rw [aa om] at d
 refine (du d).trans ?_
 by_cases l:r<=16
 ·rw [aa l];rw [a7 om] at e;exact dx e
 rw [a7 l];rw [aa om] at e
 refine (du e).trans ?_
 rw [a7 om] at f;exact dx f
end
section
def eT (e:aN):Tri:=(e.Row,e.Col,e.Value)
structure Rm (r:Int) (m:List Tri) (L:List aN):Prop where
 kd:p8 m=true
 lt: ∀t∈m,t.1<r
 eq:L.map eT=hU (m.filter nzT)
theorem Rm.nil (r:Int):Rm r [] []:=⟨rfl,(fun t h=>by cases h),(List.length_eq_zero_iff.1 (oc []).length_eq).symm⟩
theorem Rm.up {r r':Int} {m:List Tri} {L:List aN} (h:Rm r m L) (b:r<=r'):Rm r' m L:=⟨h.kd,fun t a=>by have:=h.lt t a;omega,h.eq⟩
theorem Rm.row {r:Int} {m:List Tri} {L:List aN} (h:Rm r m L): ∀e∈L,e.Row<r:=fun e a=>by
 have:eT e∈hU (m.filter nzT):=by rw [<-h.eq];exact bf.2 ⟨e,a,rfl⟩
 have:=(oc _).mem_iff.1 this
 exact h.lt _ (jT.1 this).1
theorem a7f {x y:Tri} (h:x.1≠y.1):Hg x y=false:=by
 simp only [Hg,cg];omega
theorem Rm.app {r:Int} {m N:List Tri} {L E:List aN} (h:Rm r m L) (hN: ∀t∈N,t.1=r) (j:p8 N=true) (hE:(E.map eT).Perm (N.filter nzT)) (k:(E.map eT).Pairwise (fun x y=>AZ y x=false)):Rm (r+1) (m++N) (L++E):=by
 have c:p8 (m++N)=true:=by
  refine wS (gL.2 ⟨ue h.kd,ue j,fun a f b i=>a7f ?_⟩)
  have:=h.lt a f;have:=hN b i;omega
 refine ⟨c,fun t d=> ?_, ?_⟩
 ·rcases aJ.1 d with d|d
  ·have:=h.lt t d;omega
  ·have:=hN t d;omega
 ·refine DZ (wS ((ue c).filter _)) ?_ ?_
  ·rw [bW,List.filter_append,h.eq]
   exact (oc _).append hE
  ·rw [bW]
   refine gL.2 ⟨by rw [h.eq];exact ES _,k,fun a f b i=> ?_⟩
   obtain ⟨e,l,rfl⟩:=bf.1 f
   have n:=h.row e l
   have o:=hN b (jT.1 (hE.mem_iff.1 i)).1
   rw [BJ]
   simp only [eT]
   omega
theorem Gd {r c:Int}: ∀{m:List Tri},(∀t∈m,t.1<r)->j5 r c m=0
 |[],_=>rfl
 | (x,y,v)::m,h=>by
   have h0:=h (x,y,v) sm
   simp only at h0
   rw [j5,a7 om];exact Gd (fun t a=>h t (by simp [a]))
theorem Gc {r c v:Int}: ∀{m:List Tri},(∀t∈m,t.1<r)->jm r c v m=m++[(r,c,v)]
 |[],_=>rfl
 | (x,y,u)::m,h=>by
   have h0:=h (x,y,u) sm
   simp only at h0
   rw [jm,a7 om,Gc (fun t a=>h t (by simp [a]))];rfl
theorem Sy {r c:Int} {N:List Tri}: ∀{m:List Tri},(∀t∈m,t.1<r)->j5 r c (m++N)=j5 r c N
 |[],_=>rfl
 | (x,y,v)::m,h=>by
   have h0:=h (x,y,v) sm
   simp only at h0
   rw [i5,j5,a7 om];exact Sy (fun t a=>h t (by simp [a]))
theorem a06 {r c v:Int} {N:List Tri}: ∀{m:List Tri},(∀t∈m,t.1<r)->jm r c v (m++N)=m++jm r c v N
 |[],_=>rfl
 | (x,y,u)::m,h=>by
   have h0:=h (x,y,u) sm
   simp only at h0
   rw [i5,jm,a7 om,a06 (fun t a=>h t (by simp [a]))];rfl
theorem a08 {v:Int} (h:okF v):aF 0 v=v:=by
 unfold aF okF at*;omega
theorem KY {r c v:Int} {L:List aN} (h: ∀e∈L,e.Row<r):enM L r c v=L++[⟨r,c,v⟩]:=by
 unfold enM
 have: ∀R:List aN,(∀e∈R,e.Row<r)->enR r c v R=⟨r,c,v⟩::R:=by
  intro R a
  cases R with
  |nil=>rfl
  |cons e R=>
   have:=a e sm
   have b:enP r c e=false:=by
    simp only [enP,m8,cg];omega
   rw [enR,a7 (by rw [b];simp),a7 om]
 rw [this _ (fun e d=>h e (by simpa using d))]
 simp
theorem a5i {r c1 c2 v1 v2:Int} {L:List aN} (h: ∀e∈L,e.Row<r):enM (L++[⟨r,c1,v1⟩]) r c2 v2=
 if c1>c2 then L++[⟨r,c2,v2⟩,⟨r,c1,v1⟩] else if c1=c2 then (if aF v1 v2=0 then L else L++[⟨r,c2,aF v1 v2⟩]) else L++[⟨r,c1,v1⟩,⟨r,c2,v2⟩]:=by
 by_cases b:c1>c2
 ·rw [aa b,Vp (fun e c=>by simp at c;subst c;simp [enP];omega),KY h]
  simp
 ·rw [a7 b]
  unfold enM
  rw [jK,List.reverse_singleton,b8,enR,a7 (by simp [enP];omega)]
  by_cases a:c1=c2
  ·rw [aa ⟨rfl,a⟩,aa a]
   split<;>simp
  ·rw [a7 (fun h=>a h.2),a7 a]
   simp
theorem c57 {r c v:Int} (h:v≠0):nzT (r,c,v)=true:=by simp [nzT,h]
theorem a9J {r c v:Int} (h:v≠0):([(r,c,v)]:List Tri).filter nzT=[(r,c,v)]:=by rw [mM,aa (c57 h)];rfl
theorem c09 {r c:Int}:([(r,c,0)]:List Tri).filter nzT=[]:=rfl
theorem Rm.one {r c v:Int} {m:List Tri} {L:List aN} (h:Rm r m L) (b:v≠0):Rm (r+1) (jm r c v m) (enM L r c v):=by
 rw [Gc h.lt,KY h.row]
 refine h.app (fun t a=>by simp at a;subst a;rfl) rfl ?_ ?_
 ·rw [a9J b];exact oT _
 ·simp
theorem Rm.add1 {r c v:Int} {m:List Tri} {L:List aN} (h:Rm r m L) (a:1<=v/\v<=2130706432):Rm (r+1) (jm r c (aF (j5 r c m) v) m) (enM L r c v):=by
 rw [Gd h.lt,a08 ⟨by omega,a.2⟩];exact h.one om
theorem Rm.add0 {r c:Int} {m:List Tri} {L:List aN} (h:Rm r m L):Rm (r+1) (jm r c (aF (j5 r c m) 0) m) L:=by
 rw [Gd h.lt,a08 ⟨by omega,by omega⟩,Gc h.lt]
 have:=h.app (N:=[(r,c,0)]) (E:=[]) (fun t a=>by simp at a;subst a;rfl) rfl (by rw [c09];exact oT _) sm
 simpa using this
theorem Rm.add2 {r c1 c2 v1 v2:Int} {m:List Tri} {L:List aN} (h:Rm r m L) (f:1<=v1/\v1<=2130706432) (i:1<=v2/\v2<=2130706432):
 Rm (r+1) (jm r c2 (aF (j5 r c2 (jm r c1 (aF (j5 r c1 m) v1) m)) v2) (jm r c1 (aF (j5 r c1 m) v1) m)) (enM (enM L r c1 v1) r c2 v2):=by
 rw [Gd h.lt,a08 (v:=v1) ⟨by omega,f.2⟩,Gc h.lt,Sy h.lt,a06 h.lt,KY h.row,a5i h.row]
 by_cases hc:c1=c2
 ·subst hc
  rw [a7 om,aa rfl]
  have e1:j5 r c1 [(r,c1,v1)]=v1:=by simp [j5]
  have e2: ∀u,jm r c1 u [(r,c1,v1)]=[(r,c1,u)]:=fun u=>by simp [jm]
  rw [e1,e2]
  by_cases c:aF v1 v2=0
  ·rw [aa c,c]
   have:=h.app (N:=[(r,c1,0)]) (E:=[]) (fun t a=>by simp at a;subst a;rfl) rfl (by rw [c09];exact oT _) sm
   simpa using this
  ·rw [a7 c]
   refine h.app (fun t a=>by simp at a;subst a;rfl) rfl ?_ ?_
   ·rw [a9J c];exact oT _
   ·simp
 ·have e1:j5 r c2 [(r,c1,v1)]=0:=by simp [j5];omega
  have e2: ∀u,jm r c2 u [(r,c1,v1)]=[(r,c1,v1),(r,c2,u)]:=fun u=>by
   rw [jm,a7 om];rfl
  rw [e1,e2,a08 ⟨by omega,i.2⟩]
  have hN: ∀t∈([(r,c1,v1),(r,c2,v2)]:List Tri),t.1=r:=fun t a=>by simp at a;rcases a with rfl|rfl<;>rfl
  have d:p8 [(r,c1,v1),(r,c2,v2)]=true:=by simp [p8,Hg];omega
  have e:([(r,c1,v1),(r,c2,v2)]:List Tri).filter nzT=[(r,c1,v1),(r,c2,v2)]:=by
   rw [mM,aa (c57 om),a9J om]
  by_cases b:c1>c2
  ·rw [aa b]
   refine h.app hN d ?_ ?_
   ·rw [e];exact List.Perm.swap _ _ _
   ·simp only [aM,eu,eT,iA,bI,forall_eq,BJ]
    refine ⟨by omega,by simp⟩
  ·rw [a7 b,a7 hc]
   refine h.app hN d ?_ ?_
   ·rw [e];exact oT _
   ·simp only [aM,eu,eT,iA,bI,forall_eq,BJ]
    refine ⟨by omega,by simp⟩
theorem qY (r c v:Int): ∀m:List Tri,(jm r c v m).length<=m.length+1
 |[]=>by simp [jm]
 | (x,y,u)::m=>by
   rw [jm];split
   ·simp
   ·have:=qY r c v m;simp;omega
theorem X7 {r c:Int} {m:List Tri} (h: ∀t∈m,t.1<r):okF (j5 r c m):=by rw [Gd h];exact ⟨by omega,by omega⟩
theorem Rm.ent {r:Int} {m:List Tri} {L:List aN} (h:Rm r m L) (a:m.length<1073741824):wt m=some (L,m):=by
 unfold wt
 rw [h.kd,bk,brd a, <-h.eq]
 have:(L.map eT).map Bq=L:=by
  rw [fg]
  have: ∀e∈L,(Bq∘eT) e=e:=fun e _=>rfl
  rw [bn this];simp
 rw [this]
end
section
theorem Og {g:aC} {k:Int} (h0:0<=k) (t:k<=1048576):FN g k=some (sB g k):=by
 unfold FN sB
 simp only [LJ,zn,obs]
 rw [ai (k-1) om om]
 obtain ⟨op,a,b,c⟩:=g
 dsimp only
 generalize decide (0<=a/\a<=k-1)=x
 generalize decide (0<=b/\b<=k-1)=y
 generalize Ey c=z
 generalize (a==0)=za
 generalize (b==0)=zb
 generalize (c==0)=zc
 have d:op=3\/op=4\/op=5\/op=6\/op=7\/op=8\/(op≠3/\op≠4/\op≠5/\op≠6/\op≠7/\op≠8):=by omega
 rcases d with rfl|rfl|rfl|rfl|rfl|rfl|⟨f,h,i,j,l,e⟩
 ·cases x<;>cases y<;>cases z<;>cases za<;>cases zb<;>cases zc<;>rfl
 ·cases x<;>cases y<;>cases z<;>cases za<;>cases zb<;>cases zc<;>rfl
 ·cases x<;>cases y<;>cases z<;>cases za<;>cases zb<;>cases zc<;>rfl
 ·cases x<;>cases y<;>cases z<;>cases za<;>cases zb<;>cases zc<;>rfl
 ·cases x<;>cases y<;>cases z<;>cases za<;>cases zb<;>cases zc<;>rfl
 ·cases x<;>cases y<;>cases z<;>cases za<;>cases zb<;>cases zc<;>rfl
 ·have m:Dt op=0:=by unfold Dt;rw [a7 om,a7 e]
  have n:(op==3)=false:=by simpa using f
  have p:(op==4)=false:=by simpa using h
  have q:(op==5)=false:=by simpa using i
  have r:(op==6)=false:=by simpa using j
  have s:(op==7)=false:=by simpa using l
  have e8:(op==8)=false:=by simpa using e
  rw [m,n,p,q,r,s,e8]
  generalize decide (1<=op/\op<=8)=o
  cases o<;>cases za<;>cases zb<;>cases zc<;>rfl
theorem Ea {c:Circuit} {op:Int} (h:c.Gates.length<=1048576):gr c op=some (cu c.Gates op:Int):=by
 unfold gr
 have key:=bq (step:=gx op c.Gates (c.Gates.length:Int) c.Gates) (fun j=>((cu (c.Gates.take j) op:Int),(j:Int))) c.Gates.length (e:=((cu c.Gates op:Int),(c.Gates.length:Int),false)) (fun j b=> ?_) ?_
 ·rw [show ((0:Int),(0:Int))=((cu (c.Gates.take 0) op:Int),((0:Nat):Int)) from rfl,key];rfl
 ·have a:=iW (c.Gates.take j) op
  rw [aD] at a
  simp only [gx]
  rw [brd om,cJ b,obs,cB b,j9]
  cases d:(c.Gates[j].Op==op)
  ·rw [bu,a7 sm,ai _ om om];simp
  ·rw [dj,aa rfl,ai _ om om,ai _ om om];simp
 ·simp only [gx]
  rw [brn om,ae om,bw]
theorem FL {c:Circuit} (h:c.Gates.length<=1048576):uw c=some (Hj c.Gates):=by
 unfold uw Hj
 rw [LJ,obs]
 by_cases l:1<=c.Gates.length/\c.Gates.length<=15
 ·rw [aj om,aj l,aQ,bu,bk]
  have key:=AN (step:=gR c.Gates (c.Gates.length:Int) c.Gates) (fun k=>(k:Int)) c.Gates.length (fun k=>((c.Gates[k]?.map fun g=>sB g (k:Int)).getD false)) (fun k=> .inl ((c.Gates.getD k ⟨0,0,0,0⟩).Op,(c.Gates.getD k ⟨0,0,0,0⟩).A,(c.Gates.getD k ⟨0,0,0,0⟩).B,(c.Gates.getD k ⟨0,0,0,0⟩).K)) (e:= .inr ((c.Gates.length:Int),false)) (fun k a b=>by
   have d:sB c.Gates[k] (k:Int)=true:=by simpa [a] using b
   simp only [gR]
   rw [brd om,cJ a,obs,Og om om,obs,d,aQ,bu,ai _ om om];rfl)
   (fun k a b=>by
    have d:sB c.Gates[k] (k:Int)=false:=by simpa [a] using b
    have m:c.Gates.getD k ⟨0,0,0,0⟩=c.Gates[k]:=by simp [a]
    simp only [gR]
    rw [brd om,cJ a,obs,Og om om,obs,d,lF,dj,m])
   (by simp only [gR];rw [brn om,ae om])
  rcases key with ⟨f,i⟩|⟨k,a,f,_,i⟩
  ·have e:Loop (gR c.Gates (c.Gates.length:Int) c.Gates) 0=some (.inr ((c.Gates.length:Int),false)):=i
   have j:(List.range c.Gates.length).all (fun k=>((c.Gates[k]?.map fun g=>sB g (k:Int)).getD false))=true:=an.2 fun k a=>f k (bS.1 a)
   rw [e,j,obs,vK,Ea h,obs,bk]
  ·have e:Loop (gR c.Gates (c.Gates.length:Int) c.Gates) 0=some (.inl _):=i
   have j:(List.range c.Gates.length).all (fun k=>((c.Gates[k]?.map fun g=>sB g (k:Int)).getD false))=false:=wg.2 ⟨k,bS.2 a,by rw [f];simp⟩
   rw [e,j,obs,rX,u6]
 ·rw [ae om,ae l,lF,dj,u6]
theorem a4L {c v a2 a3 r:Int} {mA mB mC:List Tri} (h0:0<=r) (f:r<=1000) (a:okF (j5 r c mA)) (b:okF v):
 eK [(c,v)] a2 a3 r mA mB mC=some (r+1,jm r c (aF (j5 r c mA) v) mA,jm r a2 1 mB,jm r a3 1 mC):=by
 unfold eK
 have d:dH mB mC a2 a3 [(c,v)] (([(c,v)]:List (Int×Int)).length:Int) r (mA,0)=some (.inl (jm r c (aF (j5 r c mA) v) mA,1)):=by
  simp only [dH]
  rw [brd sm]
  show (Option.bind (some (c,v)) _)=_
  rw [obs,v8 a b,obs,ai _ om om];rfl
 have e:dH mB mC a2 a3 [(c,v)] (([(c,v)]:List (Int×Int)).length:Int) r (jm r c (aF (j5 r c mA) v) mA,1)=some (.inr (jm r c (aF (j5 r c mA) v) mA,1,false)):=by
  simp only [dH]
  rw [brn sm,ae sm]
 rw [du d,dx e,obs,ai _ om om]
theorem b9c {c1 v1 c2 v2 a2 a3 r:Int} {mA mB mC:List Tri} (h0:0<=r) (j:r<=1000) (e:okF (j5 r c1 mA)) (b:okF v1) (c:okF (j5 r c2 (jm r c1 (aF (j5 r c1 mA) v1) mA))) (d:okF v2):
 eK [(c1,v1),(c2,v2)] a2 a3 r mA mB mC=some (r+1,jm r c2 (aF (j5 r c2 (jm r c1 (aF (j5 r c1 mA) v1) mA)) v2) (jm r c1 (aF (j5 r c1 mA) v1) mA),jm r a2 1 mB,jm r a3 1 mC):=by
 unfold eK
 have f:dH mB mC a2 a3 [(c1,v1),(c2,v2)] (([(c1,v1),(c2,v2)]:List (Int×Int)).length:Int) r (mA,0)=some (.inl (jm r c1 (aF (j5 r c1 mA) v1) mA,1)):=by
  simp only [dH]
  rw [brd sm]
  show (Option.bind (some (c1,v1)) _)=_
  rw [obs,v8 e b,obs,ai _ om om];rfl
 generalize jm r c1 (aF (j5 r c1 mA) v1) mA=a at*
 have h:dH mB mC a2 a3 [(c1,v1),(c2,v2)] (([(c1,v1),(c2,v2)]:List (Int×Int)).length:Int) r (a,1)=some (.inl (jm r c2 (aF (j5 r c2 a) v2) a,2)):=by
  simp only [dH]
  rw [brd sm]
  show (Option.bind (some (c2,v2)) _)=_
  rw [obs,v8 c d,obs,ai _ om om];rfl
 have i:dH mB mC a2 a3 [(c1,v1),(c2,v2)] (([(c1,v1),(c2,v2)]:List (Int×Int)).length:Int) r (jm r c2 (aF (j5 r c2 a) v2) a,2)=some (.inr (jm r c2 (aF (j5 r c2 a) v2) a,2,false)):=by
  simp only [dH]
  rw [brn sm,ae sm]
 rw [du f,du h,dx i,obs,ai _ om om]
theorem a09 {r c1 c2 u:Int} {m:List Tri} (h: ∀t∈m,t.1<r) (a:okF u):okF (j5 r c2 (jm r c1 u m)):=by
 rw [Gc h,Sy h]
 by_cases hc:c1=c2
 ·have:j5 r c2 [(r,c1,u)]=u:=by simp [j5,hc]
  rw [this];exact a
 ·have:j5 r c2 [(r,c1,u)]=0:=by simp [j5];exact fun e=>absurd e.symm hc
  rw [this];exact ⟨by omega,by omega⟩
structure R3 (r:Int) (mA mB mC:List Tri) (A B C:List aN) (n:Nat):Prop where
 a:Rm r mA A
 b:Rm r mB B
 c:Rm r mC C
 la:mA.length<=n
 lb:mB.length<=n
 lc:mC.length<=n
theorem HA {c v a2 a3 r:Int} {mA mB mC:List Tri} {A B C:List aN} {n:Nat} (h0:0<=r) (e:r<=1000) (d:1<=v/\v<=2130706432) (h:R3 r mA mB mC A B C n):
 ∃mA' mB' mC',eK [(c,v)] a2 a3 r mA mB mC=some (r+1,mA',mB',mC')/\R3 (r+1) mA' mB' mC' (enM A r c v) (enM B r a2 1) (enM C r a3 1) (n+1):=
 ⟨_,_,_,a4L h0 e (X7 h.a.lt) ⟨by omega,d.2⟩,h.a.add1 d,h.b.one om,h.c.one om,by have:=qY r c (aF (j5 r c mA) v) mA;have:=h.la;omega,by have:=qY r a2 1 mB;have:=h.lb;omega,by have:=qY r a3 1 mC;have:=h.lc;omega⟩
theorem b8t {c a2 a3 r:Int} {mA mB mC:List Tri} {A B C:List aN} {n:Nat} (h0:0<=r) (d:r<=1000) (h:R3 r mA mB mC A B C n):
 ∃mA' mB' mC',eK [(c,0)] a2 a3 r mA mB mC=some (r+1,mA',mB',mC')/\R3 (r+1) mA' mB' mC' A (enM B r a2 1) (enM C r a3 1) (n+1):=
 ⟨_,_,_,a4L h0 d (X7 h.a.lt) ⟨by omega,by omega⟩,h.a.add0,h.b.one om,h.c.one om,by have:=qY r c (aF (j5 r c mA) 0) mA;have:=h.la;omega,by have:=qY r a2 1 mB;have:=h.lb;omega,by have:=qY r a3 1 mC;have:=h.lc;omega⟩
theorem a4G {c1 v1 c2 v2 a2 a3 r:Int} {mA mB mC:List Tri} {A B C:List aN} {n:Nat} (h0:0<=r) (f:r<=1000) (d:1<=v1/\v1<=2130706432) (e:1<=v2/\v2<=2130706432) (h:R3 r mA mB mC A B C n):
 ∃mA' mB' mC',eK [(c1,v1),(c2,v2)] a2 a3 r mA mB mC=some (r+1,mA',mB',mC')/\R3 (r+1) mA' mB' mC' (enM (enM A r c1 v1) r c2 v2) (enM B r a2 1) (enM C r a3 1) (n+2):=
 ⟨_,_,_,b9c h0 f (X7 h.a.lt) ⟨by omega,d.2⟩ (a09 h.a.lt (a0K _ _)) ⟨by omega,e.2⟩,h.a.add2 d e,h.b.one om,h.c.one om,by
   have:=qY r c1 (aF (j5 r c1 mA) v1) mA
   have:=qY r c2 (aF (j5 r c2 (jm r c1 (aF (j5 r c1 mA) v1) mA)) v2) (jm r c1 (aF (j5 r c1 mA) v1) mA)
   have:=h.la;omega,by have:=qY r a2 1 mB;have:=h.lb;omega,by have:=qY r a3 1 mC;have:=h.lc;omega⟩
theorem R3.up {r:Int} {mA mB mC:List Tri} {A B C:List aN} {n m:Nat} (h:R3 r mA mB mC A B C n) (hn:n<=m):R3 r mA mB mC A B C m:=⟨h.a,h.b,h.c,by have:=h.la;omega,by have:=h.lb;omega,by have:=h.lc;omega⟩
theorem yi {t:List Int} {p v:Int} (h:0<=p/\p<t.length):ey p v t=some [(t.getD p.toNat 0,v)]:=by
 unfold ey
 obtain ⟨k,rfl⟩: ∃k:Nat,p=k:=⟨p.toNat,by omega⟩
 rw [Da om,obs,aY]
theorem c0h {t:List Int} {p:Int} (h:0<=p/\p<t.length):atL t p=some (t.getD p.toNat 0):=by
 obtain ⟨k,rfl⟩: ∃k:Nat,p=k:=⟨p.toNat,by omega⟩
 rw [Da om,aY]
theorem a7b {t:List Int} {g:aC} {k c r:Int} {mA mB mC:List Tri} {A B C:List aN} {n:Nat} (p:sB g k=true) (u:k<t.length) (h0:0<=r) (w:r<=100) (h:R3 r mA mB mC A B C n):
 ∃mA' mB' mC',vU g c t r mA mB mC=some ((syM (t.getD g.A.toNat 0) (t.getD g.B.toNat 0) c g r A B C).1,mA',mB',mC')/\
  R3 (syM (t.getD g.A.toNat 0) (t.getD g.B.toNat 0) c g r A B C).1 mA' mB' mC' (syM (t.getD g.A.toNat 0) (t.getD g.B.toNat 0) c g r A B C).2.1 (syM (t.getD g.A.toNat 0) (t.getD g.B.toNat 0) c g r A B C).2.2.1 (syM (t.getD g.A.toNat 0) (t.getD g.B.toNat 0) c g r A B C).2.2.2 (n+2):=by
 obtain ⟨g1,d,i,q⟩:=xD p
 have one:(1:Int)<=1/\(1:Int)<=2130706432:=⟨by omega,by omega⟩
 have big:(1:Int)<=2130706432/\(2130706432:Int)<=2130706432:=⟨by omega,by omega⟩
 unfold vU
 have j:g.Op=1\/g.Op=2\/g.Op=3\/g.Op=4\/g.Op=5\/g.Op=6\/g.Op=7\/g.Op=8:=by omega
 rcases j with e|e|e|e|e|e|e|e
 ·rw [cm om,cm om,cm om,cm om,cm om,cm om]
  simp only [syM,e]
  exact ⟨_,_,_,rfl,h.up om⟩
 ·rw [cm om,cm om,cm om,cm om,cm om,cm om]
  simp only [syM,e]
  exact ⟨_,_,_,rfl,h.up om⟩
 ·have f:=q e
  rw [bre e]
  by_cases o:g.K>0
  ·obtain ⟨x,y,z,e1,e2⟩:=HA (c:=0) (v:=g.K) (a2:=0) (a3:=c) h0 om ⟨by omega,f.2⟩ h
   rw [e1,obs]
   simp only [syM,e,aa o]
   exact ⟨_,_,_,rfl,e2.up om⟩
  ·have s:g.K=0:=by have:=f.1;omega
   obtain ⟨x,y,z,e1,e2⟩:=b8t (c:=0) (a2:=0) (a3:=c) h0 om h
   rw [s,e1,obs]
   simp only [syM,e,a7 o]
   exact ⟨_,_,_,rfl,e2.up om⟩
 ·have a:=d om
  have b:=i om om
  rw [cm om,bre e,yi om,obs,yi om,obs,aS sm]
  obtain ⟨x,y,z,e1,e2⟩:=a4G (c1:=t.getD g.A.toNat 0) (v1:=1) (c2:=t.getD g.B.toNat 0) (v2:=1) (a2:=0) (a3:=c) h0 om one one h
  rw [b8,e1,obs]
  simp only [syM,e]
  exact ⟨_,_,_,rfl,e2⟩
 ·have a:=d om
  have b:=i om om
  rw [cm om,cm om,bre e,yi om,obs,yi om,obs,aS sm]
  obtain ⟨x,y,z,e1,e2⟩:=a4G (c1:=t.getD g.A.toNat 0) (v1:=1) (c2:=t.getD g.B.toNat 0) (v2:=2130706432) (a2:=0) (a3:=c) h0 om one big h
  rw [b8,e1,obs]
  simp only [syM,e]
  exact ⟨_,_,_,rfl,e2⟩
 ·have a:=d om
  have b:=i om om
  rw [cm om,cm om,cm om,bre e,yi om,obs,c0h om,obs]
  obtain ⟨x,y,z,e1,e2⟩:=HA (c:=t.getD g.A.toNat 0) (v:=1) (a2:=t.getD g.B.toNat 0) (a3:=c) h0 om one h
  rw [e1,obs]
  simp only [syM,e]
  exact ⟨_,_,_,rfl,e2.up om⟩
 ·have a:=d om
  have b:=i om om
  rw [cm om,cm om,cm om,cm om,bre e,yi om,obs]
  obtain ⟨x,y,z,e1,e2⟩:=HA (c:=t.getD g.B.toNat 0) (v:=1) (a2:=0) (a3:=c) h0 om one h
  obtain ⟨x',y',z',l,m⟩:=HA (c:=t.getD g.A.toNat 0) (v:=1) (a2:=0) (a3:=c) om om one e2
  rw [e1,obs,yi om,obs,l,obs]
  simp only [syM,e]
  exact ⟨_,_,_,rfl,m⟩
 ·have a:=d om
  rw [cm om,cm om,cm om,cm om,cm om,bre e,yi om,obs,c0h om,obs]
  obtain ⟨x,y,z,e1,e2⟩:=HA (c:=t.getD g.A.toNat 0) (v:=1) (a2:=t.getD g.A.toNat 0) (a3:=c) h0 om one h
  obtain ⟨x',y',z',l,m⟩:=HA (c:=t.getD g.A.toNat 0) (v:=1) (a2:=0) (a3:=c) om om one e2
  rw [e1,obs,obs,l,obs]
  simp only [syM,e]
  exact ⟨_,_,_,rfl,m⟩
end
section
theorem ZV {s:bD} {k:Nat} (h:s.Cols=((k+1:Nat):Int)) (a:k<=50):fh s=some ((2^k:Nat):Int):=by
 have e:IntKind.wrap .i64 (((k+1:Nat):Int)-1)=(k:Int):=by rw [ai _ om om];omega
 unfold fh
 rw [h,e,brd om,MD om]
theorem L4 {p w c2 c3 c4 c5:Int} {l:List aC} {k:Nat} (a:k<=50) (c:0<=p) (b:p<=100):
 fN w l c2 c3 c4 c5 p ((k+1:Nat):Int)=if ((2^k:Nat):Int)<mx (p+1) w then some (.inl ((k+2:Nat):Int)) else some (.inr (false,((k+1:Nat):Int))):=by
 have e2:IntKind.wrap .i64 (((k+1:Nat):Int)+1)=((k+2:Nat):Int):=by rw [ai _ om om];omega
 simp only [fN]
 rw [ZV (k:=k) rfl a,obs,e2,ai (p+1) om om]
 by_cases h:((2^k:Nat):Int)<mx (p+1) w
 ·rw [brd h,aa h]
 ·rw [brn h,a7 h,ae h]
theorem a9V {p w c2 c3 c4 c5:Int} {l:List aC} (d:0<=p) (j:p<=7) (n:w<=15):Loop (fN w l c2 c3 c4 c5 p) 2=some (false,(lgM (mx (p+1) w):Int)):=by
 have o:mx (p+1) w<=15:=by unfold mx;split<;>omega
 have a:=L4 (p:=p) (w:=w) (l:=l) (c2:=c2) (c3:=c3) (c4:=c4) (c5:=c5) (k:=1) om d om
 have b:=L4 (p:=p) (w:=w) (l:=l) (c2:=c2) (c3:=c3) (c4:=c4) (c5:=c5) (k:=2) om d om
 have c:=L4 (p:=p) (w:=w) (l:=l) (c2:=c2) (c3:=c3) (c4:=c4) (c5:=c5) (k:=3) om d om
 have e:=L4 (p:=p) (w:=w) (l:=l) (c2:=c2) (c3:=c3) (c4:=c4) (c5:=c5) (k:=4) om d om
 simp only [Nat.reducePow,Nat.reduceAdd] at a b c e
 unfold lgM
 generalize mx (p+1) w=m at*
 by_cases f:m<=2
 ·rw [aa f];rw [a7 om] at a;exact dx a
 rw [a7 f];rw [aa om] at a
 refine (du a).trans ?_
 by_cases h:m<=4
 ·rw [aa h];rw [a7 om] at b;exact dx b
 rw [a7 h];rw [aa om] at b
 refine (du b).trans ?_
 by_cases i:m<=8
 ·rw [aa i];rw [a7 om] at c;exact dx c
 rw [a7 i];rw [aa om] at c
 refine (du c).trans ?_
 rw [a7 om] at e;exact dx e
theorem a2L {l:List aC} {c9 c10 c11 c12 c13 c14:Int} (ok:OkC l):Loop (fK l (l.length:Int) l c9 c10 c11 c12 c13 c14) ([],1,((2^(lgC l-1):Nat):Int),0)=
 some (jS l l.length,(cu l 2:Int)+1,((2^(lgC l-1):Nat):Int)+((l.length:Int)-(cu l 2:Int)),(l.length:Int),false):=by
 have k:=ok.n2
 have d:=NZ l
 have f:=Cp (lgC l-1) om
 have key:=bq (step:=fK l (l.length:Int) l c9 c10 c11 c12 c13 c14) (fun j=>(jS l j,(cu (l.take j) 2:Int)+1,((2^(lgC l-1):Nat):Int)+((j:Int)-(cu (l.take j) 2:Int)),(j:Int))) l.length (e:=(jS l l.length,(cu l 2:Int)+1,((2^(lgC l-1):Nat):Int)+((l.length:Int)-(cu l 2:Int)),(l.length:Int),false)) (fun j b=> ?_) ?_
 ·have:((jS l 0,(cu (l.take 0) 2:Int)+1,((2^(lgC l-1):Nat):Int)+(((0:Nat):Int)-(cu (l.take 0) 2:Int)),((0:Nat):Int)):List Int×Int×Int×Int)=([],1,((2^(lgC l-1):Nat):Int),0):=by simp [jS,cu]
  rw [<-this,key]
 ·have i:l.getD j ⟨0,0,0,0⟩=l[j]:=by simp [b]
  have l2:=iW (l.take j) 2
  rw [aD] at l2
  have c:=UX l j
  have a: ∀v:Int,(jS l j++[v]).length*8<=1099511627776:=fun v=>by rw [a8,c];simp;omega
  simp only [fK]
  rw [brd om,cJ b,obs,cB b,j9,a2M,Ej,i]
  by_cases h:l[j].Op=2
  ·rw [bre h,aS (a _),ai _ om om,ai _ om om,aa h,aa (by simp [h])]
   simp;omega
  ·rw [cm h,aS (a _),ai _ om om,ai _ om om,a7 h,a7 (by simp [h])]
   simp;omega
 ·simp only [fK]
  rw [brn om,ae om,bw]
theorem YE {l:List aC} {c16 c17 c18 c19 c20 c21:Int} (ok:OkC l): ∃mA mB mC,Loop (i0 (jS l l.length) l (l.length:Int) l c16 c17 c18 c19 c20 c21) ([],[],[],0,0)=
 some (mA,mB,mC,(l.length:Int),false,(fdM l l.length).1)/\R3 (fdM l l.length).1 mA mB mC (fdM l l.length).2.1 (fdM l l.length).2.2.1 (fdM l l.length).2.2.2 (2*l.length):=by
 have hn:=ok.n2
 obtain ⟨⟨mA,mB,mC,i,b,r⟩,o,d,f,k,m⟩:=rg (step:=i0 (jS l l.length) l (l.length:Int) l c16 c17 c18 c19 c20 c21)
  (fun s=> ∃j:Nat,j<=l.length/\s.2.2.2.1=(j:Int)/\s.2.2.2.2=(fdM l j).1/\R3 (fdM l j).1 s.1 s.2.1 s.2.2.1 (fdM l j).2.1 (fdM l j).2.2.1 (fdM l j).2.2.2 (2*j)) (fun s=>l.length-s.2.2.2.1.toNat)
  (fun e=>e.2.2.2.1=(l.length:Int)/\e.2.2.2.2.1=false/\e.2.2.2.2.2=(fdM l l.length).1/\R3 (fdM l l.length).1 e.1 e.2.1 e.2.2.1 (fdM l l.length).2.1 (fdM l l.length).2.2.1 (fdM l l.length).2.2.2 (2*l.length))
  (fun s=>by
   obtain ⟨mA,mB,mC,i,r⟩:=s
   rintro ⟨j,p,e1,e2,h⟩
   dsimp only at e1 e2 h
   subst e1
   simp only [i0]
   by_cases a:j<l.length
   ·left
    have n:l.getD j ⟨0,0,0,0⟩=l[j]:=by simp [a]
    have w:=UX l l.length
    obtain ⟨_,q,r1⟩:=NU ok j p
    obtain ⟨x,y,z,u,v⟩:=a7b (t:=jS l l.length) (c:=(jS l l.length).getD j 0) (ok.g j a) om q om h
    rw [brd om,cJ a,obs,brd om,brd (by rw [aY];omega),aY,lR om,obs,e2,u,obs,ai _ om om]
    refine ⟨_,rfl,⟨j+1,by omega,by dsimp only;omega,by rw [fdM,n], ?_⟩,by dsimp only;omega⟩
    rw [fdM,n]
    exact v
   ·right
    have:j=l.length:=by omega
    subst this
    rw [brn om,ae om]
    exact ⟨_,rfl,rfl,rfl,e2,h⟩)
  ([],[],[],0,0) ⟨0,by omega,rfl,rfl,⟨Rm.nil _,Rm.nil _,Rm.nil _,by simp,by simp,by simp⟩⟩
 dsimp only at d f k m
 subst d f k
 exact ⟨mA,mB,mC,o,m⟩
theorem OY {c:Circuit} (ok:OkC c.Gates):kQ c=some (rP c.Gates):=by
 have hn:=ok.n2
 have i:=ok.p
 have j:=iW c.Gates 2
 have l:=NZ c.Gates
 unfold kQ
 have e:Loop (fN ((c.Gates.length:Int)-(cu c.Gates 2:Int)) c.Gates 0 0 0 1 (cu c.Gates 2:Int)) 2=some (false,(lgC c.Gates:Int)):=a9V om om om
 rw [Ea om,obs,ai _ om om,e,obs]
 dsimp only
 rw [ZV (k:=lgC c.Gates-1) dmo om,obs,a2L ok,obs]
 dsimp only
 obtain ⟨mA,mB,mC,f,d⟩:=YE (c16:=0) (c17:=0) (c18:=0) (c19:=1) (c20:=(lgC c.Gates:Int)) (c21:=(cu c.Gates 2:Int)) ok
 obtain ⟨_,m,n⟩:=NU ok c.Gates.length (am _)
 rw [f,obs]
 dsimp only
 rw [b54 (r:=(fdM c.Gates c.Gates.length).1) om (fun k o q=> ?_),obs,d.a.ent (by have:=d.la;omega),obs,d.b.ent (by have:=d.lb;omega),obs,d.c.ent (by have:=d.lc;omega),obs]
 ·rfl
 ·simp only [mz]
  have e2:IntKind.wrap .i64 ((k:Int)+1)=((k+1:Nat):Int):=by rw [ai _ om om];omega
  rw [brd om,MD om,e2]
  by_cases h:((2^k:Nat):Int)<(fdM c.Gates c.Gates.length).1
  ·rw [brd h,aa h]
  ·rw [brn h,a7 h,ae h]
theorem Uq {c:Circuit} (h:c.Gates.length<=1048576):wF c=some (if Hj c.Gates=true then (rP c.Gates,0) else (⟨0,0,0,[],[],[]⟩,19)):=by
 unfold wF
 rw [FL h,obs]
 by_cases hc:Hj c.Gates=true
 ·rw [hc,OY (a0d hc)];rfl
 ·have:Hj c.Gates=false:=by simpa using hc
  rw [this];rfl
end
section
theorem LZ (P I:List Int) (l:List aC) {i:Nat}: ∀{j n:Nat},i<j->j<=n->(rnM P I l n).getD i 0=(rnM P I l j).getD i 0
 |j,n,hi,hn=>by
  induction n with
  |zero=>omega
  |succ n ih=>
   by_cases h:j=n+1
   ·rw [h]
   ·rw [<-ih om,rnM,List.getD_eq_getElem?_getD,bc (by rw [rL];omega), <-List.getD_eq_getElem?_getD]
theorem a5X {P I:List Int} {l:List aC} {j n:Nat} {g:aC} (f:sB g (j:Int)=true) (hn:j<=n):ll (rnM P I l n) g=ll (rnM P I l j) g:=by
 obtain ⟨k,d,h,m⟩:=xD f
 unfold ll
 by_cases c:g.Op=7
 ·have a:=d om
  have b:=h om om
  rw [LZ P I l (j:=j) om hn,LZ P I l (i:=g.B.toNat) (j:=j) om hn]
 ·by_cases e:g.Op=8
  ·have a:=d om
   rw [cm c,cm c,LZ P I l (j:=j) om hn]
  ·rw [cm c,cm c,cm e,cm e]
theorem a5E {l:List Int} {p:Nat} (h:p<l.length):atL (l.drop p) 0=some (l.getD p 0):=by
 have:(l.drop p)[0]? =some (l.getD p 0):=by rw [fZ];simp [h]
 simp only [atL]
 rw [aa om]
 exact this
theorem c0n {l:List Int} {p:Nat} (h:p<l.length) (a:l.length<=1099511627776):rF (l.drop p) 1 ((l.drop p).length:Int)=some (l.drop (p+1)):=by
 rw [ke om (by rw [bQ];omega) om]
 simp only [lk,bQ,Option.some.injEq]
 refine aX ?_
 rw [bQ];omega
theorem Qz {P I:List Int} {l c':List aC} {j:Nat} (ok:OkC l) (r:hK P) (s:hK I) (lP:P.length=cu l 2) (lI:I.length=cu l 1) (i:j<l.length):
 iw l (l.length:Int) c' (rnM P I l j,P.drop (cu (l.take j) 2),I.drop (cu (l.take j) 1),(j:Int))=
  if ll (rnM P I l j) l[j]=true then some (.inl (rnM P I l (j+1),P.drop (cu (l.take (j+1)) 2),I.drop (cu (l.take (j+1)) 1),((j+1:Nat):Int))) else some (.inr (.inl (rnM P I l j,l[j].Op,l[j].A,l[j].B,l[j].K))):=by
 have hn:=ok.n2
 have t:l.getD j ⟨0,0,0,0⟩=l[j]:=by simp [i]
 obtain ⟨w,k,m,x⟩:=xD (ok.g j i)
 have l2:=iW (l.take j) 2
 have u:=iW (l.take j) 1
 rw [aD] at u l2
 have c2:=iW l 2
 have c1:=iW l 1
 have f:=JA ok r s lP lI j om
 have n:=rL P I l j
 have t2:=mK (op:=2) i
 have q:=mK (op:=1) i
 have ej:IntKind.wrap .i64 ((j:Int)+1)=((j+1:Nat):Int):=by rw [ai _ om om];omega
 simp only [iw]
 rw [brd om,cJ i,obs,cB i,j9,j9,rnM,t,ej]
 generalize l[j]=g at*
 generalize rnM P I l j=o at*
 have c: ∀v:Int,(o++[v]).length*8<=1099511627776:=fun v=>by rw [a8,n];simp;omega
 have p:g.Op=1\/g.Op=2\/g.Op=4\/g.Op=5\/g.Op=6\/g.Op=7\/g.Op=8\/g.Op=3:=by omega
 rcases p with h|h|h|h|h|h|h|h
 ·have d:ll o g=true:=by unfold ll;rw [cm om,cm om];rfl
  rw [aa d,bre h,a5E (by have:=q h;omega),obs,c0n (by have:=q h;omega) om,obs,aS (c _)]
  simp [gvM,h]
 ·have d:ll o g=true:=by unfold ll;rw [cm om,cm om];rfl
  rw [aa d,cm om,bre h,a5E (by have:=t2 h;omega),obs,c0n (by have:=t2 h;omega) om,obs,aS (c _)]
  simp [gvM,h]
 ·have d:ll o g=true:=by unfold ll;rw [cm om,cm om];rfl
  have a:=k om
  have b:=m om om
  rw [aa d,cm om,cm om,bre h,brd a.1,brd om,lR om,obs,brd b.1,brd om,lR om,obs,v8 (ky f om) (ky f om),obs,aS (c _)]
  simp [gvM,h]
 ·have d:ll o g=true:=by unfold ll;rw [cm om,cm om];rfl
  have a:=k om
  have b:=m om om
  rw [aa d,cm om,cm om,cm om,bre h,brd a.1,brd om,lR om,obs,brd b.1,brd om,lR om,obs,Kv (ky f om) (ky f om),obs,aS (c _)]
  simp [gvM,h]
 ·have d:ll o g=true:=by unfold ll;rw [cm om,cm om];rfl
  have a:=k om
  have b:=m om om
  rw [aa d,cm om,cm om,cm om,cm om,bre h,brd a.1,brd om,lR om,obs,brd b.1,brd om,lR om,obs,ml (ky f om) (ky f om),obs,aS (c _)]
  simp [gvM,h]
 ·have a:=k om
  have b:=m om om
  have d:ll o g=(o.getD g.A.toNat 0==o.getD g.B.toNat 0):=by unfold ll;rw [bre h,cm om,dO]
  rw [cm om,cm om,cm om,cm om,cm om,bre h,bre h,brd a.1,brd om,lR om,obs,bre h,brd b.1,brd om,lR om,obs]
  by_cases e:o.getD g.A.toNat 0=o.getD g.B.toNat 0
  ·rw [aa (by rw [d];simpa using e),m9 e,cm om,aS (c _)]
   simp [gvM,h]
  ·rw [a7 (by rw [d];simpa using e),brb e]
 ·have a:=k om
  have d:ll o g=decide (o.getD g.A.toNat 0<=1):=by unfold ll;rw [cm om,bre h,bk]
  rw [cm om,cm om,cm om,cm om,cm om,cm om,bre h,brd a.1,brd om,lR om,obs,cm om,bre h]
  by_cases e:o.getD g.A.toNat 0>1
  ·rw [a7 (by rw [d,ae om];simp),brd e]
  ·rw [aa (by rw [d,aj om]),brn e,aS (c _)]
   simp [gvM,h]
 ·have d:ll o g=true:=by unfold ll;rw [cm om,cm om];rfl
  rw [aa d,cm om,cm om,cm om,cm om,cm om,cm om,cm om,aS (c _)]
  simp [gvM,h]
theorem Zc {c:Circuit} {P I:List Int} (ok:OkC c.Gates) (j:hK P) (l:hK I) (lP:P.length=cu c.Gates 2) (lI:I.length=cu c.Gates 1):
 pp c P I=some (if c.Gates.all (ll (rnM P I c.Gates c.Gates.length))=true then (rnM P I c.Gates c.Gates.length,true) else ([],false)):=by
 have hn:=ok.n2
 unfold pp
 have key:=AN (step:=iw c.Gates (c.Gates.length:Int) c.Gates) (fun k=>(rnM P I c.Gates k,P.drop (cu (c.Gates.take k) 2),I.drop (cu (c.Gates.take k) 1),(k:Int))) c.Gates.length
  (fun k=>((c.Gates[k]?.map (ll (rnM P I c.Gates k))).getD false)) (fun k=> .inl (rnM P I c.Gates k,(c.Gates.getD k ⟨0,0,0,0⟩).Op,(c.Gates.getD k ⟨0,0,0,0⟩).A,(c.Gates.getD k ⟨0,0,0,0⟩).B,(c.Gates.getD k ⟨0,0,0,0⟩).K))
  (e:= .inr (rnM P I c.Gates c.Gates.length,P.drop (cu (c.Gates.take c.Gates.length) 2),I.drop (cu (c.Gates.take c.Gates.length) 1),(c.Gates.length:Int),false))
  (fun k a b=>by
   have d:ll (rnM P I c.Gates k) c.Gates[k]=true:=by simpa [a] using b
   rw [Qz ok j l lP lI a,aa d])
  (fun k a b=>by
   have d:ll (rnM P I c.Gates k) c.Gates[k]=false:=by simpa [a] using b
   have m:c.Gates.getD k ⟨0,0,0,0⟩=c.Gates[k]:=by simp [a]
   rw [Qz ok j l lP lI a,a7 (by rw [d];simp),m])
  (by simp only [iw];rw [brn om,ae om])
 have h0:((rnM P I c.Gates 0,P.drop (cu (c.Gates.take 0) 2),I.drop (cu (c.Gates.take 0) 1),((0:Nat):Int)):List Int×List Int×List Int×Int)=([],P,I,0):=rfl
 rw [h0] at key
 rcases key with ⟨f,h⟩|⟨k,a,f,_,h⟩
 ·have i:c.Gates.all (ll (rnM P I c.Gates c.Gates.length))=true:=an.2 fun x n=>by
   obtain ⟨k,a,rfl⟩:=bp n
   rw [a5X (ok.g k a) om]
   simpa [a] using f k a
  rw [h,aa i,obs,vK]
 ·have i: ¬c.Gates.all (ll (rnM P I c.Gates c.Gates.length))=true:=by
   rw [Bool.not_eq_true]
   refine wg.2 ⟨c.Gates[k],b9 a, ?_⟩
   rw [a5X (ok.g k a) om]
   simpa [a] using f
  rw [h,a7 i,obs,rX]
def rcC (c:Circuit) (P I:List Int):Int:=
 if P.length>4096 then 2 else if I.length>4096 then 2 else if Hj c.Gates=false then 19 else if P.all Ey=false then 1 else if I.all Ey=false then 1
 else if P.length≠cu c.Gates 2 then 8 else if I.length≠cu c.Gates 1 then 8 else 0
structure a2c (c:Circuit) (P I:List Int):Prop where
 ok:OkC c.Gates
 hP:hK P
 hI:hK I
 lP:P.length=cu c.Gates 2
 lI:I.length=cu c.Gates 1
theorem a6j {l:List Int} (h:l.all Ey=true):hK l:=fun x a=>H4.1 (an.1 h x a)
theorem WJ {l:List Int} (h:hK l):l.all Ey=true:=an.2 fun x a=>H4.2 (h x a)
theorem c1p {c:Circuit} {P I:List Int} (h:rcC c P I=0):a2c c P I:=by
 unfold rcC at h
 split at h
 ·omega
 split at h
 ·omega
 split at h
 ·omega
 rename_i a
 split at h
 ·omega
 rename_i b
 split at h
 ·omega
 rename_i d
 split at h
 ·omega
 rename_i e
 split at h
 ·omega
 rename_i f
 exact ⟨a0d (by simpa using a),a6j (by simpa using b),a6j (by simpa using d),by omega,by omega⟩
theorem a1t {l:List aC} (h:OkC l):Hj l=true:=by
 unfold Hj
 rw [aj ⟨h.n1,h.n2⟩,aj (by have:=h.p;omega),bk,dO]
 refine an.2 fun k a=> ?_
 have a:=bS.1 a
 simpa [a] using h.g k a
theorem b1q {c:Circuit} {P I:List Int} (h:a2c c P I):rcC c P I=0:=by
 have a:=iW c.Gates 2
 have b:=iW c.Gates 1
 have hn:=h.ok.n2
 have:=h.lP
 have:=h.lI
 unfold rcC
 rw [a7 om,a7 om,a1t h.ok,a7 sm,WJ h.hP,a7 sm,WJ h.hI,a7 sm,a7 om,a7 om]
theorem LL {c:Circuit} {P I:List Int} (hc:c.Gates.length<=1048576):zY c P I=some (rcC c P I):=by
 unfold zY rcC
 by_cases a:P.length>4096
 ·rw [brd om,aa a]
 rw [brn om,a7 a]
 by_cases b:I.length>4096
 ·rw [brd om,aa b]
 rw [brn om,a7 b,FL hc,obs]
 cases Hj c.Gates
 ·rfl
 rw [a7 sm,aQ,bu,MM om,obs]
 cases P.all Ey
 ·rfl
 rw [a7 sm,aQ,bu,MM om,obs]
 cases I.all Ey
 ·rfl
 rw [a7 sm,aQ,bu,Ea hc,obs]
 by_cases d:P.length=cu c.Gates 2
 ·rw [m9 om,a7 om,Ea hc,obs]
  by_cases e:I.length=cu c.Gates 1
  ·rw [m9 om,a7 om]
  ·rw [brb om,aa e]
 ·rw [brb om,aa d]
def b7Z (c:Circuit) (P I:List Int):List Int×Int:=
 if rcC c P I=0 then (if c.Gates.all (ll (rnM P I c.Gates c.Gates.length))=true then (rnM P I c.Gates c.Gates.length,0) else ([],15)) else ([],rcC c P I)
theorem Pq {c:Circuit} {P I:List Int} (hc:c.Gates.length<=1048576):mm c P I=some (b7Z c P I):=by
 unfold mm b7Z
 rw [LL hc,obs]
 by_cases h0:rcC c P I=0
 ·have ok:=c1p h0
  rw [m9 h0,aa h0,Zc ok.ok ok.hP ok.hI ok.lP ok.lI,obs]
  by_cases a:c.Gates.all (ll (rnM P I c.Gates c.Gates.length))=true
  ·rw [aa a,aa a];rfl
  ·rw [a7 a,a7 a];rfl
 ·rw [brb h0,a7 h0]
end
section
def zc (z:List Int) (c:Int):Int:=z.getD c.toNat 0
def rS (z:List Int) (r x:Int) (e:aN):Int:=if e.Row=r then aF x (mF e.Value (zc z e.Col)) else x
def rV (z:List Int) (r:Int) (L:List aN):Int:=L.foldl (rS z r) 0
theorem a5e (z:List Int) {k:Nat}: ∀(L:List aN) (T:List Int),(∀e∈L,0<=e.Row/\e.Row<T.length)->(L.foldl (muS z) T).getD k 0=L.foldl (rS z k) (T.getD k 0)
 |[],_,_=>rfl
 |e::L,T,h=>by
  have c:=h e sm
  rw [bP,bP,a5e z L _ (fun x b=>by rw [muS,aO];exact h x (by simp [b]))]
  congr 1
  unfold muS rS zc
  by_cases a:e.Row=(k:Int)
  ·rw [aa a,a,aY,List.getD_eq_getElem?_getD,dV,aa rfl,aa om];rfl
  ·rw [a7 a,List.getD_eq_getElem?_getD,dV,a7 om, <-List.getD_eq_getElem?_getD]
theorem Yn {z:List Int} {n k:Nat} {L:List aN} (h: ∀e∈L,0<=e.Row/\e.Row<((2^n:Nat):Int)):(muM L n z).getD k 0=rV z k L:=by
 rw [muM,a5e z L _ (fun e a=>by rw [aL];exact h e a)]
 have:(List.replicate (2^n) (0:Int)).getD k 0=0:=by
  rw [List.getD_eq_getElem?_getD,List.getElem?_replicate];split<;>rfl
 rw [this];rfl
theorem Wp {z:List Int} {r:Int}: ∀{L:List aN} {x:Int},(∀e∈L,e.Row≠r)->L.foldl (rS z r) x=x
 |[],_,_=>rfl
 |e::L,x,h=>by rw [bP,rS,a7 (h e sm),Wp (fun e he=>h e (by simp [he]))]
theorem b50 (z:List Int) (r:Int) (L N:List aN):rV z r (L++N)=N.foldl (rS z r) (rV z r L):=by rw [rV,gG];rfl
theorem M0 {z:List Int} {r:Int} {L:List aN} (h: ∀e∈L,e.Row<r):rV z r L=0:=Wp fun e a=>by have:=h e a;omega
theorem Mk {z:List Int} (h:hK z) (i:Nat):okF (z.getD i 0):=by
 by_cases hi:i<z.length
 ·exact ky h hi
 ·rw [List.getD_eq_getElem?_getD,cf om];exact b81
theorem b0j {x:Int} (h:okF x):mF 1 x=x:=by unfold mF;rw [tJ];exact CX h
theorem Qc {x:Int} (h:okF x):mF x 1=x:=by unfold mF;rw [Int.mul_one];exact CX h
theorem b9Y (x:Int):mF 0 x=0:=by unfold mF;rw [Int.zero_mul];rfl
theorem b0z (a b x:Int):mF (aF a b) x=aF (mF a x) (mF b x):=by
 unfold mF aF
 rw [mM1,mA1,mA2,Int.add_mul]
theorem c1k (a b:Int):aF a b=aF b a:=by unfold aF;rw [Int.add_comm]
theorem c3F {a b:Int}:aF a (mF 2130706432 b)=sF a b:=by
 unfold aF mF sF
 rw [mA2]
 have:a+2130706432*b=(a-b)+b*2130706433:=by omega
 rw [this,Int.add_mul_emod_self_right]
structure TV (z:List Int) (r:Int) (A A':List aN) (x:Int):Prop where
 old: ∀k,k<r->rV z k A'=rV z k A
 new:rV z r A'=x
 row: ∀e∈A',e.Row<r+1
theorem V8 {z:List Int} {r:Int} {A:List aN} (h: ∀e∈A,e.Row<r):TV z r A A 0:=⟨fun _ _=>rfl,M0 h,fun e a=>by have:=h e a;omega⟩
theorem PO {z:List Int} {r x:Int} {A N:List aN} (h: ∀e∈A,e.Row<r) (hN: ∀e∈N,e.Row=r) (b:N.foldl (rS z r) 0=x):TV z r A (A++N) x:=
 ⟨fun k c=>by rw [b50];exact Wp fun e a=>by have:=hN e a;omega,by rw [b50,M0 h];exact b,fun e a=>by
  rcases aJ.1 a with a|a
  ·have:=h e a;omega
  ·have:=hN e a;omega⟩
theorem mw {z:List Int} {r c v:Int} {A:List aN} (h: ∀e∈A,e.Row<r):TV z r A (enM A r c v) (mF v (zc z c)):=by
 rw [KY h]
 refine PO h (fun e a=>by simp at a;subst a;rfl) ?_
 rw [bP,jd,rS,aa rfl,a08 (w7 _ _)]
theorem a1j {z:List Int} {r c1 c2 v1 v2:Int} {A:List aN} (h: ∀e∈A,e.Row<r):TV z r A (enM (enM A r c1 v1) r c2 v2) (aF (mF v1 (zc z c1)) (mF v2 (zc z c2))):=by
 rw [KY h,a5i h]
 by_cases c:c1>c2
 ·rw [aa c]
  refine PO h (fun e a=>by simp at a;rcases a with rfl|rfl<;>rfl) ?_
  rw [bP,bP,jd,rS,rS,aa rfl,aa rfl,a08 (w7 _ _),c1k]
 ·rw [a7 c]
  by_cases c':c1=c2
  ·rw [aa c']
   subst c'
   by_cases b:aF v1 v2=0
   ·rw [aa b, <-b0z,b,b9Y];exact V8 h
   ·rw [a7 b]
    refine PO h (fun e a=>by simp at a;subst a;rfl) ?_
    rw [bP,jd,rS,aa rfl,a08 (w7 _ _),b0z]
  ·rw [a7 c']
   refine PO h (fun e a=>by simp at a;rcases a with rfl|rfl<;>rfl) ?_
   rw [bP,bP,jd,rS,rS,aa rfl,aa rfl,a08 (w7 _ _)]
def a96 (z:List Int) (r:Int) (A B C:List aN):Prop:= ∀k:Int,0<=k->k<r->mF (rV z k A) (rV z k B)=rV z k C
theorem zH {z:List Int} {r x y w:Int} {A B C A' B' C':List aN} (j:0<=r) (a:TV z r A A' x) (b:TV z r B B' y) (c:TV z r C C' w):a96 z (r+1) A' B' C'↔a96 z r A B C/\mF x y=w:=by
 constructor
 ·intro h
  refine ⟨fun k i d=> ?_, ?_⟩
  ·have:=h k i om
   rwa [a.old k d,b.old k d,c.old k d] at this
  ·have:=h r j om
   rwa [a.new,b.new,c.new] at this
 ·rintro ⟨h,e⟩ k i d
  by_cases f:k<r
  ·rw [a.old k f,b.old k f,c.old k f];exact h k i f
  ·have:k=r:=by omega
   rw [this,a.new,b.new,c.new];exact e
def eqG (a b c:Int) (g:aC):Prop:=
 if g.Op=1\/g.Op=2 then True else if g.Op=6 then mF a b=c else if g.Op=4 then aF a b=c else if g.Op=5 then sF a b=c
 else if g.Op=3 then g.K=c else if g.Op=7 then b=c/\a=c else mF a a=c/\a=c
structure b7R (r:Int) (A B C:List aN):Prop where
 a: ∀e∈A,e.Row<r
 b: ∀e∈B,e.Row<r
 c: ∀e∈C,e.Row<r
theorem c1X {z:List Int} {a b c r:Int} {g:aC} {A B C:List aN} (d:0<=r) (e:hK z) (z0:z.getD 0 0=1) (t:1<=g.Op/\g.Op<=8) (u:g.Op=3->okF g.K) (h:b7R r A B C):
 (a96 z (syM a b c g r A B C).1 (syM a b c g r A B C).2.1 (syM a b c g r A B C).2.2.1 (syM a b c g r A B C).2.2.2↔a96 z r A B C/\eqG (zc z a) (zc z b) (zc z c) g)/\
  b7R (syM a b c g r A B C).1 (syM a b c g r A B C).2.1 (syM a b c g r A B C).2.2.1 (syM a b c g r A B C).2.2.2:=by
 have za:okF (zc z a):=Mk e a.toNat
 have zb:okF (zc z b):=Mk e b.toNat
 have zc':okF (zc z c):=Mk e c.toNat
 have e0:zc z 0=1:=z0
 have e1:mF 1 (zc z 0)=1:=by rw [e0];rfl
 have ea:mF 1 (zc z a)=zc z a:=b0j za
 have eb:mF 1 (zc z b)=zc z b:=b0j zb
 have ec:mF 1 (zc z c)=zc z c:=b0j zc'
 unfold syM eqG
 by_cases k:g.Op=1\/g.Op=2
 ·rw [aa k,aa k];exact ⟨⟨fun h=>⟨h,trivial⟩,fun h=>h.1⟩,h⟩
 rw [a7 k,a7 k]
 have rows: ∀{r:Int} {A B C A' B' C':List aN} {x y w:Int},TV z r A A' x->TV z r B B' y->TV z r C C' w->b7R (r+1) A' B' C':=fun a b c=>⟨a.row,b.row,c.row⟩
 have xB1:=mw (z:=z) (c:=0) (v:=1) h.b
 have xC1:=mw (z:=z) (c:=c) (v:=1) h.c
 by_cases l:g.Op=6
 ·rw [aa l,aa l]
  have xA1:=mw (z:=z) (c:=a) (v:=1) h.a
  have xb1:=mw (z:=z) (c:=b) (v:=1) h.b
  refine ⟨?_,rows xA1 xb1 xC1⟩
  have:=zH d xA1 xb1 xC1
  rwa [ea,eb,ec] at this
 rw [a7 l,a7 l]
 by_cases m:g.Op=4
 ·rw [aa m,aa m]
  have xA1:=a1j (z:=z) (c1:=a) (v1:=1) (c2:=b) (v2:=1) h.a
  refine ⟨?_,rows xA1 xB1 xC1⟩
  have:=zH d xA1 xB1 xC1
  rwa [ea,eb,ec,e1,Qc (a0K _ _)] at this
 rw [a7 m,a7 m]
 by_cases n:g.Op=5
 ·rw [aa n,aa n]
  have xA1:=a1j (z:=z) (c1:=a) (v1:=1) (c2:=b) (v2:=2130706432) h.a
  refine ⟨?_,rows xA1 xB1 xC1⟩
  have:=zH d xA1 xB1 xC1
  rwa [ea,ec,e1,c3F,Qc (b4M _ _)] at this
 rw [a7 n,a7 n]
 by_cases f:g.Op=3
 ·rw [aa f,aa f]
  have p:=u f
  by_cases s:g.K>0
  ·rw [aa s]
   have xA1:=mw (z:=z) (c:=0) (v:=g.K) h.a
   refine ⟨?_,rows xA1 xB1 xC1⟩
   have:=zH d xA1 xB1 xC1
   rwa [e0,Qc p,ec,show mF 1 1=1 from rfl,Qc p] at this
  ·rw [a7 s]
   have xA1:=V8 (z:=z) h.a
   refine ⟨?_,rows xA1 xB1 xC1⟩
   have:=zH d xA1 xB1 xC1
   have e:g.K=0:=by have:=p.1;omega
   rw [e1,ec,b9Y] at this
   rw [e];exact this
 rw [a7 f,a7 f]
 by_cases o:g.Op=7
 ·rw [aa o,aa o]
  have xA1:=mw (z:=z) (c:=b) (v:=1) h.a
  have q:=rows xA1 xB1 xC1
  have pA:=mw (z:=z) (c:=a) (v:=1) q.a
  have pB:=mw (z:=z) (c:=0) (v:=1) q.b
  have pC:=mw (z:=z) (c:=c) (v:=1) q.c
  refine ⟨?_,rows pA pB pC⟩
  have i:=zH d xA1 xB1 xC1
  have j:=zH om pA pB pC
  rw [eb,ec,e1,Qc zb] at i
  rw [ea,ec,e1,Qc za,i,and_assoc] at j
  exact j
 rw [a7 o,a7 o]
 have xA1:=mw (z:=z) (c:=a) (v:=1) h.a
 have xb1:=mw (z:=z) (c:=a) (v:=1) h.b
 have q:=rows xA1 xb1 xC1
 have pA:=mw (z:=z) (c:=a) (v:=1) q.a
 have pB:=mw (z:=z) (c:=0) (v:=1) q.b
 have pC:=mw (z:=z) (c:=c) (v:=1) q.c
 refine ⟨?_,rows pA pB pC⟩
 have i:=zH d xA1 xb1 xC1
 have j:=zH om pA pB pC
 rw [ea,ec] at i
 rw [ea,ec,e1,Qc za,i,and_assoc] at j
 exact j
theorem b5w {z:List Int} {l:List aC} (ok:OkC l) (hz:hK z) (z0:z.getD 0 0=1): ∀j,j<=l.length->
 (a96 z (fdM l j).1 (fdM l j).2.1 (fdM l j).2.2.1 (fdM l j).2.2.2↔ ∀(i:Nat) (hi:i<l.length),i<j->eqG (zc z (Ej l l[i].A.toNat)) (zc z (Ej l l[i].B.toNat)) (zc z (Ej l i)) l[i])/\b7R (fdM l j).1 (fdM l j).2.1 (fdM l j).2.2.1 (fdM l j).2.2.2
 |0,_=>⟨⟨fun _ i _ h=>by omega,fun _ k k0 k1=>by have:(fdM l 0).1=0:=rfl;omega⟩,⟨(fun e he=>by cases he),(fun e he=>by cases he),(fun e he=>by cases he)⟩⟩
 |j+1,h=>by
  obtain ⟨ih,rw3⟩:=b5w ok hz z0 j om
  obtain ⟨_,r0,_⟩:=NU ok j om
  have hj:j<l.length:=by omega
  have hd:l.getD j ⟨0,0,0,0⟩=l[j]:=by simp [hj]
  obtain ⟨g1,g2,g3,g4⟩:=xD (ok.g j hj)
  obtain ⟨s,q⟩:=c1X (a:=(jS l l.length).getD l[j].A.toNat 0) (b:=(jS l l.length).getD l[j].B.toNat 0) (c:=(jS l l.length).getD j 0) (g:=l[j]) r0 hz z0 g1 g4 rw3
  rw [fdM,hd]
  refine ⟨?_,q⟩
  rw [s,ih]
  have key:eqG (zc z ((jS l l.length).getD l[j].A.toNat 0)) (zc z ((jS l l.length).getD l[j].B.toNat 0)) (zc z ((jS l l.length).getD j 0)) l[j]↔eqG (zc z (Ej l l[j].A.toNat)) (zc z (Ej l l[j].B.toNat)) (zc z (Ej l j)) l[j]:=by
   rw [Dm hj]
   by_cases h4:4<=l[j].Op
   ·have a:=g2 h4
    rw [Dm om]
    by_cases h7:l[j].Op<=7
    ·have b:=g3 h4 h7
     rw [Dm om]
    ·unfold eqG
     rw [a7 om,a7 om,a7 om,a7 om,a7 om,a7 om,a7 om,a7 om,a7 om,a7 om,a7 om,a7 om]
   ·unfold eqG
    by_cases h12:l[j].Op=1\/l[j].Op=2
    ·rw [aa h12,aa h12]
    ·have h3:l[j].Op=3:=by omega
     rw [a7 h12,a7 om,a7 om,a7 om,aa h3,a7 h12,a7 om,a7 om,a7 om,aa h3]
  rw [key]
  constructor
  ·rintro ⟨h1,h2⟩ i hi hlt
   by_cases e:i=j
   ·subst e;exact h2
   ·exact h1 i hi om
  ·intro h
   exact ⟨fun i hi hlt=>h i hi om,h j hj om⟩
end
end Go.AI.Fn
