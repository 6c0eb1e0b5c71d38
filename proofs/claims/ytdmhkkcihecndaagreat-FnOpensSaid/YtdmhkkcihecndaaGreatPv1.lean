/- Openings of right lengths: program and reference say alike, of all of them. -/
import Derived.Test.YtdmhkkcihecndaaGreatPv0
set_option linter.unusedVariables false
set_option linter.unusedSimpArgs false
namespace Go.AI.Fn
def To (n:Nat) (p:Nat→Bool):Bool:=(List.range n).all p
theorem pb {n:Nat} {p:Nat→Bool}:To n p=true↔ ∀j,j<n→p j=true:=by simp [To]
theorem Cb {n:Nat} {p:Nat→Bool} (h: ∀j,j<n→p j=true):To n p=true:=pb.2 h
theorem a97 {n:Nat} {p:Nat→Bool} {k:Nat} (hk:k<n) (h:p k=false):To n p=false:=by
 refine Bool.eq_false_iff.2 fun e=> ?_
 rw [pb.1 e k hk] at h;cases h
theorem Bw {E1 E2 R:Type} {step:Int→Option (Int⊕(E1⊕E2))} (n:Nat) (p:Nat→Bool) (e1:Nat→E1) {e2:E2} {f:E1→Option R} {g:E2→Option R} {x y:R} (hs: ∀k,k<n→p k=true→step (k:Int)=some (.inl ((k+1:Nat):Int)))
 (hx: ∀k,k<n→p k=false→step (k:Int)=some (.inr (.inl (e1 k)))) (he:step (n:Int)=some (.inr (.inr e2))) (hf: ∀e,f e=some x) (hg:g e2=some y):
 (Loop step 0).bind (alt f g)=some (if To n p=true then y else x):=by
 rcases wR (step:=step) (fun k=>(k:Int)) n p (fun k=> .inl (e1 k)) hs hx he with ⟨h1,h2⟩|⟨k,hk,h1,_,h2⟩
 ·have h2':Loop step 0=_:=h2
  rw [h2',if_pos (Cb h1),obs,ni,hg]
 ·have h2':Loop step 0=_:=h2
  rw [h2',if_neg (by rw [a97 hk h1];decide),obs,lB,hf]
theorem XI {b:Bool}:(if b=true then true else false)=b:=by cases b<;>rfl
def h32 (x:List UInt8):Bool:=decide (x.length=32)
theorem Ht {l:List (List UInt8)} (hl:l.length≤1099511627776):dA l=some (l.all h32):=by
 unfold dA aP aU
 rw [yU (step:=aN l ((l.length:Nat):Int)) (p:=fun x=> !h32 x) (f:=dL) hl (fun x _=>by unfold dL;rw [AY];rfl) (fun t=>rfl),obs,uV]
def Ar (size:Int) (g:List Ext):Bool:=decide ((g.length:Int)=size)&&g.all ru
def Je (R:List (List Ext)) (many size:Int):Bool:=decide ((R.length:Int)=many)&&R.all (Ar size)
theorem OO {α C:Type} {p:α→Bool} {f:α→C→Option (Bool×C)} {l:List α} {c:C} (hl:l.length≤1099511627776) (hf: ∀x∈l,f x c=some (p x,c)) {step:Int×C→Option ((Int×C)⊕((Int×C)⊕(Int×Bool×C)))}
 (hs: ∀t,step (t,c)=br (decide (t<((l.length:Nat):Int))) ((atL l t).bind fun x=>(f x c).bind fun r=>br r.1 (some (.inr (.inl (t,r.2)))) (some (.inl (IntKind.wrap .i64 (t+1),r.2)))) (some (.inr (.inr (t,decide (t<((l.length:Nat):Int)),c))))):
 ∃n:Int,Loop step (0,c)=some (if l.any p then .inl (n,c) else .inr (n,false,c))∧0≤n:=by
 have key:=wR (step:=step) (fun k=>((k:Int),c)) l.length (fun k=> !((l[k]?.map p).getD false)) (fun k=> .inl ((k:Int),c)) (e:= .inr ((l.length:Int),false,c)) (fun k hk hp=>by
  have hb:p l[k]=false:=by simpa [hk] using hp
  rw [hs,brd (by omega),bS hk,obs,hf _ (List.getElem_mem hk),obs,hb,ak,aa _ (by omega) (by omega)];rfl)
  (fun k hk hp=>by
   have hb:p l[k]=true:=by simpa [hk] using hp
   rw [hs,brd (by omega),bS hk,obs,hf _ (List.getElem_mem hk),obs,hb,aR])
  (by rw [hs,brn (by omega),decide_eq_false (by omega)])
 rcases key with ⟨h1,h2⟩|⟨k,hk,h1,_,h2⟩
 ·exact ⟨(l.length:Int),by rw [a1h (fun k hk=>by simpa [hk] using h1 k hk)];exact h2,by omega⟩
 ·exact ⟨(k:Int),by rw [LB hk (by simpa [hk] using h1)];exact h2,by omega⟩
theorem OK {R:List (List Ext)} {many size:Int} (hl:R.length≤1099511627776) (hR: ∀g∈R,g.length≤1099511627776):p8 R many size=some (Je R many size):=by
 unfold p8 Je
 by_cases h:(R.length:Int)=many
 ·rw [bre h,decide_eq_true h]
  obtain ⟨n,e,hn⟩:=OO (c:=size) (p:=fun g=> !Ar size g) (f:=kR) (l:=R) hl (fun x hx=>by
   unfold kR Ar
   by_cases h2:(x.length:Int)=size
   ·rw [fw h2,sj (hR x hx),obs,decide_eq_true h2];rfl
   ·rw [brb h2,decide_eq_false h2];rfl) (step:=bg R ((R.length:Nat):Int)) (fun t=>rfl)
  unfold bk bu
  rw [e, ←uV (Ar size)]
  cases (R.any fun g=> !Ar size g)
  ·rfl
  ·simp only [if_pos,obs,lB,decide_eq_true (show n≥0 from hn)];rfl
 ·rw [AL h,decide_eq_false h];rfl
def RN (vars:Int) (t:Setting) (q:aq) (j:Nat):Bool:=decide (((q.Paths.getD j []).length:Int)=vars+t.Rate-1-j)&&(q.Paths.getD j []).all h32
def Cq (vars:Int) (t:Setting) (q:aq):Bool:=decide ((q.Pairs.length:Int)=2*vars)&&(q.Pairs.all ru&&(decide ((q.Paths.length:Int)=vars)&&To vars.toNat (RN vars t q)))
def okO (o:aC) (vars:Int) (t:Setting):Bool:=decide (1≤vars∧vars≤6)&&(setB t&&(Je o.Rounds vars 3&&(decide ((o.Roots.length:Int)=vars-1)&&(o.Roots.all h32&&(ru o.Last&&(decide (0≤o.Nonce∧o.Nonce≤65535)&&(decide ((o.Queries.length:Int)=t.Queries)&&o.Queries.all (Cq vars t))))))))
structure SmO (o:aC):Prop where
 rn:o.Rounds.length≤1099511627776
 rr: ∀g∈o.Rounds,g.length≤1099511627776
 ro:o.Roots.length≤1099511627776
 qn:o.Queries.length≤1099511627776
 qp: ∀q∈o.Queries,q.Pairs.length≤1099511627776
 qt: ∀q∈o.Queries, ∀p∈q.Paths,p.length≤1099511627776
theorem EI {l:List (List (List UInt8))} {j:Nat} (h:j<l.length):atL l (j:Int)=some (l.getD j []):=by rw [bS h];simp [h]
theorem Sb {l:List (List (List UInt8))} {j:Nat} (h:j<l.length):l.getD j []∈l:=by simp [h]
theorem SP {q:aq} {vars:Int} {t:Setting} (hv:1≤vars∧vars≤6) (ht:setB t=true) (hp:q.Pairs.length≤1099511627776) (hq: ∀p∈q.Paths,p.length≤1099511627776):rV q vars t=some (Cq vars t q):=by
 have h2:=n9 ht
 unfold rV Cq
 rw [aa _ (by omega) (by omega)]
 by_cases c1:(q.Pairs.length:Int)=2*vars
 ·rw [fw c1,decide_eq_true c1,sj hp,obs]
  cases hb:q.Pairs.all ru
  ·rfl
  ·rw [Bool.not_true,ak]
   by_cases c2:(q.Paths.length:Int)=vars
   ·rw [fw c2,decide_eq_true c2]
    have hn:vars.toNat=q.Paths.length:=by omega
    have key:=Bw (step:=ge vars q.Paths ((q.Paths.length:Nat):Int) q.Pairs q.Paths t.Rate t.Queries t.Grind) vars.toNat (RN vars t q) (fun _=>()) (e2:=((vars.toNat:Int),false)) (f:=fun _=>some false) (g:=fun _=>some true) (x:=false) (y:=true) (fun k hk hp=>by
     have hm:=hq _ (Sb (l:=q.Paths) (j:=k) (by omega))
     simp only [RN,Bool.and_eq_true,decide_eq_true_eq] at hp
     simp only [ge]
     rw [brd (by omega),EI (by omega),obs,aa (vars+t.Rate) (by omega) (by omega),aa (vars+t.Rate-1) (by omega) (by omega),aa (vars+t.Rate-1-k) (by omega) (by omega),fw hp.1,Ht hm,obs,hp.2,Bool.not_true,ak,aa _ (by omega) (by omega)];rfl) (fun k hk hp=>by
     have hm:=hq _ (Sb (l:=q.Paths) (j:=k) (by omega))
     simp only [ge]
     rw [brd (by omega),EI (by omega),obs,aa (vars+t.Rate) (by omega) (by omega),aa (vars+t.Rate-1) (by omega) (by omega),aa (vars+t.Rate-1-k) (by omega) (by omega)]
     by_cases c3:((q.Paths.getD k []).length:Int)=vars+t.Rate-1-k
     ·rw [fw c3,Ht hm,obs]
      rw [RN,decide_eq_true c3,Bool.true_and] at hp
      rw [hp];rfl
     ·rw [brb c3]) (by
     simp only [ge]
     rw [brn (by omega),decide_eq_false (by omega)]) (fun _=>rfl) rfl
    rw [XI] at key
    rw [key];rfl
   ·rw [brb c2,decide_eq_false c2];rfl
 ·rw [brb c1,decide_eq_false c1];rfl
theorem Ai {o:aC} {vars:Int} {t:Setting} (S:SmO o):mr o vars t=some (okO o vars t):=by
 unfold mr okO
 rw [oh,obs]
 by_cases hv:1≤vars∧vars≤6
 ·rw [decide_eq_true hv,decide_eq_true hv.1,decide_eq_true hv.2,Bool.and_self,aR,mN,obs,Bool.true_and]
  cases ht:setB t
  ·rfl
  ·rw [aR,OK S.rn S.rr,obs,Bool.true_and]
   cases hr:Je o.Rounds vars 3
   ·rfl
   ·rw [aR,aa _ (by omega) (by omega),Bool.true_and]
    by_cases c1:(o.Roots.length:Int)=vars-1
    ·rw [bre c1,decide_eq_true c1,Ht S.ro,obs,Bool.true_and]
     cases hh:o.Roots.all h32
     ·rfl
     ·rw [aR,ti,obs,Bool.true_and]
      cases hl:ru o.Last
      ·rfl
      ·rw [aR,oh,obs,Bool.true_and]
       by_cases c2:0≤o.Nonce∧o.Nonce≤65535
       ·rw [decide_eq_true c2,decide_eq_true c2.1,decide_eq_true c2.2,Bool.and_self,aR,Bool.true_and]
        by_cases c3:(o.Queries.length:Int)=t.Queries
        ·rw [bre c3,decide_eq_true c3,Bool.true_and]
         obtain ⟨n,e,hn⟩:=OO (c:=(vars,t.Rate,t.Queries,t.Grind)) (p:=fun q=> !Cq vars t q) (f:=fun x c=>(bM x c.1 ⟨c.2.1,c.2.2.1,c.2.2.2⟩).bind fun r=>some (r.1,r.2.1,r.2.2.Rate,r.2.2.Queries,r.2.2.Grind)) (l:=o.Queries) S.qn (fun x hx=>by
          unfold bM oL
          show ((((rV x vars t).bind _).bind _).bind _)=_
          rw [SP hv ht (S.qp x hx) (S.qt x hx)];rfl) (step:=aA o.Queries ((o.Queries.length:Nat):Int)) (fun z=>by
          show aA _ _ (z,vars,t.Rate,t.Queries,t.Grind)=_
          simp only [aA]
          congr 1
          cases atL o.Queries z with
          |none=>rfl
          |some x=>
           simp only [obs]
           cases bM x vars ⟨t.Rate,t.Queries,t.Grind⟩<;>rfl)
         unfold dJ aJ aK
         rw [e, ←uV (Cq vars t)]
         cases (o.Queries.any fun q=> !Cq vars t q)
         ·rfl
         ·simp only [if_pos,obs,lB,decide_eq_true (show n≥0 from hn)]
        ·rw [AL c3,decide_eq_false c3];rfl
       ·rw [decide_eq_false c2]
        have:(decide (0≤o.Nonce)&&decide (o.Nonce≤65535))=false:=by
         rw [←Bool.decide_and];exact decide_eq_false c2
        rw [this];rfl
    ·rw [AL c1,decide_eq_false c1];rfl
 ·rw [decide_eq_false hv]
  have:(decide (1≤vars)&&decide (vars≤6))=false:=by
   rw [←Bool.decide_and];exact decide_eq_false hv
  rw [this];rfl
end Go.AI.Fn
set_option linter.unusedVariables false
set_option linter.unusedSimpArgs false
namespace Go.AI.Fn
theorem C8 {α:Type} (l:List α) (d:α) (P:α→Bool):To l.length (fun k=>P (l.getD k d))=l.all P:=by
 refine Bool.eq_iff_iff.2 ⟨fun h=>List.all_eq_true.2 fun x hx=> ?_,fun h=>Cb fun k hk=> ?_⟩
 ·obtain ⟨k,hk,rfl⟩:=List.getElem_of_mem hx
  have:=pb.1 h k hk
  simpa [hk] using this
 ·have:=List.all_eq_true.1 h _ (List.getElem_mem hk)
  simpa [hk] using this
theorem og {α:Type} {l:List α} {d:α} {j:Nat} (h:j<l.length):atL l (j:Int)=some (l.getD j d):=by rw [bS h];simp [h]
theorem My {a t9:Int} {c30:List (List Ext)} {c31:List (List UInt8)} {c32 c33 c34:Int} {c35:List aq} {c36 c37 c38:Int} {c39:List Ext} {C:List (List (List UInt8))} {j:Nat} (hj:j<C.length) (hl:(C.getD j []).length≤1099511627776) {R:Type} {x y:R}:
 (Loop (ep a t9 (j:Int) c30 c31 c32 c33 c34 c35 c36 c37 c38 c39 C) 0).bind (alt (fun _=>some x) (fun _=>some y))=some (if (C.getD j []).all h32=true then y else x):=by
 rw [←C8 (C.getD j []) [] h32]
 refine Bw (C.getD j []).length _ (fun _=>()) (fun k hk hp=> ?_) (fun k hk hp=> ?_) (e2:=(((C.getD j []).length:Int),false)) ?_ (fun _=>rfl) rfl
 ·simp only [ep]
  simp only [h32,decide_eq_true_eq] at hp
  rw [EI hj,obs,brd (by omega),obs,og (d:=[]) hk,obs,fw (by omega),aa _ (by omega) (by omega)];rfl
 ·simp only [ep]
  simp only [h32,decide_eq_false_iff_not] at hp
  rw [EI hj,obs,brd (by omega),obs,og (d:=[]) hk,obs,brb (by omega)]
 ·simp only [ep]
  rw [EI hj,obs,brn (by omega),decide_eq_false (by omega)]
theorem Lz {vars:Int} {t:Setting} {q:aq} {t6:Int} {c19:List (List Ext)} {c20:List (List UInt8)} {c21 c22 c23:Int} {c24:List aq} {c26 c27:Int} {c28:List Ext} (hv:1≤vars∧vars≤6) (ht:setB t=true) (hq:(q.Paths.length:Int)=vars) (hl: ∀p∈q.Paths,p.length≤1099511627776) {R:Type} {x y:R}:
 (Loop (eF vars t6 c19 c20 c21 c22 c23 c24 t.Rate c26 c27 c28 q.Paths) 0).bind (alt (fun _=>some x) (fun _=>some y))=some (if To vars.toNat (RN vars t q)=true then y else x):=by
 have h2:=n9 ht
 refine Bw vars.toNat _ (fun _=>()) (fun k hk hp=> ?_) (fun k hk hp=> ?_) (e2:=((vars.toNat:Int),false)) ?_ (fun _=>rfl) rfl
 ·have hm:=hl _ (Sb (l:=q.Paths) (j:=k) (by omega))
  simp only [RN,Bool.and_eq_true,decide_eq_true_eq] at hp
  simp only [eF]
  rw [brd (by omega),EI (by omega),obs,aa (vars+t.Rate) (by omega) (by omega),aa (vars+t.Rate-1) (by omega) (by omega),aa (vars+t.Rate-1-k) (by omega) (by omega),fw hp.1,My (by omega) hm,if_pos hp.2,aa _ (by omega) (by omega)];rfl
 ·have hm:=hl _ (Sb (l:=q.Paths) (j:=k) (by omega))
  simp only [eF]
  rw [brd (by omega),EI (by omega),obs,aa (vars+t.Rate) (by omega) (by omega),aa (vars+t.Rate-1) (by omega) (by omega),aa (vars+t.Rate-1-k) (by omega) (by omega)]
  by_cases c3:((q.Paths.getD k []).length:Int)=vars+t.Rate-1-k
  ·rw [RN,decide_eq_true c3,Bool.true_and] at hp
   rw [fw c3,My (by omega) hm,if_neg (by rw [hp];decide)]
  ·rw [brb c3]
 ·simp only [eF]
  rw [brn (by omega),decide_eq_false (by omega)]
theorem Uc {vars:Int} {t:Setting} {o:aC} {c14 c12 c13:Int} {c10:List (List Ext)} {c11:List (List UInt8)} {c17 c18:Int} (S:SmO o) (hv:1≤vars∧vars≤6) (ht:setB t=true) {R:Type} {x y:R}:
 (Loop (dF vars c10 c11 c12 c13 c14 o.Queries t.Rate c17 c18) 0).bind (alt (fun _=>some x) (fun _=>some y))=some (if o.Queries.all (Cq vars t)=true then y else x):=by
 rw [←C8 o.Queries ⟨[],[]⟩ (Cq vars t)]
 have hQ: ∀k,k<o.Queries.length→o.Queries.getD k ⟨[],[]⟩∈o.Queries:=fun k hk=>by simp [hk]
 have hqn:=S.qn
 refine Bw o.Queries.length _ (fun k=>((o.Queries.getD k ⟨[],[]⟩).Pairs,(o.Queries.getD k ⟨[],[]⟩).Paths)) (fun k hk hp=> ?_) (fun k hk hp=> ?_) (e2:=((o.Queries.length:Int),false)) ?_ (fun _=>rfl) rfl
 ·have hm:=hQ k hk
  simp only [Cq,Bool.and_eq_true,decide_eq_true_eq] at hp
  simp only [dF]
  rw [brd (by omega),og (d:=⟨[],[]⟩) hk,obs,aa (2*vars) (by omega) (by omega),fw hp.1,jO (S.qp _ hm),obs,hp.2.1,Bool.not_true,ak,fw hp.2.2.1,Lz hv ht hp.2.2.1 (S.qt _ hm),if_pos hp.2.2.2,aa _ (by omega) (by omega)];rfl
 ·have hm:=hQ k hk
  simp only [dF]
  rw [brd (by omega),og (d:=⟨[],[]⟩) hk,obs,aa (2*vars) (by omega) (by omega)]
  rw [Cq] at hp
  by_cases c1:((o.Queries.getD k ⟨[],[]⟩).Pairs.length:Int)=2*vars
  ·rw [fw c1,jO (S.qp _ hm),obs]
   rw [decide_eq_true c1,Bool.true_and] at hp
   cases hb:(o.Queries.getD k ⟨[],[]⟩).Pairs.all ru
   ·rfl
   ·rw [Bool.not_true,ak]
    rw [hb,Bool.true_and] at hp
    by_cases c2:((o.Queries.getD k ⟨[],[]⟩).Paths.length:Int)=vars
    ·rw [decide_eq_true c2,Bool.true_and] at hp
     rw [fw c2,Lz hv ht c2 (S.qt _ hm),if_neg (by rw [hp];decide)]
    ·rw [brb c2]
  ·rw [brb c1]
 ·simp only [dF]
  rw [brn (by omega),decide_eq_false (by omega)]
theorem Ot {o:aC} {vars:Int} {t:Setting} (S:SmO o):pq o vars t=some (okO o vars t):=by
 unfold pq okO
 rw [z8,obs]
 by_cases hv:1≤vars∧vars≤6
 ·rw [decide_eq_true hv,decide_eq_true hv.1,decide_eq_true hv.2,Bool.and_self,Bool.not_true,ak,tg,obs,Bool.true_and]
  cases ht:setB t
  ·rfl
  ·rw [Bool.not_true,ak,aa _ (by omega) (by omega),Bool.true_and,Je]
   by_cases c0:(o.Rounds.length:Int)=vars
   ·rw [fw c0,decide_eq_true c0,Bool.true_and]
    by_cases c1:(o.Roots.length:Int)=vars-1
    ·rw [fw c1,decide_eq_true c1,Bool.true_and]
     by_cases c3:(o.Queries.length:Int)=t.Queries
     ·rw [fw c3,decide_eq_true c3,Bool.true_and,EG,obs]
      cases hl:ru o.Last
      ·rw [Bool.not_false,aR];cases o.Rounds.all (Ar 3)<;>cases o.Roots.all h32<;>rfl
      ·rw [Bool.not_true,ak,z8,obs,Bool.true_and]
       by_cases c2:0≤o.Nonce∧o.Nonce≤65535
       ·rw [decide_eq_true c2,decide_eq_true c2.1,decide_eq_true c2.2,Bool.and_self,Bool.not_true,ak,Bool.true_and]
        have key:=Bw (step:=er vars o.Rounds o.Roots o.Last.A o.Last.B o.Nonce o.Queries t.Rate t.Queries t.Grind) vars.toNat (fun i=>Ar 3 (o.Rounds.getD i [])&&(decide (i=0)||h32 (o.Roots.getD (i-1) []))) (fun _=>()) (e2:=((vars.toNat:Int),false)) (f:=fun _=>some false)
         (g:=fun _=>(Loop (dF vars o.Rounds o.Roots o.Last.A o.Last.B o.Nonce o.Queries t.Rate t.Queries t.Grind) 0).bind (alt (fun e_11=>some false) (fun e_12=>some true))) (x:=false) (y:=o.Queries.all (Cq vars t)) (fun k hk hp=>by
         simp only [Bool.and_eq_true,Bool.or_eq_true,Ar,h32,decide_eq_true_eq] at hp
         have hm:=S.rr _ (show o.Rounds.getD k []∈o.Rounds by simp [show k<o.Rounds.length by omega])
         simp only [er]
         rw [brd (by omega),og (d:=[]) (by omega),obs,fw hp.1.1,obs,jO hm,obs,hp.1.2,Bool.not_true,ak,aa ((k:Int)+1) (by omega) (by omega)]
         by_cases h0:k=0
         ·rw [brn (by omega)];rfl
         ·rw [brd (by omega),aa _ (by omega) (by omega),show (k:Int)-1=((k-1:Nat):Int) by omega,og (d:=[]) (by omega),obs,fw (by have:=hp.2.resolve_left h0;omega)];rfl) (fun k hk hp=>by
         have hm:=S.rr _ (show o.Rounds.getD k []∈o.Rounds by simp [show k<o.Rounds.length by omega])
         simp only [er]
         rw [brd (by omega),og (d:=[]) (by omega),obs]
         by_cases c4:((o.Rounds.getD k []).length:Int)=3
         ·rw [fw c4,obs,jO hm,obs]
          cases hb:(o.Rounds.getD k []).all ru
          ·rfl
          ·rw [Ar,decide_eq_true c4,hb,Bool.true_and,Bool.true_and,Bool.or_eq_false_iff,decide_eq_false_iff_not,h32,decide_eq_false_iff_not] at hp
           rw [Bool.not_true,ak,brd (by omega),aa _ (by omega) (by omega),show (k:Int)-1=((k-1:Nat):Int) by omega,og (d:=[]) (by omega),obs,brb (by omega)]
         ·rw [brb c4]) (by
         simp only [er]
         rw [brn (by omega),decide_eq_false (by omega)]) (fun _=>rfl) (by rw [Uc S hv ht,XI])
        rw [key]
        have hall:To vars.toNat (fun i=>Ar 3 (o.Rounds.getD i [])&&(decide (i=0)||h32 (o.Roots.getD (i-1) [])))=(o.Rounds.all (Ar 3)&&o.Roots.all h32):=by
         rw [←C8 o.Rounds [], ←C8 o.Roots []]
         refine Bool.eq_iff_iff.2 ⟨fun h=> ?_,fun h=> ?_⟩
         ·rw [Bool.and_eq_true]
          refine ⟨Cb fun k hk=> ?_,Cb fun k hk=> ?_⟩
          ·have:=pb.1 h k (by omega)
           simp only [Bool.and_eq_true] at this;exact this.1
          ·have:=pb.1 h (k+1) (by omega)
           simpa using (Bool.and_eq_true _ _▸this).2
         ·rw [Bool.and_eq_true] at h
          refine Cb fun k hk=> ?_
          rw [Bool.and_eq_true]
          refine ⟨pb.1 h.1 k (by omega), ?_⟩
          by_cases h0:k=0
          ·simp [h0]
          ·have:=pb.1 h.2 (k-1) (by omega)
           simp only [Bool.or_eq_true];exact .inr this
        rw [hall]
        cases o.Rounds.all (Ar 3)<;>cases o.Roots.all h32<;>simp
       ·have:(decide (0≤o.Nonce)&&decide (o.Nonce≤65535))=false:=by
         rw [←Bool.decide_and];exact decide_eq_false c2
        rw [decide_eq_false c2,this,Bool.not_false,aR]
        cases o.Rounds.all (Ar 3)<;>cases o.Roots.all h32<;>rfl
     ·rw [brb c3,decide_eq_false c3]
      cases o.Rounds.all (Ar 3)<;>cases o.Roots.all h32<;>cases ru o.Last<;>cases decide (0≤o.Nonce∧o.Nonce≤65535)<;>rfl
    ·rw [brb c1,decide_eq_false c1];cases o.Rounds.all (Ar 3)<;>rfl
   ·rw [brb c0,decide_eq_false c0];rfl
 ·rw [decide_eq_false hv]
  have:(decide (1≤vars)&&decide (vars≤6))=false:=by
   rw [←Bool.decide_and];exact decide_eq_false hv
  rw [this];rfl
end Go.AI.Fn
set_option linter.unusedVariables false
set_option linter.unusedSimpArgs false
namespace Go.AI.Fn
def wdK:Nat→List K→List K→List K
 |_,W,[]=>W
 |m,W,r::P=>wdK (m-1) (fwK (m-1) W r) P
def px:Nat→List K→List K→List (List K)
 |_,_,[]=>[]
 |m,W,r::P=>W::px (m-1) (fwK (m-1) W r) P
def pJ:Nat→List K→List K→List (List UInt8)
 |_,_,[]=>[]
 |m,W,r::P=>(if P.length=0 then [] else [wrK (m-2) (fwK (m-1) W r)])++pJ (m-1) (fwK (m-1) W r) P
theorem xn: ∀(P:List K) (m:Nat) (W:List K),(px m W P).length=P.length
 |[],_,_=>rfl
 |r::P,m,W=>by rw [px,List.length_cons,xn P,List.length_cons]
theorem XW: ∀(P:List K) (m:Nat) (W:List K),(pJ m W P).length=P.length-1
 |[],_,_=>rfl
 |r::P,m,W=>by
  rw [pJ,List.length_append,XW P,List.length_cons]
  split
  ·rw [List.length_nil];omega
  ·rw [List.length_singleton];omega
theorem a6L: ∀(P:List K) (m:Nat) (W:List K),Hs (pJ m W P)
 |[],_,_=>fun x hx=>by simp [pJ] at hx
 |r::P,m,W=>fun x hx=>by
  rw [pJ,List.mem_append] at hx
  rcases hx with hx|hx
  ·split at hx
   ·cases hx
   ·rw [List.mem_singleton] at hx;subst hx;exact ER _ _
  ·exact a6L P _ _ x hx
def bhO (v ρ:Nat) (W P:List K) (s:Source):Source:=if P.length<v then tkM s (wrK (v+ρ-P.length-1) (wdK (v+ρ) W P)) else s
theorem YF (v ρ:Nat) (W:List K):b0m (bhO v ρ W):=fun P s k h hk=>by
 unfold bhO;split
 ·exact h.take _
 ·exact h.mono (by omega)
theorem JB {ρ:Nat} {bh:List K→Source→Source} (hb:b0m bh) (hρ:ρ≤3) {l3:List aq} {c c2 c3 c8 c9 c10 c11 c13 c14 c15 c16:Int} {c12:List UInt8}: ∀(v:Nat) (Q:List K) (T:List (List K)) (W:List K) (s:Source) (k:Int) (R:List (List Ext)) (Rt:List (List UInt8)) (Ws:List (List Ext)),
 OkT 1 (2^v) T→W.length=2^(v+ρ)→Few s k→k+3*v≤1000→v≤6→R.length+v≤1000→Rt.length+v≤1000→Ws.length+v≤1000→
 (∀(P':List K) (s':Source),P'≠[]→P'.length≤v→bh (Q++P') s'=if P'.length<v then tkM s' (wrK (v+ρ-P'.length-1) (wdK (v+ρ) W P')) else s')→
 Loop (iP l3 c c2 c3 c8 c9 c10 c11 c12 c13 c14 c15 c16) (R,Rt,Ws,kvv T,kv W,s.Script,s.At,s.State,s.Count)=
  some (R++kvv (pvM 1 bh v Q T s).1,Rt++pJ (v+ρ) W (pvM 1 bh v Q T s).2.1,Ws++kvv (px (v+ρ) W (pvM 1 bh v Q T s).2.1),kvv (pvM 1 bh v Q T s).2.2.1,kv (wdK (v+ρ) W (pvM 1 bh v Q T s).2.1),false,
   (pvM 1 bh v Q T s).2.2.2.Script,(pvM 1 bh v Q T s).2.2.2.At,(pvM 1 bh v Q T s).2.2.2.State,(pvM 1 bh v Q T s).2.2.2.Count)
 |0,Q,T,W,s,k,R,Rt,Ws,hT,hW,hf,hk,hv,h1,h2,h3,hbh=>by
  have hl:=hT.len
  refine cx ?_
  simp only [iP]
  rw [Yv (by omega),obs,am,hT.tab 0 (by omega),brn (by decide),decide_eq_false (by decide)]
  simp [pvM,kvv,pJ,px,wdK]
 |v+1,Q,T,W,s,k,R,Rt,Ws,hT,hW,hf,hk,hv,h1,h2,h3,hbh=>by
  have hl:=hT.len
  have hp:=Zn v (by omega)
  have hT2:=hT
  rw [ol] at hT2
  have hm:v+1+ρ-1=v+ρ:=by omega
  have hW2:W.length=2^(v+ρ+1):=by rw [hW];congr 1;omega
  have hb1:=hbh [rdM s (rdK 1 T (2^v))] (nsM s (rdK 1 T (2^v))) (by simp) (by simp)
  simp only [wdK,List.length_singleton,hm] at hb1
  have hin: ∀(P':List K) (s':Source),P'≠[]→P'.length≤v→bh (Q++[rdM s (rdK 1 T (2^v))]++P') s'=if P'.length<v then tkM s' (wrK (v+ρ-P'.length-1) (wdK (v+ρ) (fwK (v+ρ) W (rdM s (rdK 1 T (2^v)))) P')) else s':=fun P' s' hne hle=>by
   have:=hbh (rdM s (rdK 1 T (2^v))::P') s' (by simp) (by rw [List.length_cons];omega)
   rw [List.append_assoc,List.singleton_append,this,List.length_cons,wdK,hm,show v+1+ρ-(P'.length+1)-1=v+ρ-P'.length-1 by omega]
   by_cases hc:P'.length<v
   ·rw [if_pos hc,if_pos (by omega)]
   ·rw [if_neg hc,if_neg (by omega)]
  have ih:=JB hb hρ (l3:=l3) (c:=c) (c2:=c2) (c3:=c3) (c8:=c8) (c9:=c9) (c10:=c10) (c11:=c11) (c12:=c12) (c13:=c13) (c14:=c14) (c15:=c15) (c16:=c16) v (Q++[rdM s (rdK 1 T (2^v))]) (bdK (rdM s (rdK 1 T (2^v))) T) (fwK (v+ρ) W (rdM s (rdK 1 T (2^v)))) (bh (Q++[rdM s (rdK 1 T (2^v))]) (nsM s (rdK 1 T (2^v)))) (k+2+1)
   (R++[kv (rdK 1 T (2^v))]) (Rt++if v=0 then [] else [wrK (v+ρ-1) (fwK (v+ρ) W (rdM s (rdK 1 T (2^v))))]) (Ws++[kv W]) (hT.up _) (u2 _ _ _) (hb _ _ _ (yP hf (by omega) _) (by omega)) (by omega) (by omega) (by rw [List.length_append,List.length_singleton];omega)
   (by rw [List.length_append];split<;>simp only [List.length_nil,List.length_singleton]<;>omega) (by rw [List.length_append,List.length_singleton];omega) hin
  have hpl:=(Iv (kind:=1) (bh:=bh) v (Q++[rdM s (rdK 1 T (2^v))]) (bdK (rdM s (rdK 1 T (2^v))) T) (bh (Q++[rdM s (rdK 1 T (2^v))]) (nsM s (rdK 1 T (2^v))))).2
  rw [ck (s':=(R++[kv (rdK 1 T (2^v))],(Rt++if v=0 then [] else [wrK (v+ρ-1) (fwK (v+ρ) W (rdM s (rdK 1 T (2^v))))]),Ws++[kv W],kvv (bdK (rdM s (rdK 1 T (2^v))) T),kv (fwK (v+ρ) W (rdM s (rdK 1 T (2^v)))),(bh (Q++[rdM s (rdK 1 T (2^v))]) (nsM s (rdK 1 T (2^v)))).Script,(bh (Q++[rdM s (rdK 1 T (2^v))]) (nsM s (rdK 1 T (2^v)))).At,(bh (Q++[rdM s (rdK 1 T (2^v))]) (nsM s (rdK 1 T (2^v)))).State,(bh (Q++[rdM s (rdK 1 T (2^v))]) (nsM s (rdK 1 T (2^v)))).Count)) ?_]
  ·rw [ih]
   simp only [pvM,pJ,px,wdK,hm,hpl,kvv,List.map_cons,List.append_assoc,List.singleton_append,show v+1+ρ-2=v+ρ-1 by omega]
  ·have hr1:nM 1 (kvv T)=some (kv (rdK 1 T (2^v))):=YE hT2 (by omega)
   simp only [iP]
   rw [Yv (by omega),obs,am,hT.tab 0 (by omega),ol,brd (by omega),al (by rw [List.length_append,List.length_singleton];omega),hr1,obs,show Source.mk s.Script s.At s.State s.Count=s from rfl,TT hf.1 (by rw [BX];omega),obs,b2q hf,obs]
   dsimp only
   rw [RH hT2 (by omega),obs,a05 _ (by omega) hW2,obs,al (by rw [List.length_append,List.length_singleton];omega),Yv (by simp [bdK];omega),obs,am,(hT.up _).tab 0 (by simp [bdK];omega)]
   cases v with
   |zero=>
    rw [brn (by decide)]
    rw [if_neg (by omega)] at hb1
    rw [hb1];simp
   |succ u=>
    have hp2:=Zn u (by omega)
    rw [if_pos (by omega)] at hb1
    rw [brd (by rw [ol];omega),AN (k:=u+ρ) (by omega) (by rw [u2];congr 1;omega),obs,Ng _ _ (by omega),obs,ml (yP hf (by omega) (rdK 1 T (2^(u+1)))).1.3 (by rw [ER];omega),obs,al (by rw [List.length_append,List.length_singleton];omega),hb1,if_neg (by omega),show u+1+ρ-1=u+ρ by omega]
end Go.AI.Fn
set_option linter.unusedVariables false
set_option linter.unusedSimpArgs false
namespace Go.AI.Fn
def prK:Nat→List (List K)→Nat→List K
 |_,[],_=>[]
 |m,W::Ws,k=>W.getD (k%2^(m-1)) 0::W.getD (k%2^(m-1)+2^(m-1)) 0::prK (m-1) Ws (k%2^(m-1))
def ptK:Nat→List (List K)→Nat→List (List (List UInt8))
 |_,[],_=>[]
 |m,W::Ws,k=>gP ((lvK (m-1) W).map hL) (m-1) (k%2^(m-1))::ptK (m-1) Ws (k%2^(m-1))
def Pt:Nat→List (List K)→Prop
 |_,[]=>True
 |m,W::Ws=>W.length=2^m∧1≤m∧Pt (m-1) Ws
def a0y:Nat→List (List K)→Nat→Nat
 |_,[],k=>k
 |m,_::Ws,k=>a0y (m-1) Ws (k%2^(m-1))
theorem Lc: ∀(P:List K) (m:Nat) (W:List K),W.length=2^m→P.length≤m→Pt m (px m W P)
 |[],_,_,_,_=>trivial
 |r::P,m,W,h,hm=>by
  rw [List.length_cons] at hm
  exact ⟨h,by omega,Lc P (m-1) _ (u2 _ _ _) (by omega)⟩
theorem FC {l9:List (List Ext)} {l10:List (List UInt8)} {l11:List aq} {t5:List Int} {t6 c37 c38 c39 c41 c43 c44 c45 c46 c47 c49 c50 c51 c52 c54 c56:Int} {c40 c53:List Ext} {c42 c48 c55:List UInt8}: ∀(Ws pre:List (List K)) (m:Nat) (k:Nat) (A:List Ext) (B:List (List (List UInt8))),
 Pt m Ws→m≤9→pre.length+Ws.length≤100→A.length+2*Ws.length≤1000→B.length+Ws.length≤1000→k≤1000000→
 Loop (iS l9 l10 l11 (kvv (pre++Ws)) t5 t6 c37 c38 c39 c40 c41 c42 c43 c44 c45 c46 c47 c48 c49 c50 c51 c52 c53 c54 c55 c56) (A,B,(k:Int),(pre.length:Int))=
  some (A++kv (prK m Ws k),B++ptK m Ws k,(a0y m Ws k:Int),((pre++Ws).length:Int),false)
 |[],pre,m,k,A,B,h,hm,h1,h2,h3,hk=>by
  refine cx ?_
  simp only [iS,gE]
  rw [brn (by simp),decide_eq_false (by simp)]
  simp [prK,ptK,a0y,kv]
 |W::Ws,pre,m,k,A,B,h,hm,h1,h2,h3,hk=>by
  obtain ⟨hW,hm1,hws⟩:=h
  rw [List.length_cons] at h1 h2 h3
  obtain ⟨q,rfl⟩: ∃q,m=q+1:=⟨m-1,by omega⟩
  have hp:=p7 (q+1) hm
  have hs:2^(q+1)=2*2^q:=by rw [Nat.pow_succ];omega
  have hh:=B3 q hm
  have hq:k%2^q<2^q:=Nat.mod_lt _ (by omega)
  have hlt:(pre.length:Int)<((pre++W::Ws).length:Int):=by rw [List.length_append,List.length_cons];omega
  have hget:(kvv (pre++W::Ws))[pre.length]? =some (kv W):=by simp [kvv]
  have hmod:(k:Int).tmod ((2^q:Nat):Int)=((k%2^q:Nat):Int):=by rw [bq _ _ (by omega)];omega
  have ih:=FC (l9:=l9) (l10:=l10) (l11:=l11) (t5:=t5) (t6:=t6) (c37:=c37) (c38:=c38) (c39:=c39) (c40:=c40) (c41:=c41) (c42:=c42) (c43:=c43) (c44:=c44) (c45:=c45) (c46:=c46) (c47:=c47) (c48:=c48) (c49:=c49) (c50:=c50) (c51:=c51) (c52:=c52) (c53:=c53) (c54:=c54) (c55:=c55) (c56:=c56)
   Ws (pre++[W]) q (k%2^q) (A++[(W.getD (k%2^q) 0).1,(W.getD (k%2^q+2^q) 0).1]) (B++[gP ((lvK q W).map hL) q (k%2^q)]) hws (by omega) (by rw [List.length_append,List.length_singleton];omega)
   (by rw [List.length_append];simp only [List.length_cons,List.length_nil];omega) (by rw [List.length_append,List.length_singleton];omega) (by omega)
  rw [List.append_assoc,List.singleton_append,List.length_append,List.length_singleton] at ih
  rw [ck (s':=(A++[(W.getD (k%2^q) 0).1,(W.getD (k%2^q+2^q) 0).1],B++[gP ((lvK q W).map hL) q (k%2^q)],((k%2^q:Nat):Int),((pre.length+1:Nat):Int))) ?_]
  ·rw [ih]
   simp [prK,ptK,a0y,kv]
  ·simp only [iS,gE,Int.toNat_natCast]
   rw [brd hlt,brd (by omega),brd (by omega),hget,obs,am,hW,hh,hmod,brd (by omega),brd (by omega),brd (by omega),obs,dQ (by omega),obs,brd (by omega),brd (by omega),obs,aa (((k%2^q:Nat):Int)+_) (by omega) (by omega),show ((k%2^q:Nat):Int)+((2^q:Nat):Int)=((k%2^q+2^q:Nat):Int) by omega,dQ (by omega),obs,
    al (by rw [List.length_append];simp only [List.length_cons,List.length_nil];omega),brd (by omega),brd (by omega),obs,AN hm hW,obs,JC (Ik q W) (rN q W) (by omega),obs,a3n (by rw [List.length_map,rN]) (by omega) hq,obs,al (by rw [List.length_append,List.length_singleton];omega),aa _ (by omega) (by omega)];rfl
def qsM (m:Nat) (Ws:List (List K)) (p:Int):aq:=⟨kv (prK m Ws p.toNat),ptK m Ws p.toNat⟩
theorem O7 {l5:List (List Ext)} {l6:List (List UInt8)} {c17 c18 c19 c21 c23 c24 c25 c26 c27 c29 c30 c31 c32 c34 c36:Int} {c20 c33:List Ext} {c22 c28 c35:List UInt8} {Ws:List (List K)} {m:Nat} {pl:List Int} (h:Pt m Ws) (hm:m≤9) (hl:Ws.length≤100) (hp:pl.length≤1000) (hr: ∀x∈pl,0≤x∧x≤1000000):
 Loop (gt l5 l6 (kvv Ws) pl c17 c18 c19 c20 c21 c22 c23 c24 c25 c26 c27 c28 c29 c30 c31 c32 c33 c34 c35 c36) ([],0)=some (pl.map (qsM m Ws),(pl.length:Int),false):=by
 refine an (step:=gt l5 l6 (kvv Ws) pl c17 c18 c19 c20 c21 c22 c23 c24 c25 c26 c27 c28 c29 c30 c31 c32 c33 c34 c35 c36) (fun j=>((pl.take j).map (qsM m Ws),(j:Int))) pl.length (fun j hj=> ?_) ?_
 ·have hx:=hr _ (List.getElem_mem hj)
  have hq:=FC (l9:=l5) (l10:=l6) (l11:=(pl.take j).map (qsM m Ws)) (t5:=pl) (t6:=(j:Int)) (c37:=c17) (c38:=c18) (c39:=c19) (c40:=c20) (c41:=c21) (c42:=c22) (c43:=c23) (c44:=c24) (c45:=c25) (c46:=c26) (c47:=c27) (c48:=c28) (c49:=c29) (c50:=c30) (c51:=c31) (c52:=c32) (c53:=c33) (c54:=c34) (c55:=c35) (c56:=c36)
   Ws [] m (pl[j].toNat) [] [] h hm (by rw [List.length_nil];omega) (by rw [List.length_nil];omega) (by rw [List.length_nil];omega) (by omega)
  rw [List.nil_append,Int.toNat_of_nonneg hx.1,List.length_nil] at hq
  simp only [gt]
  rw [brd (by omega),bS hj,obs,show ((0:Int))=((0:Nat):Int) from rfl,hq,obs,al (by rw [List.length_append,List.length_map,List.length_take,List.length_singleton];omega),aa _ (by omega) (by omega),cr hj,List.map_append];rfl
 ·simp only [gt]
  rw [brn (by omega),decide_eq_false (by omega),List.take_of_length_le (by omega)]
end Go.AI.Fn
set_option linter.unusedVariables false
set_option linter.unusedSimpArgs false
namespace Go.AI.Fn
variable {kind:Nat}
theorem HT {k:Nat} (hk:k≤6):o3 ((2^k:Nat):Int) 64=some true:=by
 have hp:=Zn k hk
 unfold o3
 have key:Loop (fy ((2^k:Nat):Int) 64) 1=some (.inl ()):=
  an (step:=fy ((2^k:Nat):Int) 64) (fun j=>((2^j:Nat):Int)) k (fun j hj=>by
   have hj2:=Zn j (by omega)
   have hlt:2^j<2^k:=Nat.pow_lt_pow_right (by omega) hj
   simp only [fy]
   rw [brd (by omega),AL (by omega),aa _ (by omega) (by omega),Nat.pow_succ];simp) (by
   simp only [fy]
   rw [brd (by omega),bre rfl])
 rw [key];rfl
theorem JV {t:List K} {v:Nat} (hv:v≤6) (h:t.length=2^v):mu (kv t)=some true:=by
 have hp:=Zn v hv
 rw [Fl (by rw [am];omega),am,h,XH (by omega) (by omega),I6.2 (zf t)];rfl
theorem Jd {t:List K} {v:Nat} (hv:v≤6) (h:t.length=2^v):sn (kv t)=some true:=by
 have hp:=Zn v hv
 unfold sn yK
 rw [am,brn (by omega),h,HT hv,obs,obs,aR,jO (by rw [am];omega),obs,I6.2 (zf t)]
theorem a1n {s:Source} {k:Int} (h:Few s k) (hk:k≤900000): ∃n,iO s=some n∧100000≤n∧n≤1000000:=by
 have hmx:=b6J h.2 h.3
 have h0:0≤mx s.At s.Count:=by have:=h.1.4;have:=h.1.6;unfold mx;split<;>assumption
 unfold iO
 rw [aa _ (by omega) (by omega)]
 exact ⟨_,rfl,by omega,by omega⟩
end Go.AI.Fn
set_option linter.unusedVariables false
set_option linter.unusedSimpArgs false
namespace Go.AI.Fn
def opW (v ρ:Nat) (t:List K):List K:=Enc v ρ (cfK v t)
def opQ (v ρ:Nat) (t P:List K) (s:Source):List (List K)×List K×List (List K)×Source:=pvM 1 (bhO v ρ (opW v ρ t)) v [] [t,eqK P] s
def opL (v ρ:Nat) (t P:List K) (s:Source):K:=((opQ v ρ t P s).2.2.1.getD 0 []).getD 0 0
def opS (v ρ:Nat) (t P:List K) (s:Source):Source:=rsM (opQ v ρ t P s).2.2.2 [opL v ρ t P s]
def opT (v ρ n:Nat) (t P:List K) (s:Source):Source:=tkM (opS v ρ t P s) (dX (n:Int))
def opO (v ρ nq n:Nat) (t P:List K) (s:Source):aC:=
 ⟨kvv (opQ v ρ t P s).1,pJ (v+ρ) (opW v ρ t) (opQ v ρ t P s).2.1,(opL v ρ t P s).1,(n:Int),(plM (drL (opT v ρ n t P s) nq) ((2^(v+ρ-1):Nat):Int)).map (qsM (v+ρ) (px (v+ρ) (opW v ρ t) (opQ v ρ t P s).2.1))⟩
noncomputable def opG (v ρ nq:Nat) (t P:List K) (s:Source):Option Nat→aC×Source×Bool
 |none=>(⟨[],[],⟨0,0⟩,0,[]⟩,opS v ρ t P s,false)
 |some n=>(opO v ρ nq n t P s,drS (opT v ρ n t P s) nq,true)
noncomputable def JL (v ρ nq bits:Nat) (t P:List K) (s:Source):aC×Source×Bool:=opG v ρ nq t P s (ij (opS v ρ t P s).State bits)
theorem yS {v ρ nq bits:Nat} {t P:List K} {s:Source} (h:ij (opS v ρ t P s).State bits=none):JL v ρ nq bits t P s=(⟨[],[],⟨0,0⟩,0,[]⟩,opS v ρ t P s,false):=by
 rw [JL,h,opG]
theorem yV {v ρ nq bits n:Nat} {t P:List K} {s:Source} (h:ij (opS v ρ t P s).State bits=some n):JL v ρ nq bits t P s=(opO v ρ nq n t P s,drS (opT v ρ n t P s) nq,true):=by
 rw [JL,h,opG]
theorem mZ {v ρ:Nat} {t:List K} (ht:t.length=2^v):(opW v ρ t).length=2^(v+ρ):=b1Y (by rw [ja];exact ht)
theorem a2z {v:Nat} {t P:List K} (ht:t.length=2^v) (hP:P.length=v):OkT 1 (2^v) [t,eqK P]:=⟨.inl rfl,rfl,fun i hi=>by
 have hi2:i<2:=hi
 match i,hi2 with
 |0,_=>exact ht
 |1,_=>exact (Ur P).trans (by rw [hP])⟩
variable {v ρ:Nat} {t P:List K} {s:Source} {k:Int}
theorem TG (hf:Few s k) (hk:k+3*v≤900):Few (opQ v ρ t P s).2.2.2 (k+3*v):=a5q (YF v ρ _) v [] _ s k hf (by omega)
theorem So (hf:Few s k) (hk:k+3*v≤900):Few (opS v ρ t P s) (k+3*v+1):=(TG hf hk).take _
theorem GX (hf:Few s k) (hk:k+3*v≤900) (n:Nat):Few (opT v ρ n t P s) (k+3*v+1+1):=(So hf hk).take _
theorem a7C {l:List Ext} (h:eD l) {m:Nat} (h1:1≤m) (h2:m≤1000000): ∀x∈plM l (m:Int),0≤x∧x≤1000000:=fun x hx=>by
 obtain ⟨y,hy,rfl⟩:=List.mem_map.1 hx
 have h0:=Int.emod_nonneg y.A (b:=(m:Int)) (by omega)
 have h3:=Int.emod_lt_of_pos y.A (b:=(m:Int)) (by omega)
 omega
theorem a47 {st:Setting} {nq bits:Nat} (ht:t.length=2^v) (hP:P.length=v) (hv1:1≤v) (hv:v≤6) (hρ:ρ≤3) (hq1:nq≤8) (hb:bits≤12) (e1:st.Rate=(ρ:Int)) (e2:st.Queries=(nq:Int)) (e3:st.Grind=(bits:Int)) (hf:Few s k) (hk:k≤800):
 wy (kv t) (kv P) st s=some (JL v ρ nq bits t P s):=by
 have hk0:0≤k:=by have:=hf.2;have:=hf.1.4;omega
 have hp:=IF v hv
 have hkk:k+3*v≤900:=by omega
 have hfQ:=TG (ρ:=ρ) (t:=t) (P:=P) hf hkk
 have hfS:=So (ρ:=ρ) (t:=t) (P:=P) hf hkk
 have hloop:=JB (bh:=bhO v ρ (opW v ρ t)) (YF v ρ _) hρ (l3:=[]) (c:=(ρ:Int)) (c2:=(nq:Int)) (c3:=(bits:Int)) (c8:=0) (c9:=0) (c10:=0) (c11:=0) (c12:=[]) (c13:=0) (c14:=0) (c15:=0) (c16:=0)
  v [] [t,eqK P] (opW v ρ t) s k [] [] [] (a2z ht hP) (mZ ht) hf (by omega) hv (by rw [List.length_nil];omega) (by rw [List.length_nil];omega) (by rw [List.length_nil];omega) (fun P' s' _ _=>rfl)
 have hfin:OkT 1 1 (opQ v ρ t P s).2.2.1:=Sn v _ _ _ (a2z ht hP)
 have hrl:=(Iv (kind:=1) (bh:=bhO v ρ (opW v ρ t)) v [] [t,eqK P] s).2
 have hpo:=Lc (pvM 1 (bhO v ρ (opW v ρ t)) v [] [t,eqK P] s).2.1 (v+ρ) (opW v ρ t) (mZ ht) (by omega)
 have hwl:=xn (pvM 1 (bhO v ρ (opW v ρ t)) v [] [t,eqK P] s).2.1 (v+ρ) (opW v ρ t)
 have hT0:(opQ v ρ t P s).2.2.1.length=2:=hfin.len
 unfold wy
 rw [List.nil_append,al (by rw [am];omega),Sc (zf P) (by rw [am];omega),obs,TN,e1,Rw ht hv (by omega),obs,e2,e3]
 rw [show ([kv t,kv (eqK P)]:List (List Ext))=kvv [t,eqK P] from rfl,show Enc v ρ (cfK v t)=opW v ρ t from rfl,hloop,obs]
 simp only [List.nil_append]
 rw [show pvM 1 (bhO v ρ (opW v ρ t)) v [] [t,eqK P] s=opQ v ρ t P s from rfl] at hrl hpo hwl ⊢
 rw [Yv (by omega),obs,kv0 (by rw [hfin.tab 0 (by omega)];omega),obs,
  show (Source.mk (opQ v ρ t P s).2.2.2.Script (opQ v ρ t P s).2.2.2.At (opQ v ρ t P s).2.2.2.State (opQ v ρ t P s).2.2.2.Count)=(opQ v ρ t P s).2.2.2 from rfl,
  show ([(((opQ v ρ t P s).2.2.1.getD 0 []).getD 0 0).1]:List Ext)=kv [opL v ρ t P s] from rfl,TT hfQ.1 (by simp),obs,show rsM (opQ v ρ t P s).2.2.2 [opL v ρ t P s]=opS v ρ t P s from rfl,a09 hfS.1.3 hb,obs]
 cases hg:ij (opS v ρ t P s).State bits with
 |none=>rw [yS hg];rfl
 |some n=>
  have hfT:=GX (ρ:=ρ) (t:=t) (P:=P) hf hkk n
  rw [yV hg]
  dsimp only
  rw [Bool.not_true,ak,Ck,obs,ml hfS.1.3 (by rw [eP];omega),obs,show tkM (opS v ρ t P s) (dX (n:Int))=opT v ρ n t P s from rfl,brd (by rw [gE,hwl];omega)]
  obtain ⟨q,hq⟩: ∃q,v+ρ=q+1:=⟨v+ρ-1,by omega⟩
  have hgt:(kvv (px (v+ρ) (opW v ρ t) (opQ v ρ t P s).2.1))[0]? =some (kv (opW v ρ t)):=by
   match hL:(opQ v ρ t P s).2.1,hrl with
   |r::L,_=>rfl
   |[],h=>exfalso;rw [List.length_nil] at h;omega
  have hpq:=p7 q (by omega)
  have hpl:=a7C (M8 hfT (by omega) (n:=nq) (by omega)) (m:=2^q) (by omega) (by omega)
  have hwl2:(px (q+1) (opW v ρ t) (opQ v ρ t P s).2.1).length≤100:=by rw [xn];omega
  rw [hq] at hpo
  rw [hgt,obs,am,mZ ht,hq,B3 q (by omega),Jr hfT (by omega) (by omega) (by omega),obs]
  rw [O7 hpo (by omega) hwl2 (by rw [plM,List.length_map,lu];omega) hpl,obs,opO,hq,Nat.add_sub_cancel];rfl
theorem a1z: ∀(Ws:List (List K)) (m k:Nat),(prK m Ws k).length=2*Ws.length
 |[],_,_=>rfl
 |W::Ws,m,k=>by rw [prK,List.length_cons,List.length_cons,a1z Ws,List.length_cons];omega
theorem a5y: ∀(Ws:List (List K)) (m k:Nat),m≤9→Pt m Ws→(ptK m Ws k).length=Ws.length∧ ∀j,j<Ws.length→((ptK m Ws k).getD j []).length=m-1-j∧Hs ((ptK m Ws k).getD j [])
 |[],_,_,_,_=>⟨rfl,fun j hj=>absurd hj (by simp)⟩
 |W::Ws,m,k,hm,h=>by
  obtain ⟨h1,h2,h3⟩:=h
  have ih:=a5y Ws (m-1) (k%2^(m-1)) (by omega) h3
  have hp:=p7 (m-1) (by omega)
  refine ⟨by rw [ptK,List.length_cons,ih.1,List.length_cons],fun j hj=> ?_⟩
  rw [List.length_cons] at hj
  cases j with
  |zero=>exact ⟨(HB _ _ _).trans (by omega),b2J (rN _ _) (Nat.mod_lt _ (by omega))⟩
  |succ j=>
   have:=ih.2 j (by omega)
   exact ⟨this.1.trans (by omega),this.2⟩
theorem a1g {l:List Tx} (h:Hs l):l.all h32=true:=List.all_eq_true.2 fun x hx=>by simp only [h32,decide_eq_true_eq];exact h x hx
theorem FK (v ρ:Nat) (t P:List K) (s:Source):(opQ v ρ t P s).1.length=v∧(opQ v ρ t P s).2.1.length=v:=Iv v _ _ _
theorem b5e {Ws:List (List K)} {st:Setting} {p:Int} (hW:Pt (v+ρ) Ws) (hl:Ws.length=v) (hm:v+ρ≤9) (e1:st.Rate=(ρ:Int)) (hv:1≤v):Cq (v:Int) st (qsM (v+ρ) Ws p)=true:=by
 have h1:=a5y Ws (v+ρ) p.toNat hm hW
 have h2:((kv (prK (v+ρ) Ws p.toNat)).length:Int)=2*(v:Int):=by rw [am,a1z,hl];omega
 have h3:(((ptK (v+ρ) Ws p.toNat).length:Nat):Int)=(v:Int):=by rw [h1.1,hl]
 unfold Cq qsM
 dsimp only
 rw [decide_eq_true h2,Bool.true_and,I6.2 (zf _),Bool.true_and,decide_eq_true h3,Bool.true_and]
 refine Cb fun j hj=> ?_
 have hj2:=h1.2 j (by omega)
 unfold RN
 dsimp only
 rw [a1g hj2.2,Bool.and_true,decide_eq_true_eq,hj2.1,e1];omega
theorem b5b {st:Setting} {nq n:Nat} (ht:t.length=2^v) (hv1:1≤v) (hv:v≤6) (hρ:ρ≤3) (hst:setB st=true) (e1:st.Rate=(ρ:Int)) (e2:st.Queries=(nq:Int)) (hn:n<65536):okO (opO v ρ nq n t P s) (v:Int) st=true:=by
 have hl:=FK v ρ t P s
 have hw:=Lc (opQ v ρ t P s).2.1 (v+ρ) (opW v ρ t) (mZ ht) (by omega)
 have hwl:=xn (opQ v ρ t P s).2.1 (v+ρ) (opW v ρ t)
 have h1:Je (kvv (opQ v ρ t P s).1) (v:Int) 3=true:=by
  unfold Je
  rw [gE,hl.1,decide_eq_true rfl,Bool.true_and]
  refine List.all_eq_true.2 fun x hx=> ?_
  obtain ⟨g,hg,rfl⟩:=List.mem_map.1 hx
  have:=a1B v _ _ _ g hg
  unfold Ar
  rw [am,this,I6.2 (zf g)];rfl
 have h2:(((pJ (v+ρ) (opW v ρ t) (opQ v ρ t P s).2.1).length:Nat):Int)=(v:Int)-1:=by rw [XW,hl.2];omega
 have h3:((((plM (drL (opT v ρ n t P s) nq) ((2^(v+ρ-1):Nat):Int)).map (qsM (v+ρ) (px (v+ρ) (opW v ρ t) (opQ v ρ t P s).2.1))).length:Nat):Int)=st.Queries:=by
  rw [List.length_map,plM,List.length_map,lu,e2]
 unfold okO opO
 dsimp only
 rw [decide_eq_true (by omega),hst,h1,decide_eq_true h2,a1g (a6L _ _ _),pk.2 (Subtype.property _),decide_eq_true (by omega),decide_eq_true h3]
 simp only [Bool.true_and]
 refine List.all_eq_true.2 fun x hx=> ?_
 obtain ⟨p,_,rfl⟩:=List.mem_map.1 hx
 exact b5e hw (by omega) (by omega) e1 hv1
theorem MO {st:Setting} {nq bits:Nat} (ht:t.length=2^v) (hP:P.length=v) (hv1:1≤v) (hv:v≤6) (hst:setB st=true) (e1:st.Rate=(ρ:Int)) (e2:st.Queries=(nq:Int)) (e3:st.Grind=(bits:Int)) (hf:Few s k) (hk:k≤800):
 pa (kv t) (kv P) st s=some (match ij (opS v ρ t P s).State bits with|none=>(⟨[],[],⟨0,0⟩,0,[]⟩,⟨[],0,[],0⟩,14)|some n=>(opO v ρ nq n t P s,drS (opT v ρ n t P s) nq,0)):=by
 have hk0:0≤k:=by have:=hf.2;have:=hf.1.4;omega
 have hp:=IF v hv
 have hs2:=n9 hst
 have hlen:=hf.1.1
 have hg:2≤2^v:=by
  obtain ⟨u,rfl⟩: ∃u,v=u+1:=⟨v-1,by omega⟩
  have:=IF u (by omega)
  rw [Nat.pow_succ];omega
 have hsp:jN s 100=some false:=VX hf (by omega) (n:=100) (by omega)
 have hop:=a47 (ρ:=ρ) (nq:=nq) (bits:=bits) ht hP hv1 hv (by omega) (by omega) (by omega) e1 e2 e3 hf hk
 unfold pa o4 sh
 rw [am,am,brn (by omega),brn (by omega),Jd hv ht,obs,Bool.not_true,ak,brd (by omega),jO (by rw [am];omega),obs,I6.2 (zf P),obs,Bool.not_true,ak,tg,obs,hst,Bool.not_true,ak,G0 hf.1,obs,Bool.not_true,ak,
  ht,HT hv,obs,aR,obs,decide_eq_true (by omega),Bool.not_true,ak,hP,cX _ (by omega) (by omega),brd (by omega),a2s (by omega),fw rfl,hsp,obs,ak,hop,obs]
 cases hg:ij (opS v ρ t P s).State bits with
 |none=>rw [yS hg];rfl
 |some n=>
  rw [yV hg]
  dsimp only
  have hT:=(GX (v:=v) (ρ:=ρ) (t:=t) (P:=P) hf (by omega) n).1.1
  rw [Bool.not_true,ak,FZ (by rw [Cn];omega),obs]
end Go.AI.Fn
set_option linter.unusedVariables false
set_option linter.unusedSimpArgs false
namespace Go.AI.Fn
theorem a71 (m j:Nat):(2*m)/2^(j+1)%2=m/2^j%2:=by rw [Nat.pow_succ,Nat.mul_comm (2^j) 2, ←Nat.div_div_eq_div_mul,Nat.mul_div_cancel_left m (by omega)]
theorem b0P (m j:Nat):(2*m+1)/2^(j+1)%2=m/2^j%2:=by rw [Nat.pow_succ,Nat.mul_comm (2^j) 2, ←Nat.div_div_eq_div_mul,show (2*m+1)/2=m by omega]
theorem rp {l:List K} {j m:Nat} (h:m<l.length):(stK l j).getD m 0=if m/2^j%2=1 then l.getD m 0-l.getD (m-2^j) 0 else l.getD m 0:=by rw [stK,ot h]
theorem b3K {l:List K} {n j:Nat} (h:l.length=2*n):evs (stK l (j+1))=stK (evs l) j:=by
 have h1:=fJ l n h
 refine fC (by rw [fJ _ n (by rw [fL];exact h),fL,h1]) fun m hm=> ?_
 rw [fJ _ n (by rw [fL];exact h)] at hm
 rw [iw,rp (by omega),rp (by omega),a71,iw,iw,Nat.pow_succ,show 2*m-2^j*2=2*(m-2^j) by omega]
theorem b4Z {l:List K} {n j:Nat} (h:l.length=2*n):ods (stK l (j+1))=stK (ods l) j:=by
 have h1:=g9 l n h
 refine fC (by rw [g9 _ n (by rw [fL];exact h),fL,h1]) fun m hm=> ?_
 rw [g9 _ n (by rw [fL];exact h)] at hm
 rw [jc,rp (by omega),rp (by omega),b0P,jc,jc]
 by_cases c:m/2^j%2=1
 ·have hq:2^j≤m:=by
   refine Nat.le_of_not_lt fun hlt=> ?_
   rw [Nat.div_eq_of_lt hlt] at c;omega
  rw [if_pos c,if_pos c,Nat.pow_succ,show 2*m+1-2^j*2=2*(m-2^j)+1 by omega]
 ·rw [if_neg c,if_neg c]
theorem b0i {l:List K} {n:Nat} (h:l.length=2*n):evs (stK l 0)=evs l:=by
 refine fC (by rw [fJ _ n (by rw [fL];exact h),fJ _ n h]) fun m hm=> ?_
 rw [fJ _ n (by rw [fL];exact h)] at hm
 rw [iw,rp (by omega),Nat.pow_zero,Nat.div_one,if_neg (by omega),iw]
theorem a98 {l:List K} {n:Nat} (h:l.length=2*n):ods (stK l 0)=cb (-1) (ods l) (evs l):=by
 have h1:=g9 l n h
 have h2:=fJ l n h
 refine fC (by rw [g9 _ n (by rw [fL];exact h),j5 (by omega),h1]) fun m hm=> ?_
 rw [g9 _ n (by rw [fL];exact h)] at hm
 rw [jc,rp (by omega),Nat.pow_zero,Nat.div_one,if_pos (by omega),hI (by omega),jc,iw,show 2*m+1-1=2*m by omega]
 exact kg
theorem a4j {n:Nat} {l:List K} (h:l.length=2*n): ∀v,evs (cfK (v+1) l)=cfK v (evs (stK l 0))
 |0=>rfl
 |v+1=>by
  rw [cfK,b3K (by rw [ja];exact h),a4j h v];rfl
theorem a7J {n:Nat} {l:List K} (h:l.length=2*n): ∀v,ods (cfK (v+1) l)=cfK v (ods (stK l 0))
 |0=>rfl
 |v+1=>by
  rw [cfK,b4Z (by rw [ja];exact h),a7J h v];rfl
theorem b5Z {a b:List K} (r:K) (h:a.length=b.length) (j:Nat):stK (cb r a b) j=cb r (stK a j) (stK b j):=by
 refine fC (by rw [fL,j5 h,j5 (by rw [fL,fL];exact h),fL]) fun m hm=> ?_
 rw [fL,j5 h] at hm
 have hs:(stK a j).length=(stK b j).length:=by rw [fL,fL];exact h
 rw [rp (by rw [j5 h];exact hm),hI hs m,rp hm,rp (by omega)]
 split
 ·rw [hI h,hI h];exact kg
 ·rw [hI h]
theorem b29 {a b:List K} (r:K) (h:a.length=b.length): ∀v,cfK v (cb r a b)=cb r (cfK v a) (cfK v b)
 |0=>rfl
 |v+1=>by rw [cfK,b29 r h v,b5Z r (by rw [ja,ja];exact h)];rfl
theorem b5P {l:List K} {n:Nat} (r:K) (h:l.length=2*n):cb r (evs l) (cb (-1) (ods l) (evs l))=fdK r l:=by
 have h1:=g9 l n h
 have h2:=fJ l n h
 refine fC (by rw [j5 (by rw [j5 (by omega)];omega),h2,uy r l n h]) fun m hm=> ?_
 rw [hI (by rw [j5 (by omega)];omega),hI (by omega),iw,jc,xQ r l n m h];exact kg
theorem b0w {l:List K} {v:Nat} (r:K) (h:l.length=2^(v+1)):cb r (evs (cfK (v+1) l)) (ods (cfK (v+1) l))=cfK v (fdK r l):=by
 have h2:l.length=2*2^v:=by rw [h,Nat.pow_succ];omega
 have e1:=fJ l _ h2
 have e2:=g9 l _ h2
 rw [a4j h2,a7J h2,b0i h2,a98 h2, ←b29 r (by rw [j5 (by omega)];omega),b5P r h2]
theorem a7b {ρ:Nat} (hρ:ρ≤3): ∀(P:List K) (v:Nat) (t:List K),P.length≤v→v≤6→t.length=2^v→wdK (v+ρ) (Enc v ρ (cfK v t)) P=Enc (v-P.length) ρ (cfK (v-P.length) (E9 P t))
 |[],v,t,_,_,_=>rfl
 |r::P,v,t,hP,hv,ht=>by
  rw [List.length_cons] at hP
  obtain ⟨u,rfl⟩: ∃u,v=u+1:=⟨v-1,by omega⟩
  have h2:t.length=2*2^u:=by rw [ht,Nat.pow_succ];omega
  rw [wdK,show u+1+ρ-1=u+ρ by omega,a4V r (by omega) (by rw [ja];exact ht),b0w r ht,a7b hρ P u _ (by omega) (by omega) (uy r t _ h2),List.length_cons,show u+1-(P.length+1)=u-P.length by omega];rfl
theorem a1C: ∀(n:Nat) (x:K),ev (List.replicate n 0) x=0
 |0,_=>rfl
 |n+1,x=>by rw [List.replicate_succ,ev,a1C n x];exact kg
theorem b0S (ρ:Nat) (hρ:ρ≤9) (a:K) (j:Nat) (hj:j<2^ρ):(Enc 0 ρ [a]).getD j 0=a:=by
 have hp:=p7 ρ hρ
 unfold Enc
 rw [Nat.zero_add,b3R ρ _ _ (kS (by simp;omega)) (b2z (by omega)) j hj,yB,a7H,a1C,ev,ev]
 clear hp hj
 exact kg
end Go.AI.Fn
set_option linter.unusedVariables false
set_option linter.unusedSimpArgs false
namespace Go.AI.Fn
def eaK:List K→List K→K→K
 |x::A,b::B,c=>eaK A B (c*(x*b+(1-x)*(1-b)))
 |_,_,c=>c
theorem b2D (r c:K): ∀l:List K,fdK r (sc c l)=sc c (fdK r l)
 |[]=>rfl
 |[a]=>rfl
 |a::b::l=>by
  show (c*a+r*(c*b-c*a))::fdK r (sc c l)=(c*(a+r*(b-a)))::sc c (fdK r l)
  rw [b2D r c l,show c*a+r*(c*b-c*a)=c*(a+r*(b-a)) from kg]
theorem a6k (c:K): ∀(R l:List K),E9 R (sc c l)=sc c (E9 R l)
 |[],l=>rfl
 |r::R,l=>by
  show E9 R (fdK r (sc c l))=sc c (E9 R (fdK r l))
  rw [b2D,a6k c R]
theorem a0C (r p:K): ∀E:List K,fdK r (gK E (sC [1] p))=sc (r*p+(1-r)*(1-p)) E
 |[]=>rfl
 |e::E=>by
  show (1*(1-p)*e+r*(1*p*e-1*(1-p)*e))::fdK r (gK E (sC [1] p))=((r*p+(1-r)*(1-p))*e)::sc _ E
  rw [a0C r p E,show 1*(1-p)*e+r*(1*p*e-1*(1-p)*e)=(r*p+(1-r)*(1-p))*e from kg]
theorem a87: ∀(R P:List K) (c:K),R.length=P.length→c*(E9 R (eqK P)).getD 0 0=eaK R P c
 |[],[],c,_=>by show c*1=c;exact kg
 |[],p::P,c,h=>by simp at h
 |r::R,[],c,h=>by simp at h
 |r::R,p::P,c,h=>by
  rw [List.length_cons,List.length_cons] at h
  show c*(E9 R (fdK r (eqK (p::P)))).getD 0 0=eaK R P (c*(r*p+(1-r)*(1-p)))
  rw [WG,a0C,a6k,b2U, ←a87 R P _ (by omega)];exact kg
theorem RB (f:Nat→K): ∀n,j6 (n+1) f=f 0+j6 n fun k=>f (k+1)
 |0=>by show (0:K)+f 0=f 0+0;exact kg
 |n+1=>by rw [j6,RB f n,j6];exact kg
theorem a0x: ∀(t e:List K),t.length=e.length→j6 t.length (fun k=>t.getD k 0*e.getD k 0)=xL t e
 |[],[],_=>rfl
 |[],b::e,h=>by simp at h
 |a::t,[],h=>by simp at h
 |a::t,b::e,h=>by
  rw [List.length_cons,RB]
  show a*b+j6 t.length (fun k=>t.getD k 0*e.getD k 0)=a*b+xL t e
  rw [a0x t e (by simpa using h)]
theorem b1H {t e:List K} {n:Nat} (ht:t.length=n) (he:e.length=n):pN 1 [t,e] n=xL t e:=by
 rw [←a0x t e (by omega),ht];rfl
def Il:Nat→List K→List K→List (List UInt8)
 |_,_,[]=>[]
 |m,W,r::P=>wrK (m-1) W::Il (m-1) (fwK (m-1) W r) P
theorem RE: ∀(P:List K) (m:Nat) (W:List K),P≠[]→wrK (m-1) W::pJ m W P=Il m W P
 |[],_,_,h=>absurd rfl h
 |[r],m,W,_=>rfl
 |r::r2::P,m,W,_=>by
  rw [pJ,Il, ←RE (r2::P) (m-1) _ (by simp),if_neg (by simp),List.singleton_append,show m-1-1=m-2 by omega]
theorem a1F: ∀(P:List K) (m:Nat) (W:List K) (j:Nat),j+1<P.length→(pJ m W P).getD j []=wrK (m-(j+1)-1) (wdK m W (P.take (j+1)))
 |[],_,_,j,h=>by simp at h
 |[r],m,W,j,h=>by simp at h
 |r::r2::P,m,W,0,_=>by
  rw [pJ,if_neg (by simp),List.singleton_append,show m-(0+1)-1=m-2 by omega];rfl
 |r::r2::P,m,W,j+1,h=>by
  rw [pJ,if_neg (by simp),List.singleton_append,show m-(j+1+1)-1=m-1-(j+1)-1 by omega]
  exact a1F (r2::P) (m-1) _ j (by simpa using h)
def nB (a b:K):List UInt8:=[a.1,b.1].flatMap e8
def a2d (due:Option K) (x:K):Prop:= ∃d,due=some d∧x≠d
noncomputable instance b3x (due:Option K) (x:K):Decidable (a2d due x):=Classical.propDecidable _
noncomputable def qcK (l:K):Nat→List (List UInt8)→List K→List (List (List UInt8))→List K→Nat→Option K→Int
 |m,rt::rts,a::b::prs,p::pths,r::P,k,due=>
  if (H (hJ (k%2^(m-1)) (nB a b) p (m-1))==rt)=false then 9
  else if a2d due (if 2^(m-1)≤k then b else a) then 12
  else qcK l (m-1) rts prs pths P (k%2^(m-1)) (some (fpK m (k%2^(m-1)) a b r))
 |_,_,_,_,_,_,due=>if due=some l then 0 else 13
noncomputable def qsC (l:K) (m:Nat) (rts:List (List UInt8)) (D:List K):List Int→List aq→Int
 |p::ps,q::qs=>if qcK l m rts (q.Pairs.map toK) q.Paths D p.toNat none=0 then qsC l m rts D ps qs else qcK l m rts (q.Pairs.map toK) q.Paths D p.toNat none
 |_,_=>0
theorem a0N (l:K): ∀(P:List K) (m:Nat) (W:List K) (k:Nat) (due:Option K),W.length=2^m→P.length≤m→m≤9→k<2^m→(∀d,due=some d→d=W.getD k 0)→(P=[]→due≠none)→(∀j,j<2^(m-P.length)→(wdK m W P).getD j 0=l)→
 qcK l m (Il m W P) (prK m (px m W P) k) (ptK m (px m W P) k) P k due=0
 |[],m,W,k,due,hW,hP,hm,hk,hd,hn,hf=>by
  have h2:=hf k (by rw [List.length_nil,Nat.sub_zero];exact hk)
  cases due with
  |none=>exact absurd rfl (hn rfl)
  |some d=>
   have h1:=hd d rfl
   have h3:d=l:=h1.trans h2
   subst h3
   show (if some d=some d then (0:Int) else 13)=0
   rw [if_pos rfl]
 |r::P,m,W,k,due,hW,hP,hm,hk,hd,hn,hf=>by
  rw [List.length_cons] at hP
  obtain ⟨q,rfl⟩: ∃q,m=q+1:=⟨m-1,by omega⟩
  have hp:=p7 q (by omega)
  have hs:2^(q+1)=2*2^q:=by rw [Nat.pow_succ];omega
  have hat:k%2^q<2^q:=Nat.mod_lt _ (by omega)
  have hroot:H (hJ (k%2^q) (nB (W.getD (k%2^q) 0) (W.getD (k%2^q+2^q) 0)) (gP ((lvK q W).map hL) q (k%2^q)) q)=wrK q W:=by
   have:=a7N (l:=lvK q W) (rN q W) hat
   rw [show (lvK q W).getD (k%2^q) []=nB (W.getD (k%2^q) 0) (W.getD (k%2^q+2^q) 0) by simp [lvK,hat];rfl] at this
   exact this
  have hown:(if 2^q≤k then W.getD (k%2^q+2^q) 0 else W.getD (k%2^q) 0)=W.getD k 0:=by
   split
   ·rename_i h
    rw [show k%2^q+2^q=k by rw [Nat.mod_eq_sub_mod h,Nat.mod_eq_of_lt (by omega)];omega]
   ·rename_i h
    rw [Nat.mod_eq_of_lt (by omega)]
  have hfw:fpK (q+1) (k%2^q) (W.getD (k%2^q) 0) (W.getD (k%2^q+2^q) 0) r=(fwK q W r).getD (k%2^q) 0:=by rw [fwK,ot hat]
  have ih:=a0N l P q (fwK q W r) (k%2^q) (some (fpK (q+1) (k%2^q) (W.getD (k%2^q) 0) (W.getD (k%2^q+2^q) 0) r)) (u2 _ _ _) (by omega) (by omega) hat (fun d hd=>by cases hd;exact hfw) (fun _ h=>by cases h) (fun j hj=>hf j (by rw [List.length_cons,show q+1-(P.length+1)=q-P.length by omega];exact hj))
  simp only [Il,px,prK,ptK,qcK,Nat.add_sub_cancel]
  rw [if_neg (by rw [hroot];simp),if_neg (by rintro ⟨d,h1,h2⟩;rw [hown] at h2;exact h2 (hd d h1).symm)]
  exact ih
def bvO (v:Nat) (rts:List (List UInt8)) (j:Nat) (s:Source):Source:=if j+1<v then tkM s (rts.getD j []) else s
theorem O0 (v:Nat) (rts:List (List UInt8)):b6S (bvO v rts):=fun j s k h hk=>by
 unfold bvO;split
 ·exact h.take _
 ·exact h.mono (by omega)
noncomputable def chC (m bits nq:Nat) (root:List UInt8) (P:List K) (rts:List (List UInt8)) (l:K) (nonce:Int) (qs:List aq) (q:Int×List K×K×Source):Int:=
 if q.1=0 then
  if l*eaK q.2.1 P 1=q.2.2.1 then
   if gR (rsM q.2.2.2 [l]).State bits nonce=true then qsC l m (root::rts) q.2.1 (plM (drL (tkM (rsM q.2.2.2 [l]) (dX nonce)) nq) ((2^(m-1):Nat):Int)) qs
   else 14
  else 11
 else q.1
def chS (nq:Nat) (l:K) (nonce:Int) (q:Int×List K×K×Source):Source:=drS (tkM (rsM q.2.2.2 [l]) (dX nonce)) nq
variable {v ρ:Nat} {t P:List K} {s:Source} {k:Int}
theorem a1G {l:K} {m:Nat} {D W:List K} (hW:W.length=2^m) (hD:D.length≤m) (hm:m≤9) (hD0:D≠[]) (hf: ∀j,j<2^(m-D.length)→(wdK m W D).getD j 0=l): ∀ps:List Int,(∀p∈ps,0≤p∧p<((2^m:Nat):Int))→qsC l m (Il m W D) D ps (ps.map (qsM m (px m W D)))=0
 |[],_=>rfl
 |p::ps,h=>by
  have hp:=h p (by simp)
  have h1:=a0N l D m W p.toNat none hW hD hm (by omega) (fun d hd=>by cases hd) (fun h=>absurd h hD0) hf
  have e:((qsM m (px m W D) p).Pairs).map toK=prK m (px m W D) p.toNat:=by
   show (kv (prK m (px m W D) p.toNat)).map toK=_
   rw [kv,List.map_map]
   refine (List.map_congr_left fun x _=> ?_).trans (List.map_id _)
   exact K.ext (re x.2)
  rw [List.map_cons,qsC,e]
  rw [show (qsM m (px m W D) p).Paths=ptK m (px m W D) p.toNat from rfl,if_pos h1,a1G hW hD hm hD0 hf ps fun x hx=>h x (by simp [hx])]
theorem a9q {nq bits n:Nat} (ht:t.length=2^v) (hP:P.length=v) (hv1:1≤v) (hv:v≤6) (hρ:ρ≤3) (hg:ij (opS v ρ t P s).State bits=some n) (hf:Few s k) (hk:k≤800) (hq:nq≤8):
 vfM 1 (bvO v (pJ (v+ρ) (opW v ρ t) (opQ v ρ t P s).2.1)) (opQ v ρ t P s).1 0 (xL t (eqK P)) s=(0,(opQ v ρ t P s).2.1,opL v ρ t P s*eaK (opQ v ρ t P s).2.1 P 1,(opQ v ρ t P s).2.2.2):=by
 have hl:=FK v ρ t P s
 have key:=b2f (kind:=1) (bh:=bhO v ρ (opW v ρ t)) (bv:=bvO v (pJ (v+ρ) (opW v ρ t) (opQ v ρ t P s).2.1)) v [] [t,eqK P] s (a2z ht hP) (fun j hj s'=>by
  rw [List.length_nil,List.nil_append,Nat.zero_add]
  show bvO v (pJ (v+ρ) (opW v ρ t) (opQ v ρ t P s).2.1) j s'=bhO v ρ (opW v ρ t) ((opQ v ρ t P s).2.1.take (j+1)) s'
  rw [bvO,bhO,List.length_take,hl.2,Nat.min_eq_left (by omega)]
  by_cases c:j+1<v
  ·rw [if_pos c,if_pos c,a1F _ _ _ _ (by rw [hl.2];exact c)]
  ·rw [if_neg c,if_neg c])
 rw [b1H ht (by rw [Ur,hP]),List.length_nil] at key
 refine key.trans ?_
 have hT:(opQ v ρ t P s).2.2.1.getD 1 []=E9 (opQ v ρ t P s).2.1 (eqK P):=ZU 1 v [] [t,eqK P] s
 have he:=a87 (opQ v ρ t P s).2.1 P 1 (by rw [hl.2,hP])
 have h1:pN 1 (opQ v ρ t P s).2.2.1 1=opL v ρ t P s*eaK (opQ v ρ t P s).2.1 P 1:=by
  rw [b1J,cmK,if_pos rfl,Vl,Vl,hT, ←he]
  show opL v ρ t P s*_=_
  generalize (E9 (opQ v ρ t P s).2.1 (eqK P)).getD 0 0=y
  generalize opL v ρ t P s=x
  clear he hT key hg hf
  exact kg
 rw [←h1];rfl
theorem a8Q {nq bits n:Nat} (ht:t.length=2^v) (hP:P.length=v) (hv1:1≤v) (hv:v≤6) (hρ:ρ≤3) (hg:ij (opS v ρ t P s).State bits=some n) (hf:Few s k) (hk:k≤800) (hq:nq≤8):
 chC (v+ρ) bits nq (wrK (v+ρ-1) (opW v ρ t)) P (pJ (v+ρ) (opW v ρ t) (opQ v ρ t P s).2.1) (opL v ρ t P s) n (opO v ρ nq n t P s).Queries (0,(opQ v ρ t P s).2.1,opL v ρ t P s*eaK (opQ v ρ t P s).2.1 P 1,(opQ v ρ t P s).2.2.2)=0:=by
 have hl:=FK v ρ t P s
 have hg2:=LS hg
 have hfT:=GX (v:=v) (ρ:=ρ) (t:=t) (P:=P) hf (by omega) n
 have hk0:0≤k:=by have:=hf.2;have:=hf.1.4;omega
 have hD0:(opQ v ρ t P s).2.1≠[]:=fun h=>by rw [h,List.length_nil] at hl;omega
 have hpp:=p7 (v+ρ-1) (by omega)
 have hpq:2^(v+ρ)=2*2^(v+ρ-1):=by
  obtain ⟨q,hq⟩: ∃q,v+ρ=q+1:=⟨v+ρ-1,by omega⟩
  rw [hq,Nat.add_sub_cancel,Nat.pow_succ];omega
 have hfin: ∀j,j<2^(v+ρ-(opQ v ρ t P s).2.1.length)→(wdK (v+ρ) (opW v ρ t) (opQ v ρ t P s).2.1).getD j 0=opL v ρ t P s:=fun j hj=>by
  have ht0:(opQ v ρ t P s).2.2.1.getD 0 []=E9 (opQ v ρ t P s).2.1 t:=ZU 0 v [] [t,eqK P] s
  have hone:(E9 (opQ v ρ t P s).2.1 t).length=1:=by
   rw [←ht0]
   have:=Sn (kind:=1) (bh:=bhO v ρ (opW v ρ t)) v [] [t,eqK P] s (a2z ht hP)
   exact this.tab 0 (by rw [this.len];omega)
  rw [opW,a7b hρ _ v t (by omega) hv ht,hl.2,Nat.sub_self]
  rw [hl.2,show v+ρ-v=ρ by omega] at hj
  unfold opL
  rw [ht0]
  match hx:E9 (opQ v ρ t P s).2.1 t,hone with
  |[a],_=>exact b0S ρ (by omega) a j hj
 unfold chC
 rw [if_pos rfl,if_pos rfl,if_pos (show gR (rsM (opQ v ρ t P s).2.2.2 [opL v ρ t P s]).State bits n=true from hg2.2.1)]
 rw [RE _ _ _ hD0]
 exact a1G (mZ ht) (by omega) (by omega) hD0 hfin _ fun x hx=>by
  obtain ⟨y,hy,rfl⟩:=List.mem_map.1 hx
  have h0:=Int.emod_nonneg y.A (b:=((2^(v+ρ-1):Nat):Int)) (by omega)
  have h3:=Int.emod_lt_of_pos y.A (b:=((2^(v+ρ-1):Nat):Int)) (by omega)
  omega
end Go.AI.Fn
set_option linter.unusedVariables false
set_option linter.unusedSimpArgs false
namespace Go.AI.Fn
theorem b7f: ∀i:Nat,i<512→ ∀j:Nat,j<9→(bm .i64 (aM .i64 (i:Int) (j:Int)) 1==1)=decide (i/2^j%2=1):=by decide+kernel
theorem b5k {i k:Nat} {leaf:Tx} {path:List Tx} (hi:i<512) (hk:k≤9) (hl:leaf.length≤1000) (hp:path.length=k) (hh:Hs path):Fx i leaf path=some (wQ i leaf path k):=by
 unfold Fx
 rw [Dm (by omega),obs,hp]
 have key:Loop (jG i path k) ([MM leaf],0)=some (wQ i leaf path k,(k:Int),false):=by
  refine an (step:=jG i path k) (fun j=>(wQ i leaf path j,(j:Int))) k (fun j hj=> ?_) ?_
  ·have hx:=hh.getD (k:=j) (by omega)
   have hH:=uQ (hJ i leaf path j)
   simp only [jG]
   have e:=Vc (i:=i) (leaf:=leaf) (path:=path) (Nat.le_refl j)
   rw [bS (by rw [nr];omega),Option.some.injEq] at e
   have e2:(wQ i leaf path j)[((j:Nat):Int).toNat]? =some (hJ i leaf path j):=by
    rw [Int.toNat_natCast,xi (by rw [nr];omega),e]
   have hw:(hJ i leaf path j).length≤100000000:=by
    cases j with
    |zero=>simp only [hJ,MM,List.length_cons];omega
    |succ j=>
     have hx':=hh.getD (k:=j) (by omega)
     have hH':=uQ (hJ i leaf path j)
     simp only [hJ]
     split<;>simp only [He,List.length_cons,List.length_append]<;>omega
   rw [brd (by omega),Dv (by omega),obs,brd (by omega),brd (by rw [nr];omega),e2,obs,uw hw,obs,brd (by omega),b7f i hi j (by omega)]
   by_cases c:i/2^j%2=1
   ·rw [brd c,wh (by omega) (by omega),obs,al (by simp only [List.length_append,nr,List.length_singleton];omega),aa _ (by omega) (by omega),wQ,wQ,cO _ (j+1)]
    simp only [hJ,if_pos c];rfl
   ·rw [brn c,wh (by omega) (by omega),obs,al (by simp only [List.length_append,nr,List.length_singleton];omega),aa _ (by omega) (by omega),wQ,wQ,cO _ (j+1)]
    simp only [hJ,if_neg c];rfl
  ·simp only [jG]
   rw [brn (by omega),decide_eq_false (by omega)]
 rw [key];rfl
theorem up9 {i k:Nat} {leaf:Tx} {path:List Tx} (hi:i<512) (hk:k≤9) (hl:leaf.length≤1000) (hp:path.length=k) (hh:Hs path):H0 i leaf path=some (wQ i leaf path k,H (hJ i leaf path k)):=by
 unfold H0
 rw [al (by simp only [List.length_singleton];omega),QZ (by omega),obs]
 have key:Loop (jo path) ([[0]++leaf],(i:Int),hL leaf,0)=some (wQ i leaf path k,((i/2^k:Nat):Int),H (hJ i leaf path k),(k:Int),false):=by
  have key:=an (step:=jo path) (fun j=>(wQ i leaf path j,((i/2^j:Nat):Int),H (hJ i leaf path j),(j:Int))) k (e:=(wQ i leaf path k,((i/2^k:Nat):Int),H (hJ i leaf path k),(k:Int),false)) (fun j hj=> ?_) ?_
  ·have e0:i/2^0=i:=by simp
   rw [e0] at key
   exact key
  ·have hx:=hh.getD (k:=j) (by omega)
   have hH:=uQ (hJ i leaf path j)
   have hq:IntKind.wrap .i64 (((i/2^j:Nat):Int).tdiv 2)=((i/2^(j+1):Nat):Int):=(a40 i j).resolve_right (by omega)
   have hm:(((i/2^j:Nat):Int).tmod 2==1)=decide (i/2^j%2=1):=by
    rw [bq _ _ (Int.natCast_nonneg _)]
    generalize i/2^j=q
    by_cases c:q%2=1
    ·rw [decide_eq_true c];simp;omega
    ·rw [decide_eq_false c];simp;omega
   simp only [jo]
   rw [brd (by omega),al (by simp only [List.length_singleton];omega),Dv (by omega),obs,al (by simp only [List.length_append,List.length_singleton];omega),hm,hq]
   by_cases c:i/2^j%2=1
   ·rw [brd c,obs,al (by simp only [List.length_singleton];omega),al (by simp only [List.length_append,List.length_singleton];omega),al (by simp only [List.length_append,nr,List.length_singleton];omega),
     mj (by simp only [List.length_append,List.length_singleton];omega),obs,aa _ (by omega) (by omega),wQ,wQ,cO _ (j+1)]
    simp only [hJ,if_pos c,He,List.singleton_append,List.cons_append,List.nil_append,mi]
   ·rw [brn c,al (by simp only [List.length_append,nr,List.length_singleton];omega),
     mj (by simp only [List.length_append,List.length_singleton];omega),obs,aa _ (by omega) (by omega),wQ,wQ,cO _ (j+1)]
    simp only [hJ,if_neg c,He,List.singleton_append,List.cons_append,List.nil_append,mi]
  ·simp only [jo]
   rw [brn (by omega),decide_eq_false (by omega)]
 rw [key];rfl
theorem b2G {root:Tx} {i k:Nat} {leaf:Tx} {path:List Tx} (hi:i<512) (hk:k≤9) (hl:leaf.length≤64) (hp:path.length=k) (hh:Hs path):Cd root ((2^k:Nat):Int) i leaf path=some (H (hJ i leaf path k)==root):=by
 unfold Cd
 have hw:(hJ i leaf path k).length≤100000000:=by
  cases k with
  |zero=>simp only [hJ,MM,List.length_cons];omega
  |succ j=>
   have hx':=hh.getD (k:=j) (by omega)
   have hH':=uQ (hJ i leaf path j)
   simp only [hJ]
   split<;>simp only [He,List.length_cons,List.length_append]<;>omega
 rw [brn (by omega),b49 k hk,obs,fw (by omega),b4C (by omega) hh,obs,ak,b5k hi hk (by omega) hp hh,obs,nr,aa _ (by omega) (by omega),show (((k+1:Nat):Int))-1=(k:Int) by omega,Vc (Nat.le_refl k),obs,uw hw];rfl
theorem On: ∀k:Nat,k≤9→bX .i64 1 (k:Int)=((2^k:Nat):Int):=by decide+kernel
theorem b4n {root:Tx} {i k:Nat} {leaf:Tx} {path:List Tx} (hi:i<512) (hk:k≤9) (hl:leaf.length≤64) (hp:path.length=k) (hh:Hs path):od root ((2^k:Nat):Int) i leaf path=some (H (hJ i leaf path k)==root):=by
 unfold od
 have hm:mn 20 ((path.length:Nat):Int)=(k:Int):=by rw [hp];simp only [mn];omega
 rw [brn (by omega),hm,cX _ (by omega) (by omega),brd (by omega),On k hk,fw rfl]
 have key:Loop (fD root i leaf path) 0=some (.inr (((path.length:Nat):Int),false)):=
  an (step:=fD root i leaf path) (fun j=>(j:Int)) path.length (fun j hj=>by
   have hx:=hh.getD (k:=j) (by omega)
   simp only [fD]
   rw [brd (by omega),Dv (by omega),obs,fw (by omega),aa _ (by omega) (by omega)];rfl) (by
   simp only [fD]
   rw [brn (by omega),decide_eq_false (by omega)])
 rw [key,obs,ni,up9 hi hk (by omega) hp hh];rfl
end Go.AI.Fn
set_option linter.unusedVariables false
set_option linter.unusedSimpArgs false
namespace Go.AI.Fn
theorem a4z {l:List K} {j:Nat} (hl:l.length≤64) (hj:j<6):Loop (cA ((2^j:Nat):Int) (l.length:Int)) (kv l,0)=some (kv (stK l j),(l.length:Int),false):=by
 have key:=an (step:=cA ((2^j:Nat):Int) (l.length:Int)) (fun i=>(kv (stP l j i),(i:Int))) l.length (e:=(kv (stK l j),(l.length:Int),false)) (fun i hi=> ?_) ?_
 ·have key':Loop (cA ((2^j:Nat):Int) (l.length:Int)) (kv (stP l j 0),0)=_:=key
  rw [Vp] at key';exact key'
 ·simp only [cA]
  have hb:=b5V i (by omega) j hj
  have hlen:(kv (stP l j i)).length=l.length:=by rw [am,lC]
  have hq:1≤2^j:=Nat.one_le_two_pow
  have hb2:(bm .i64 (i:Int) ((2^j:Nat):Int) !=0)= !decide (i/2^j%2=0):=by rw [bne,hb]
  rw [brd (by omega),hb2]
  by_cases c:i/2^j%2=0
  ·rw [decide_eq_true c,Bool.not_true,ak,aa _ (by omega) (by omega),WR c];rfl
  ·obtain ⟨h1,h2,h3⟩:=b5L i (by omega) j hj (by omega)
   have h4:IntKind.wrap .i64 ((i:Int)-((2^j:Nat):Int))=((i-2^j:Nat):Int):=by rw [aa _ (by omega) (by omega)];omega
   rw [decide_eq_false c,Bool.not_false,aR,h4]
   simp only [Int.toNat_natCast]
   rw [brd (by omega),brd (by omega),C4 (by rw [lC];omega),obs,brd (by omega),brd (by omega),C4 (by rw [lC];omega),obs,Cl hi,if_neg (by omega),Cl (by omega),if_neg (by omega),ir (Subtype.property _) (Subtype.property _),obs,brd (by omega),brd (by omega),obs,aa _ (by omega) (by omega), ←a0K hi (by omega)]
   rw [kv,kv,List.map_set];rfl
 ·simp only [cA]
  rw [brn (by omega),decide_eq_false (by omega),a1k]
theorem M3 {l:List K} {v:Nat} (h:l.length=2^v) (hv:v≤6):rY (kv l)=some (kv (cfK v l)):=by
 have hp:=IF v hv
 unfold rY mG
 have key:=an (step:=cV) (fun j=>(kv (cfK j l),((2^j:Nat):Int))) v (e:=(kv (cfK v l),((2^v:Nat):Int),false)) (fun j hj=> ?_) ?_
 ·have key':Loop cV (kv l,1)=_:=key
  rw [List.nil_append,al (by rw [am];omega),key'];rfl
 ·have hlt:2^j<2^v:=Nat.pow_lt_pow_right (by omega) hj
  have hq:1≤2^j:=Nat.one_le_two_pow
  have hl:=ja l j
  simp only [cV,am]
  have hc2:=a4z (l:=cfK j l) (j:=j) (by omega) (by omega)
  rw [brd (by omega),hc2,obs,aa _ (by omega) (by omega),Nat.pow_succ];simp [cfK]
 ·have hl:=ja l v
  simp only [cV,am]
  rw [brn (by omega),decide_eq_false (by omega)]
theorem Ww {k:Nat} {W:List K} (hk:k+1≤9) (hW:W.length=2^(k+1)):te (kv W)=some (lvK k W):=by
 have hp:=p7 (k+1) hk
 have hs:2^(k+1)=2*2^k:=by rw [Nat.pow_succ];omega
 have hh:=B3 k hk
 unfold te
 rw [am,hW,hh]
 have key:=an (step:=fm (kv W) ((2^k:Nat):Int) ((2^k:Nat):Int)) (fun j=>((List.range j).map (lfK k W),(j:Int))) (2^k) (e:=(lvK k W,((2^k:Nat):Int),false)) (fun j hj=> ?_) ?_
 ·have key':Loop (fm (kv W) ((2^k:Nat):Int) ((2^k:Nat):Int)) ([],0)=_:=key
  rw [key'];rfl
 ·simp only [fm]
  rw [brd (by omega),dQ (by omega),obs,aa ((j:Int)+_) (by omega) (by omega),show (j:Int)+((2^k:Nat):Int)=((j+2^k:Nat):Int) by omega,dQ (by omega),obs,vx (by simp),obs,
   al (by simp only [List.length_append,List.length_map,List.length_range,List.length_singleton];omega),aa _ (by omega) (by omega),List.range_succ,List.map_append,List.map_singleton];rfl
 ·simp only [fm]
  rw [brn (by omega),decide_eq_false (by omega)];rfl
def wtK (m:Nat) (W:List K):aG:=⟨kv W,gB ((lvK (m-1) W).map hL) (m-1)⟩
def xt:Nat→List (List K)→List aG
 |_,[]=>[]
 |m,W::Ws=>wtK m W::xt (m-1) Ws
theorem GU: ∀(Ws:List (List K)) (m:Nat),(xt m Ws).length=Ws.length
 |[],_=>rfl
 |W::Ws,m=>by rw [xt,List.length_cons,GU Ws,List.length_cons]
theorem Bt {k:Nat} {W:List K} (hk:k+1≤9) (hW:W.length=2^(k+1)):sO (kv W)=some (wtK (k+1) W):=by
 unfold sO
 rw [Ww hk hW,obs,Wo (Ik k W) (rN k W) (by omega),obs];rfl
theorem MJ (k:Nat) (W:List K) (hk:k≤9):tn (wtK (k+1) W).rows=some (wrK k W):=Xq (by rw [List.length_map,Nat.add_sub_cancel,rN]) hk
theorem I8 {v ρ:Nat} {t:List K} (ht:t.length=2^v) (hv1:1≤v) (hv:v≤6) (h1:1≤ρ) (h3:ρ≤3):kW (kv t) (ρ:Int)=some (wrK (v+ρ-1) (opW v ρ t),0):=by
 have hp:=IF v hv
 have hg:2≤2^v:=by
  obtain ⟨u,rfl⟩: ∃u,v=u+1:=⟨v-1,by omega⟩
  have:=IF u (by omega)
  rw [Nat.pow_succ];omega
 obtain ⟨q,hq⟩: ∃q,v+ρ=q+1:=⟨v+ρ-1,by omega⟩
 unfold kW
 rw [am,brn (by omega),JV hv ht,obs,Bool.not_true,ak,oh,obs,ht,decide_eq_true (by omega),decide_eq_true (by omega),Bool.and_self,Bool.not_true,ak,oh,obs,decide_eq_true (by omega),decide_eq_true (by omega),Bool.and_self,Bool.not_true,ak,
  M3 ht hv,obs,FM (m:=v) (t:=ρ) (by omega) (by rw [ja];exact ht),obs,Bt (k:=q) (by omega) (by rw [←hq];exact mZ ht),obs,MJ q _ (by omega),obs,hq,Nat.add_sub_cancel];rfl
theorem Ir {v ρ:Nat} {t:List K} (ht:t.length=2^v) (hv1:1≤v) (hv:v≤6) (h1:1≤ρ) (h3:ρ≤3):kO (kv t) (ρ:Int)=some (wrK (v+ρ-1) (opW v ρ t),0):=by
 have hp:=IF v hv
 have hg:2≤2^v:=by
  obtain ⟨u,rfl⟩: ∃u,v=u+1:=⟨v-1,by omega⟩
  have:=IF u (by omega)
  rw [Nat.pow_succ];omega
 obtain ⟨q,hq⟩: ∃q,v+ρ=q+1:=⟨v+ρ-1,by omega⟩
 unfold kO sh
 rw [am,brn (by omega),Jd hv ht,obs,Bool.not_true,ak,ht,HT hv,obs,aR,obs,decide_eq_true (by omega),Bool.not_true,ak,z8,obs,decide_eq_true (by omega),decide_eq_true (by omega),Bool.and_self,Bool.not_true,ak,
  Rw ht hv (by omega),obs,AN (k:=q) (by omega) (by rw [←hq];exact mZ ht),obs,Ng q _ (by omega),obs,hq,Nat.add_sub_cancel];rfl
end Go.AI.Fn
set_option linter.unusedVariables false
set_option linter.unusedSimpArgs false
namespace Go.AI.Fn
theorem Xt {ρ:Nat} {V:Int} {bh:List K→Source→Source} (hb:b0m bh) (hρ:ρ≤3): ∀(v:Nat) (Q:List K) (T:List (List K)) (W:List K) (s:Source) (k:Int) (pre:List aG) (R:List (List Ext)) (P:List Ext) (Rt:List (List UInt8)),
 OkT 1 (2^(v+1)) T→W.length=2^(v+1+ρ)→Few s k→k+3*(v+1)≤1000→v+1≤6→R.length+(v+1)≤1000→P.length+(v+1)≤1000→Rt.length+(v+1)≤1000→(pre.length:Int)+v+1=V→V≤1000→
 (∀(P':List K) (s':Source),P'≠[]→P'.length≤v+1→bh (Q++P') s'=if P'.length<v+1 then tkM s' (wrK (v+1+ρ-P'.length-1) (wdK (v+1+ρ) W P')) else s')→
 Loop (aO ([]:List Ext) 1) (pre++[wtK (v+1+ρ) W],R,P,Rt,kvv T,s.Script,s.At,s.State,s.Count,V,0,0,0)=
  some (pre++xt (v+1+ρ) (px (v+1+ρ) W (pvM 1 bh (v+1) Q T s).2.1),R++kvv (pvM 1 bh (v+1) Q T s).1,P++kv (pvM 1 bh (v+1) Q T s).2.1,Rt++pJ (v+1+ρ) W (pvM 1 bh (v+1) Q T s).2.1,kvv (pvM 1 bh (v+1) Q T s).2.2.1,false,
   (pvM 1 bh (v+1) Q T s).2.2.2.Script,(pvM 1 bh (v+1) Q T s).2.2.2.At,(pvM 1 bh (v+1) Q T s).2.2.2.State,(pvM 1 bh (v+1) Q T s).2.2.2.Count,V,0,0,0):=by
 intro v
 induction v with
 |zero=>
  intro Q T W s k pre R P Rt hT hW hf hk hv h1 h2 h3 hV hV2 hbh
  have hl:=hT.len
  have hT2:=hT
  rw [ol] at hT2
  have hW2:W.length=2^(ρ+1):=by rw [hW];congr 1;omega
  have hb1:=hbh [rdM s (rdK 1 T (2^0))] (nsM s (rdK 1 T (2^0))) (by simp) (by simp)
  rw [if_neg (by simp)] at hb1
  have hr1:nH 1 (kvv T)=some (kv (rdK 1 T (2^0))):=GV hT2 (by omega)
  have ho:=(hT.up (rdM s (rdK 1 T (2^0))))
  have hlast:(pre++[wtK (0+1+ρ) W])[pre.length]? =some (wtK (0+1+ρ) W):=by simp
  rw [ck (s':=(pre++[wtK (0+1+ρ) W],R++[kv (rdK 1 T (2^0))],P++[(rdM s (rdK 1 T (2^0))).1],Rt,kvv (bdK (rdM s (rdK 1 T (2^0))) T),(nsM s (rdK 1 T (2^0))).Script,(nsM s (rdK 1 T (2^0))).At,(nsM s (rdK 1 T (2^0))).State,(nsM s (rdK 1 T (2^0))).Count,V,0,0,0)) ?_]
  ·rw [cx (e:=(pre++[wtK (0+1+ρ) W],R++[kv (rdK 1 T (2^0))],P++[(rdM s (rdK 1 T (2^0))).1],Rt,kvv (bdK (rdM s (rdK 1 T (2^0))) T),false,(nsM s (rdK 1 T (2^0))).Script,(nsM s (rdK 1 T (2^0))).At,(nsM s (rdK 1 T (2^0))).State,(nsM s (rdK 1 T (2^0))).Count,V,0,0,0)) ?_]
   ·simp only [pvM,hb1,pJ,px,xt,kvv,kv,List.map_cons,List.map_nil,List.length_nil,reduceIte,List.append_nil]
   ·simp only [aO]
    rw [Yv (by simp [bdK];omega),obs,am,ho.tab 0 (by simp [bdK];omega),brn (by decide),decide_eq_false (by decide)]
  ·simp only [aO,fB]
   rw [Yv (by omega),obs,am,hT.tab 0 (by omega),brd (by decide),hr1,obs,show Source.mk s.Script s.At s.State s.Count=s from rfl,NI hf.1 (by rw [BX];omega),obs,a5T hf,obs]
   dsimp only
   rw [EE hT2 (by omega),obs,al (by rw [List.length_append,List.length_singleton];omega),al (by rw [List.length_append,List.length_singleton];omega),List.length_append,List.length_singleton,aa (((pre.length+1:Nat):Int)-1) (by omega) (by omega),show ((pre.length+1:Nat):Int)-1=(pre.length:Int) by omega]
   simp only [Int.toNat_natCast]
   rw [brd (by omega),brd (by omega),hlast,obs]
   rw [show (wtK (0+1+ρ) W).word=kv W from rfl,CK _ (by omega) hW2,obs,bre (by omega),obs]
 |succ v ih=>
  intro Q T W s k pre R P Rt hT hW hf hk hv h1 h2 h3 hV hV2 hbh
  have hl:=hT.len
  have hp:=Zn (v+1) (by omega)
  have hT2:=hT
  rw [ol] at hT2
  have hm:v+1+1+ρ-1=v+1+ρ:=by omega
  have hW2:W.length=2^(v+1+ρ+1):=by rw [hW];congr 1;omega
  have hb1:=hbh [rdM s (rdK 1 T (2^(v+1)))] (nsM s (rdK 1 T (2^(v+1)))) (by simp) (by simp)
  simp only [wdK,List.length_singleton,hm] at hb1
  rw [if_pos (by omega),show v+1+ρ-1=v+ρ by omega] at hb1
  have hin: ∀(P':List K) (s':Source),P'≠[]→P'.length≤v+1→bh (Q++[rdM s (rdK 1 T (2^(v+1)))]++P') s'=if P'.length<v+1 then tkM s' (wrK (v+1+ρ-P'.length-1) (wdK (v+1+ρ) (fwK (v+1+ρ) W (rdM s (rdK 1 T (2^(v+1))))) P')) else s':=fun P' s' hne hle=>by
   have:=hbh (rdM s (rdK 1 T (2^(v+1)))::P') s' (by simp) (by rw [List.length_cons];omega)
   rw [List.append_assoc,List.singleton_append,this,List.length_cons,wdK,hm,show v+1+1+ρ-(P'.length+1)-1=v+1+ρ-P'.length-1 by omega]
   by_cases hc:P'.length<v+1
   ·rw [if_pos hc,if_pos (by omega)]
   ·rw [if_neg hc,if_neg (by omega)]
  have hr1:nH 1 (kvv T)=some (kv (rdK 1 T (2^(v+1)))):=GV hT2 (by omega)
  have hlast:(pre++[wtK (v+1+1+ρ) W])[pre.length]? =some (wtK (v+1+1+ρ) W):=by simp
  have hlast2:(pre++[wtK (v+1+1+ρ) W]++[wtK (v+1+ρ) (fwK (v+1+ρ) W (rdM s (rdK 1 T (2^(v+1)))))])[pre.length+1]? =some (wtK (v+1+ρ) (fwK (v+1+ρ) W (rdM s (rdK 1 T (2^(v+1)))))):=by simp
  have hnf:=yP hf (by omega) (rdK 1 T (2^(v+1)))
  have hih:=ih (Q++[rdM s (rdK 1 T (2^(v+1)))]) (bdK (rdM s (rdK 1 T (2^(v+1)))) T) (fwK (v+1+ρ) W (rdM s (rdK 1 T (2^(v+1))))) (bh (Q++[rdM s (rdK 1 T (2^(v+1)))]) (nsM s (rdK 1 T (2^(v+1))))) (k+2+1) (pre++[wtK (v+1+1+ρ) W])
   (R++[kv (rdK 1 T (2^(v+1)))]) (P++[(rdM s (rdK 1 T (2^(v+1)))).1]) (Rt++[wrK (v+ρ) (fwK (v+1+ρ) W (rdM s (rdK 1 T (2^(v+1)))))]) (hT.up _) (u2 _ _ _) (hb _ _ _ hnf (by omega)) (by omega) (by omega) (by rw [List.length_append,List.length_singleton];omega) (by rw [List.length_append,List.length_singleton];omega) (by rw [List.length_append,List.length_singleton];omega)
   (by rw [List.length_append,List.length_singleton];omega) hV2 hin
  have hpl:=(Iv (kind:=1) (bh:=bh) (v+1) (Q++[rdM s (rdK 1 T (2^(v+1)))]) (bdK (rdM s (rdK 1 T (2^(v+1)))) T) (bh (Q++[rdM s (rdK 1 T (2^(v+1)))]) (nsM s (rdK 1 T (2^(v+1)))))).2
  rw [ck (s':=(pre++[wtK (v+1+1+ρ) W]++[wtK (v+1+ρ) (fwK (v+1+ρ) W (rdM s (rdK 1 T (2^(v+1)))))],R++[kv (rdK 1 T (2^(v+1)))],P++[(rdM s (rdK 1 T (2^(v+1)))).1],Rt++[wrK (v+ρ) (fwK (v+1+ρ) W (rdM s (rdK 1 T (2^(v+1)))))],kvv (bdK (rdM s (rdK 1 T (2^(v+1)))) T),(bh (Q++[rdM s (rdK 1 T (2^(v+1)))]) (nsM s (rdK 1 T (2^(v+1))))).Script,(bh (Q++[rdM s (rdK 1 T (2^(v+1)))]) (nsM s (rdK 1 T (2^(v+1))))).At,(bh (Q++[rdM s (rdK 1 T (2^(v+1)))]) (nsM s (rdK 1 T (2^(v+1))))).State,(bh (Q++[rdM s (rdK 1 T (2^(v+1)))]) (nsM s (rdK 1 T (2^(v+1))))).Count,V,0,0,0)) ?_]
  ·rw [hih]
   have e1:pvM 1 bh (v+1+1) Q T s=(rdK 1 T (2^(v+1))::(pvM 1 bh (v+1) (Q++[rdM s (rdK 1 T (2^(v+1)))]) (bdK (rdM s (rdK 1 T (2^(v+1)))) T) (bh (Q++[rdM s (rdK 1 T (2^(v+1)))]) (nsM s (rdK 1 T (2^(v+1)))))).1,
    rdM s (rdK 1 T (2^(v+1)))::(pvM 1 bh (v+1) (Q++[rdM s (rdK 1 T (2^(v+1)))]) (bdK (rdM s (rdK 1 T (2^(v+1)))) T) (bh (Q++[rdM s (rdK 1 T (2^(v+1)))]) (nsM s (rdK 1 T (2^(v+1)))))).2.1,
    (pvM 1 bh (v+1) (Q++[rdM s (rdK 1 T (2^(v+1)))]) (bdK (rdM s (rdK 1 T (2^(v+1)))) T) (bh (Q++[rdM s (rdK 1 T (2^(v+1)))]) (nsM s (rdK 1 T (2^(v+1)))))).2.2):=rfl
   rw [e1]
   simp only [pJ,px,xt,hm,hpl,kvv,kv,List.map_cons,List.append_assoc,List.singleton_append,show v+1+1+ρ-2=v+ρ by omega]
   rw [if_neg (by omega)];rfl
  ·simp only [aO,fB]
   rw [Yv (by omega),obs,am,hT.tab 0 (by omega),ol,brd (by omega),hr1,obs,show Source.mk s.Script s.At s.State s.Count=s from rfl,NI hf.1 (by rw [BX];omega),obs,a5T hf,obs]
   dsimp only
   rw [EE hT2 (by omega),obs,al (by rw [List.length_append,List.length_singleton];omega),al (by rw [List.length_append,List.length_singleton];omega),show (pre++[wtK (v+1+1+ρ) W]).length=pre.length+1 by simp,aa (((pre.length+1:Nat):Int)-1) (by omega) (by omega),show ((pre.length+1:Nat):Int)-1=(pre.length:Int) by omega]
   simp only [Int.toNat_natCast]
   rw [brd (by omega),brd (by omega),hlast,obs]
   rw [show (wtK (v+1+1+ρ) W).word=kv W from rfl,CK _ (by omega) hW2,obs,AL (by omega),Bt (k:=v+ρ) (by omega) (by rw [u2];congr 1;omega),obs,show v+ρ+1=v+1+ρ by omega]
   rw [show (pre++[wtK (v+1+1+ρ) W]++[wtK (v+1+ρ) (fwK (v+1+ρ) W (rdM s (rdK 1 T (2^(v+1)))))]).length=pre.length+1+1 by simp,al (by omega),aa (((pre.length+1+1:Nat):Int)-1) (by omega) (by omega),show ((pre.length+1+1:Nat):Int)-1=((pre.length+1:Nat):Int) by omega]
   simp only [Int.toNat_natCast]
   rw [brd (by omega),brd (by omega),hlast2,obs,show v+1+ρ=v+ρ+1 by omega,MJ _ _ (by omega),obs,al (by rw [List.length_append,List.length_singleton];omega),al (by rw [ER];omega),pr hnf.1.3 (by rw [ER];omega),obs,obs,show v+ρ+1=v+1+ρ by omega,hb1]
end Go.AI.Fn
set_option linter.unusedVariables false
set_option linter.unusedSimpArgs false
namespace Go.AI.Fn
theorem Xi (p q:Nat):p%2^(q+1)%2^q=p%2^q:=Nat.mod_mod_of_dvd p ⟨2,by rw [Nat.pow_succ]⟩
theorem b0j: ∀(Ws:List (List K)) (m p:Nat),Pt m Ws→prK m Ws (p%2^m)=prK m Ws p
 |[],_,_,_=>rfl
 |W::Ws,m,p,h=>by
  obtain ⟨q,rfl⟩: ∃q,m=q+1:=⟨m-1,by have:=h.2.1;omega⟩
  simp only [prK,Nat.add_sub_cancel,Xi]
theorem a9B: ∀(Ws:List (List K)) (m p:Nat),Pt m Ws→ptK m Ws (p%2^m)=ptK m Ws p
 |[],_,_,_=>rfl
 |W::Ws,m,p,h=>by
  obtain ⟨q,rfl⟩: ∃q,m=q+1:=⟨m-1,by have:=h.2.1;omega⟩
  simp only [ptK,Nat.add_sub_cancel,Xi]
theorem H4 {l5:List (List UInt8)} {l6:List aq} {t5:List Int} {t6 t7 N c17 c19 c20 c21 c22 c23 c24 c25 c27 c28 c29 c30:Int} {c16:List Ext} {c18:List UInt8} {c26:List (List Ext)}: ∀(Ws:List (List K)) (pre:List aG) (m p:Nat) (A:List Ext) (B:List (List (List UInt8))),
 Pt m Ws→m≤9→pre.length+Ws.length≤100→A.length+2*Ws.length≤1000→B.length+Ws.length≤1000→p≤1000000→N=((pre++xt m Ws).length:Int)→
 Loop (eo (pre++xt m Ws) l5 l6 (p:Int) t5 t6 t7 N c16 c17 c18 c19 c20 c21 c22 c23 c24 c25 c26 c27 c28 c29 c30) (A,B,(pre.length:Int))=
  some (A++kv (prK m Ws p),B++ptK m Ws p,N,false)
 |[],pre,m,p,A,B,h,hm,h1,h2,h3,hk,hN=>by
  rw [xt,List.append_nil] at hN
  refine cx ?_
  simp only [eo]
  rw [brn (by omega),decide_eq_false (by omega), ←hN]
  simp [prK,ptK,kv]
 |W::Ws,pre,m,p,A,B,h,hm,h1,h2,h3,hk,hN=>by
  obtain ⟨hW,hm1,hws⟩:=h
  rw [List.length_cons] at h1 h2 h3
  obtain ⟨q,rfl⟩: ∃q,m=q+1:=⟨m-1,by omega⟩
  have hp:=p7 (q+1) hm
  have hs:2^(q+1)=2*2^q:=by rw [Nat.pow_succ];omega
  have hh:=B3 q hm
  have hq:p%2^q<2^q:=Nat.mod_lt _ (by omega)
  have hL2:(pre++xt (q+1) (W::Ws)).length=pre.length+(Ws.length+1):=by rw [List.length_append,GU,List.length_cons]
  have hlt:(pre.length:Int)<N:=by rw [hN,hL2];omega
  have hget:(pre++xt (q+1) (W::Ws))[pre.length]? =some (wtK (q+1) W):=by simp [xt]
  have hmod:(p:Int).tmod ((2^q:Nat):Int)=((p%2^q:Nat):Int):=by rw [bq _ _ (by omega)];omega
  have ih:=H4 (l5:=l5) (l6:=l6) (t5:=t5) (t6:=t6) (t7:=t7) (N:=N) (c16:=c16) (c17:=c17) (c18:=c18) (c19:=c19) (c20:=c20) (c21:=c21) (c22:=c22) (c23:=c23) (c24:=c24) (c25:=c25) (c26:=c26) (c27:=c27) (c28:=c28) (c29:=c29) (c30:=c30)
   Ws (pre++[wtK (q+1) W]) q p (A++[(W.getD (p%2^q) 0).1,(W.getD (p%2^q+2^q) 0).1]) (B++[gP ((lvK q W).map hL) q (p%2^q)]) hws (by omega) (by rw [List.length_append,List.length_singleton];omega)
   (by rw [List.length_append];simp only [List.length_cons,List.length_nil];omega) (by rw [List.length_append,List.length_singleton];omega) (by omega) (by rw [hN,hL2,List.append_assoc,List.length_append,List.singleton_append,List.length_cons,GU])
  rw [List.append_assoc,List.singleton_append,List.length_append,List.length_singleton] at ih
  rw [ck (s':=(A++[(W.getD (p%2^q) 0).1,(W.getD (p%2^q+2^q) 0).1],B++[gP ((lvK q W).map hL) q (p%2^q)],((pre.length+1:Nat):Int))) ?_]
  ·rw [show pre++xt (q+1) (W::Ws)=pre++wtK (q+1) W::xt q Ws from rfl,ih]
   simp only [prK,ptK,Nat.add_sub_cancel,b0j Ws q p hws,a9B Ws q p hws]
   simp [kv]
  ·simp only [eo,Int.toNat_natCast]
   rw [brd hlt,brd (by omega),brd (by rw [hL2];omega),hget,obs,show (wtK (q+1) W).word=kv W from rfl,am,hW,hh,hmod,brd (by omega),dQ (by omega),obs,aa (((p%2^q:Nat):Int)+_) (by omega) (by omega),show ((p%2^q:Nat):Int)+((2^q:Nat):Int)=((p%2^q+2^q:Nat):Int) by omega,dQ (by omega),obs,
    al (by rw [List.length_append];simp only [List.length_cons,List.length_nil];omega),show (wtK (q+1) W).rows=gB ((lvK q W).map hL) q from rfl,Vo (by rw [List.length_map,rN]) (by omega) hq,obs,al (by rw [List.length_append,List.length_singleton];omega),aa _ (by omega) (by omega)];rfl
theorem N9 {l2:List (List UInt8)} {c2 c4 c5 c6 c7 c8 c9 c10 c12 c13 c14 c15:Int} {c:List Ext} {c3:List UInt8} {c11:List (List Ext)} {Ws:List (List K)} {m:Nat} {pl:List Int} (h:Pt m Ws) (hm:m≤9) (hl:Ws.length≤100) (hp:pl.length≤1000) (hr: ∀x∈pl,0≤x∧x≤1000000):
 Loop (dm (xt m Ws) l2 pl (pl.length:Int) c c2 c3 c4 c5 c6 c7 c8 c9 c10 c11 c12 c13 c14 c15) ([],0)=some (pl.map (qsM m Ws),(pl.length:Int),false):=by
 refine an (step:=dm (xt m Ws) l2 pl (pl.length:Int) c c2 c3 c4 c5 c6 c7 c8 c9 c10 c11 c12 c13 c14 c15) (fun j=>((pl.take j).map (qsM m Ws),(j:Int))) pl.length (fun j hj=> ?_) ?_
 ·have hx:=hr _ (List.getElem_mem hj)
  have hq:=H4 (l5:=l2) (l6:=(pl.take j).map (qsM m Ws)) (t5:=pl) (t6:=(pl.length:Int)) (t7:=(j:Int)) (N:=((xt m Ws).length:Int)) (c16:=c) (c17:=c2) (c18:=c3) (c19:=c4) (c20:=c5) (c21:=c6) (c22:=c7) (c23:=c8) (c24:=c9) (c25:=c10) (c26:=c11) (c27:=c12) (c28:=c13) (c29:=c14) (c30:=c15)
   Ws [] m (pl[j].toNat) [] [] h hm (by rw [List.length_nil];omega) (by rw [List.length_nil];omega) (by rw [List.length_nil];omega) (by omega) rfl
  rw [List.nil_append,Int.toNat_of_nonneg hx.1,List.length_nil] at hq
  simp only [dm]
  rw [brd (by omega),bS hj,obs,show ((0:Int))=((0:Nat):Int) from rfl,hq,obs,al (by rw [List.length_append,List.length_map,List.length_take,List.length_singleton];omega),aa _ (by omega) (by omega),cr hj,List.map_append];rfl
 ·simp only [dm]
  rw [brn (by omega),decide_eq_false (by omega),List.take_of_length_le (by omega)]
variable {v ρ:Nat} {t P:List K} {s:Source} {k:Int}
theorem a3L {st:Setting} {nq bits:Nat} (ht:t.length=2^v) (hP:P.length=v) (hv1:1≤v) (hv:v≤6) (hρ:ρ≤3) (hq1:nq≤8) (hb:bits≤12) (e1:st.Rate=(ρ:Int)) (e2:st.Queries=(nq:Int)) (e3:st.Grind=(bits:Int)) (hf:Few s k) (hk:k≤800):
 kU (kv t) (kv P) st s=some ((JL v ρ nq bits t P s).1,(JL v ρ nq bits t P s).2.2,(JL v ρ nq bits t P s).2.1):=by
 have hk0:0≤k:=by have:=hf.2;have:=hf.1.4;omega
 have hp:=IF v hv
 have hkk:k+3*v≤900:=by omega
 obtain ⟨u,rfl⟩: ∃u,v=u+1:=⟨v-1,by omega⟩
 obtain ⟨q,hq⟩: ∃q,u+1+ρ=q+1:=⟨u+ρ,by omega⟩
 have hfQ:=TG (ρ:=ρ) (t:=t) (P:=P) hf hkk
 have hfS:=So (ρ:=ρ) (t:=t) (P:=P) hf hkk
 have hloop:=Xt (V:=((u+1:Nat):Int)) (bh:=bhO (u+1) ρ (opW (u+1) ρ t)) (YF (u+1) ρ _) hρ u [] [t,eqK P] (opW (u+1) ρ t) s k [] [] [] [] (a2z ht hP) (mZ ht) hf (by omega) hv (by rw [List.length_nil];omega) (by rw [List.length_nil];omega) (by rw [List.length_nil];omega) (by rw [List.length_nil];omega) (by omega) (fun P' s' _ _=>rfl)
 have hfin:OkT 1 1 (opQ (u+1) ρ t P s).2.2.1:=Sn (u+1) _ _ _ (a2z ht hP)
 have hrl:=(FK (u+1) ρ t P s).2
 have hpo:=Lc (opQ (u+1) ρ t P s).2.1 (u+1+ρ) (opW (u+1) ρ t) (mZ ht) (by omega)
 have hwl:=xn (opQ (u+1) ρ t P s).2.1 (u+1+ρ) (opW (u+1) ρ t)
 have hT0:(opQ (u+1) ρ t P s).2.2.1.length=2:=hfin.len
 have hlast:=fun c9 c10 c11 c12 c13 c14 c15 c16 l7 l8 l9 l11=>an (step:=bf l7 l8 l9 l11 (kvv (opQ (u+1) ρ t P s).2.2.1) (((kvv (opQ (u+1) ρ t P s).2.2.1).length:Nat):Int) c9 c10 c11 c12 c13 c14 c15 c16) (fun j=>(kv ((u7 (opQ (u+1) ρ t P s).2.2.1).take j),(j:Int))) (opQ (u+1) ρ t P s).2.2.1.length (e:=(kv (u7 (opQ (u+1) ρ t P s).2.2.1),((opQ (u+1) ρ t P s).2.2.1.length:Int),false)) (fun j hj=>by
  simp only [bf,gE]
  rw [brd (by omega),vD hj,obs,kv0 (by rw [hfin.tab j hj];omega),obs,al (by rw [List.length_append,am,List.length_take,Rp,List.length_singleton];omega),aa _ (by omega) (by omega),a2p hj,kvS];rfl) (by
  simp only [bf,gE]
  rw [brn (by omega),decide_eq_false (by omega),List.take_of_length_le (by rw [Rp];omega)])
 have hps:bO 1 (kvv [t,eqK P]) s ((u+1:Nat):Int) 0 0 0 [wtK (u+1+ρ) (opW (u+1) ρ t)]=some (kvv (opQ (u+1) ρ t P s).1,kv (opQ (u+1) ρ t P s).2.1,kv (u7 (opQ (u+1) ρ t P s).2.2.1),(opQ (u+1) ρ t P s).2.2.2,((u+1:Nat):Int),0,0,0,xt (u+1+ρ) (px (u+1+ρ) (opW (u+1) ρ t) (opQ (u+1) ρ t P s).2.1),pJ (u+1+ρ) (opW (u+1) ρ t) (opQ (u+1) ρ t P s).2.1):=by
  unfold bO
  rw [List.nil_append] at hloop
  rw [hloop,obs]
  simp only [List.nil_append]
  rw [show pvM 1 (bhO (u+1) ρ (opW (u+1) ρ t)) (u+1) [] [t,eqK P] s=opQ (u+1) ρ t P s from rfl]
  have hl2:=hlast (opQ (u+1) ρ t P s).2.2.2.Script (opQ (u+1) ρ t P s).2.2.2.At (opQ (u+1) ρ t P s).2.2.2.State (opQ (u+1) ρ t P s).2.2.2.Count ((u+1:Nat):Int) 0 0 0 (xt (u+1+ρ) (px (u+1+ρ) (opW (u+1) ρ t) (opQ (u+1) ρ t P s).2.1)) (kvv (opQ (u+1) ρ t P s).1) (kv (opQ (u+1) ρ t P s).2.1) (pJ (u+1+ρ) (opW (u+1) ρ t) (opQ (u+1) ρ t P s).2.1)
  rw [List.take_zero] at hl2
  rw [show (([]:List Ext),(0:Int))=(kv [],((0:Nat):Int)) from rfl,hl2];rfl
 have hll:u7 (opQ (u+1) ρ t P s).2.2.1=[opL (u+1) ρ t P s,((opQ (u+1) ρ t P s).2.2.1.getD 1 []).getD 0 0]:=by
  match hx:(opQ (u+1) ρ t P s).2.2.1,hT0 with
  |[x,y],_=>simp only [u7,opL,hx];rfl
 unfold kU
 rw [M3 ht hv,obs,e1,FM (m:=u+1) (t:=ρ) (by omega) (by rw [ja];exact ht),obs,show Enc (u+1) ρ (cfK (u+1) t)=opW (u+1) ρ t from rfl,Bt (k:=q) (by omega) (by rw [←hq];exact mZ ht),obs,F7 (zf P) (by rw [am];omega),obs,TN,am,hP, ←hq,
  show ([kv t,kv (eqK P)]:List (List Ext))=kvv [t,eqK P] from rfl,hps,obs]
 dsimp only
 rw [hll,show kv [opL (u+1) ρ t P s,((opQ (u+1) ρ t P s).2.2.1.getD 1 []).getD 0 0]=[(opL (u+1) ρ t P s).1,(((opQ (u+1) ρ t P s).2.2.1.getD 1 []).getD 0 0).1] from rfl,show atL [(opL (u+1) ρ t P s).1,(((opQ (u+1) ρ t P s).2.2.1.getD 1 []).getD 0 0).1] 0=some (opL (u+1) ρ t P s).1 from rfl,obs,
  show ([(opL (u+1) ρ t P s).1]:List Ext)=kv [opL (u+1) ρ t P s] from rfl,NI hfQ.1 (by simp),obs,show rsM (opQ (u+1) ρ t P s).2.2.2 [opL (u+1) ρ t P s]=opS (u+1) ρ t P s from rfl,e3,ZI hfS.1.3 hb,obs]
 cases hg:ij (opS (u+1) ρ t P s).State bits with
 |none=>
  dsimp only
  rw [yS hg,brd (by decide)]
 |some n=>
  have hfT:=GX (ρ:=ρ) (t:=t) (P:=P) hf hkk n
  dsimp only
  rw [yV hg,brn (show ¬(((n:Nat):Int)<0) from Int.not_lt.2 (Int.natCast_nonneg n)),wX,obs,pr hfS.1.3 (by rw [eP];omega),obs,show tkM (opS (u+1) ρ t P s) (dX (n:Int))=opT (u+1) ρ n t P s from rfl,e2,NU hfT (by omega) (by omega),obs,brd (by rw [GU,hwl];omega)]
  have hgt:(xt (u+1+ρ) (px (u+1+ρ) (opW (u+1) ρ t) (opQ (u+1) ρ t P s).2.1))[0]? =some (wtK (u+1+ρ) (opW (u+1) ρ t)):=by
   match hL:(opQ (u+1) ρ t P s).2.1,hrl with
   |r::L,_=>rfl
   |[],h=>exfalso;rw [List.length_nil] at h;omega
  have hpq:=p7 q (by omega)
  have hpl:=a7C (M8 hfT (by omega) (n:=nq) (by omega)) (m:=2^q) (by omega) (by omega)
  rw [hgt,obs,show (wtK (u+1+ρ) (opW (u+1) ρ t)).word=kv (opW (u+1) ρ t) from rfl,am,mZ ht,hq,B3 q (by omega),Js (by rw [lu];omega) (M8 hfT (by omega) (by omega)) (by omega),obs]
  rw [hq] at hpo
  rw [N9 hpo (by omega) (by rw [xn];omega) (by rw [plM,List.length_map,lu];omega) hpl,obs,opO,hq,Nat.add_sub_cancel]
theorem OW {st:Setting} {nq bits:Nat} (ht:t.length=2^v) (hP:P.length=v) (hv1:1≤v) (hv:v≤6) (hst:setB st=true) (e1:st.Rate=(ρ:Int)) (e2:st.Queries=(nq:Int)) (e3:st.Grind=(bits:Int)) (hf:Few s k) (hk:k≤800):
 pH (kv t) (kv P) st s=some (match ij (opS v ρ t P s).State bits with|none=>(⟨[],[],⟨0,0⟩,0,[]⟩,⟨[],0,[],0⟩,14)|some n=>(opO v ρ nq n t P s,drS (opT v ρ n t P s) nq,0)):=by
 have hk0:0≤k:=by have:=hf.2;have:=hf.1.4;omega
 have hp:=IF v hv
 have hs2:=n9 hst
 have hlen:=hf.1.1
 have hg:2≤2^v:=by
  obtain ⟨u,rfl⟩: ∃u,v=u+1:=⟨v-1,by omega⟩
  have:=IF u (by omega)
  rw [Nat.pow_succ];omega
 obtain ⟨z,hz,hz1,_⟩:=a1n hf (by omega)
 have hop:=a3L (ρ:=ρ) (nq:=nq) (bits:=bits) ht hP hv1 hv (by omega) (by omega) (by omega) e1 e2 e3 hf hk
 unfold pH
 rw [am,am,brn (by omega),brn (by omega),JV hv ht,obs,Bool.not_true,ak,Gx (by rw [am];omega),obs,am,I6.2 (zf P),decide_eq_true (by omega),Bool.and_self,Bool.not_true,ak,mN,obs,hst,Bool.not_true,ak,Gl hf.1,obs,Bool.not_true,ak,
  ht,AL (by omega),hP,brd (by omega),a2s (by omega),fw rfl,hz,obs,brn (by omega),Jo (by omega),obs,hop,obs]
 cases hg:ij (opS v ρ t P s).State bits with
 |none=>rw [yS hg];rfl
 |some n=>
  rw [yV hg]
  dsimp only
  rw [Bool.not_true,ak]
end Go.AI.Fn
set_option linter.unusedVariables false
set_option linter.unusedSimpArgs false
namespace Go.AI.Fn
def QSh:Nat→List (List UInt8)→List K→List (List (List UInt8))→List K→Prop
 |_,[],[],[],[]=>True
 |m,_::rts,_::_::prs,p::pths,_::D=>1≤m∧p.length=m-1∧Hs p∧QSh (m-1) rts prs pths D
 |_,_,_,_,_=>False
def xz:Option K→Ext
 |none=>e0
 |some d=>d.1
theorem j3 {α:Type} {pre l:List α} {x:α} {i:Int} (h:i=(pre.length:Int)):atL (pre++x::l) i=some x:=by subst h;rw [bS (by simp)];simp
theorem vP (pre l:List K):kv (pre++l)=kv pre++kv l:=a5A pre l
theorem R3 {l:K} {V:Int} {c:List (List Ext)} {c2:List (List UInt8)} {c3 c4 c5:Int} {c6:List aq}: ∀(rts:List (List UInt8)) (prs:List K) (pths:List (List (List UInt8))) (D:List K) (m:Nat) (preR:List (List UInt8)) (preP:List K) (preT:List (List (List UInt8))) (preD:List K) (k:Nat) (due:Option K),
 QSh m rts prs pths D→m≤9→preP.length=2*preR.length→preT.length=preR.length→preD.length=preR.length→V=((preR.length+rts.length:Nat):Int)→preR.length+rts.length≤100→k<2^9→(due=none↔preR.length=0)→(rts=[]→due≠none)→
 (Loop (ft (preR++rts) V (kv (preD++D)) c c2 c3 c4 c5 c6 (kv (preP++prs)) (preT++pths)) (((2^m:Nat):Int),(k:Int),(preR.length:Int),(xz due).A,(xz due).B)).bind (alt (fun e_2=>some e_2.1) (fun e_3=>br (e_3.2.2.2.2.1==l.1.A) (br (e_3.2.2.2.2.2==l.1.B) (some 0) (some 13)) (some 13)))=
  some (qcK l m rts prs pths D k due)
 |[],prs,pths,D,m,preR,preP,preT,preD,k,due,h,hm,h1,h2,h3,hV,hb,hk,hd,hn=>by
  match prs,pths,D,h with
  |[],[],[],_=>
   cases due with
   |none=>exact absurd rfl (hn rfl)
   |some d=>
    rw [cx (e:= .inr (((2^m:Nat):Int),(k:Int),(preR.length:Int),false,d.1.A,d.1.B)) (by
     simp only [ft,xz]
     rw [brn (by rw [hV,List.length_nil];omega),decide_eq_false (by rw [hV,List.length_nil];omega)])]
    rw [obs,ni]
    dsimp only
    rw [Qq]
    show _=some (if some d=some l then (0:Int) else 13)
    by_cases e:d=l
    ·rw [if_pos e,if_pos (by rw [e])]
    ·rw [if_neg e,if_neg (fun h=>e (Option.some.inj h))]
 |rt::rts,prs,pths,D,m,preR,preP,preT,preD,k,due,h,hm,h1,h2,h3,hV,hb,hk,hd,hn=>by
  match prs,pths,D,h with
  |a::b::prs,p::pths,r::D,⟨hm1,hpl,hph,hq⟩=>
   obtain ⟨q,rfl⟩: ∃q,m=q+1:=⟨m-1,by omega⟩
   rw [List.length_cons] at hV hb
   have hp:=p7 (q+1) hm
   have hs:2^(q+1)=2*2^q:=by rw [Nat.pow_succ];omega
   have hh:=B3 q hm
   have hat:k%2^q<2^q:=Nat.mod_lt _ (by omega)
   have hmod:(k:Int).tmod ((2^q:Nat):Int)=((k%2^q:Nat):Int):=by rw [bq _ _ (by omega)];omega
   have hk2:k%2^q<2^9:=Nat.lt_of_lt_of_le hat (by omega)
   have hcheck:od rt ((2^q:Nat):Int) ((k%2^q:Nat):Int) (nB a b) p=some (H (hJ (k%2^q) (nB a b) p q)==rt):=b4n (by omega) (by omega) (by rw [nB,Gh];simp) (by omega) hph
   have ih:=R3 (l:=l) (V:=V) (c:=c) (c2:=c2) (c3:=c3) (c4:=c4) (c5:=c5) (c6:=c6) rts prs pths D q (preR++[rt]) (preP++[a,b]) (preT++[p]) (preD++[r]) (k%2^q) (some (fpK (q+1) (k%2^q) a b r)) hq (by omega)
    (by simp only [List.length_append,List.length_cons,List.length_nil];omega) (by simp only [List.length_append,List.length_cons,List.length_nil];omega) (by simp only [List.length_append,List.length_cons,List.length_nil];omega) (by rw [hV];simp only [List.length_append,List.length_cons,List.length_nil];omega) (by simp only [List.length_append,List.length_cons,List.length_nil];omega) hk2 (by simp) (by simp)
   simp only [List.append_assoc,List.singleton_append,List.cons_append,List.nil_append,List.length_append,List.length_singleton] at ih
   have hR:atL (preR++rt::rts) (preR.length:Int)=some rt:=j3 rfl
   have hT:atL (preT++p::pths) (preR.length:Int)=some p:=j3 (by omega)
   have hD:atL (kv (preD++r::D)) (preR.length:Int)=some r.1:=by rw [vP];exact j3 (by rw [am];omega)
   have hA:atL (kv (preP++a::b::prs)) (2*(preR.length:Int))=some a.1:=by rw [vP];exact j3 (by rw [am];omega)
   have hB:atL (kv (preP++a::b::prs)) (2*(preR.length:Int)+1)=some b.1:=by
    rw [show preP++a::b::prs=(preP++[a])++b::prs by simp,vP];exact j3 (by rw [am,List.length_append,List.length_singleton];omega)
   have hstep:ft (preR++rt::rts) V (kv (preD++r::D)) c c2 c3 c4 c5 c6 (kv (preP++a::b::prs)) (preT++p::pths) (((2^(q+1):Nat):Int),(k:Int),(preR.length:Int),(xz due).A,(xz due).B)=
    if (H (hJ (k%2^q) (nB a b) p q)==rt)=false then some (.inr (.inl (9,(xz due).A,(xz due).B,a.1.A,a.1.B,b.1.A,b.1.B)))
    else if a2d due (if 2^q≤k then b else a) then some (.inr (.inl (12,(xz due).A,(xz due).B,a.1.A,a.1.B,b.1.A,b.1.B)))
    else some (.inl (((2^q:Nat):Int),((k%2^q:Nat):Int),((preR.length+1:Nat):Int),(fpK (q+1) (k%2^q) a b r).1.A,(fpK (q+1) (k%2^q) a b r).1.B)):=by
    simp only [ft,hh]
    rw [brd (by omega),brd (by omega),aa (2*(preR.length:Int)) (by omega) (by omega),hA,obs,aa (2*(preR.length:Int)+1) (by omega) (by omega),hB,obs,hR,obs,Ec (by simp),obs,hT,obs,hmod,show ([a.1,b.1]:List Ext).flatMap e8=nB a b from rfl,hcheck,obs]
    cases hc:(H (hJ (k%2^q) (nB a b) p q)==rt) with
    |false=>rw [if_pos rfl,Bool.not_false,aR]
    |true=>
     rw [if_neg (by simp),Bool.not_true,ak]
     have hpair:=QS (k:=q+1) (i:=k%2^q) a b r hm (by omega)
     cases due with
     |none=>
      rw [brn (by have:=hd.1 rfl;omega),hD,obs,hpair,obs,aa _ (by omega) (by omega),if_neg (by rintro ⟨d,h,_⟩;cases h)];rfl
     |some d=>
      rw [brd (by have:preR.length≠0:=fun e=>by cases hd.2 e
                  omega)]
      by_cases hlow:k<2^q
      ·have hown:(if 2^q≤k then b else a)=a:=if_neg (by omega)
       rw [hown,brd (by omega),decide_eq_true (show (k:Int)<((2^q:Nat):Int) by omega)]
       show br (a.1.A==d.1.A) (br (a.1.B==d.1.B) _ _) _=_
       rw [Qq]
       by_cases e:a=d
       ·rw [if_pos e,if_neg (by rintro ⟨x,h,h'⟩;cases h;exact h' e),hD,obs,hpair,obs,aa _ (by omega) (by omega)];rfl
       ·rw [if_neg e,if_pos ⟨d,rfl,e⟩]
      ·have hown:(if 2^q≤k then b else a)=b:=if_pos (by omega)
       rw [hown,brn (by omega),decide_eq_false (show ¬(k:Int)<((2^q:Nat):Int) by omega)]
       show br (b.1.A==d.1.A) (br (b.1.B==d.1.B) _ _) _=_
       rw [Qq]
       by_cases e:b=d
       ·rw [if_pos e,if_neg (by rintro ⟨x,h,h'⟩;cases h;exact h' e),hD,obs,hpair,obs,aa _ (by omega) (by omega)];rfl
       ·rw [if_neg e,if_pos ⟨d,rfl,e⟩]
   rw [qcK,Nat.add_sub_cancel]
   by_cases hc:(H (hJ (k%2^q) (nB a b) p q)==rt)=false
   ·rw [if_pos hc] at hstep ⊢
    rw [cx hstep,obs,lB]
   ·rw [if_neg hc] at hstep ⊢
    by_cases ho:a2d due (if 2^q≤k then b else a)
    ·rw [if_pos ho] at hstep ⊢
     rw [cx hstep,obs,lB]
    ·rw [if_neg ho] at hstep ⊢
     rw [ck hstep];exact ih
theorem Rb {l:K} {M:Nat} {V:Int} {c:List (List Ext)} {c2:List (List UInt8)} {c3 c4 c5:Int} {c6:List aq}: ∀(rts:List (List UInt8)) (prs:List K) (pths:List (List (List UInt8))) (D:List K) (m:Nat) (preR:List (List UInt8)) (preP:List K) (preT:List (List (List UInt8))) (preD:List K) (k:Nat) (due:Option K),
 QSh m rts prs pths D→M≤9→m+preR.length=M→preP.length=2*preR.length→preT.length=preR.length→preD.length=preR.length→V=((preR.length+rts.length:Nat):Int)→preR.length+rts.length≤100→k<2^9→(due=none↔preR.length=0)→(rts=[]→due≠none)→
 (Loop (cD (kv (preD++D)) ((2^M:Nat):Int) (preR++rts) V c c2 c3 c4 c5 c6 (kv (preP++prs)) (preT++pths)) ((k:Int),(preR.length:Int),(xz due).A,(xz due).B)).bind (alt (fun e_2=>some 9) (alt (fun e_3=>some 12) (fun e_4=>br (e_4.2.2.2.1==l.1.A) (br (e_4.2.2.2.2==l.1.B) (some 0) (some 13)) (some 13))))=
  some (qcK l m rts prs pths D k due)
 |[],prs,pths,D,m,preR,preP,preT,preD,k,due,h,hM,hm,h1,h2,h3,hV,hb,hk,hd,hn=>by
  match prs,pths,D,h with
  |[],[],[],_=>
   cases due with
   |none=>exact absurd rfl (hn rfl)
   |some d=>
    rw [cx (e:= .inr (.inr ((k:Int),(preR.length:Int),false,d.1.A,d.1.B))) (by
     simp only [cD,xz]
     rw [brn (by rw [hV,List.length_nil];omega),decide_eq_false (by rw [hV,List.length_nil];omega)])]
    rw [obs,ni,ni]
    dsimp only
    rw [Qq]
    show _=some (if some d=some l then (0:Int) else 13)
    by_cases e:d=l
    ·rw [if_pos e,if_pos (by rw [e])]
    ·rw [if_neg e,if_neg (fun h=>e (Option.some.inj h))]
 |rt::rts,prs,pths,D,m,preR,preP,preT,preD,k,due,h,hM,hm,h1,h2,h3,hV,hb,hk,hd,hn=>by
  match prs,pths,D,h with
  |a::b::prs,p::pths,r::D,⟨hm1,hpl,hph,hq⟩=>
   obtain ⟨q,rfl⟩: ∃q,m=q+1:=⟨m-1,by omega⟩
   rw [List.length_cons] at hV hb
   have hp:=p7 (q+1) (by omega)
   have hs:2^(q+1)=2*2^q:=by rw [Nat.pow_succ];omega
   have hsh:aM .i64 ((2^M:Nat):Int) (preR.length:Int)=((2^(q+1):Nat):Int):=by rw [b0F M hM preR.length (by omega),show M-preR.length=q+1 by omega]
   have hh:=B3 q (by omega)
   have hat:k%2^q<2^q:=Nat.mod_lt _ (by omega)
   have hmod:(k:Int).tmod ((2^q:Nat):Int)=((k%2^q:Nat):Int):=by rw [bq _ _ (by omega)];omega
   have hk2:k%2^q<2^9:=Nat.lt_of_lt_of_le hat (by omega)
   have hcheck:Cd rt ((2^q:Nat):Int) ((k%2^q:Nat):Int) (nB a b) p=some (H (hJ (k%2^q) (nB a b) p q)==rt):=b2G (by omega) (by omega) (by rw [nB,Gh];simp) (by omega) hph
   have ih:=Rb (l:=l) (M:=M) (V:=V) (c:=c) (c2:=c2) (c3:=c3) (c4:=c4) (c5:=c5) (c6:=c6) rts prs pths D q (preR++[rt]) (preP++[a,b]) (preT++[p]) (preD++[r]) (k%2^q) (some (fpK (q+1) (k%2^q) a b r)) hq hM
    (by simp only [List.length_append,List.length_cons,List.length_nil];omega) (by simp only [List.length_append,List.length_cons,List.length_nil];omega) (by simp only [List.length_append,List.length_cons,List.length_nil];omega) (by simp only [List.length_append,List.length_cons,List.length_nil];omega) (by rw [hV];simp only [List.length_append,List.length_cons,List.length_nil];omega) (by simp only [List.length_append,List.length_cons,List.length_nil];omega) hk2 (by simp) (by simp)
   simp only [List.append_assoc,List.singleton_append,List.cons_append,List.nil_append,List.length_append,List.length_singleton] at ih
   have hR:atL (preR++rt::rts) (preR.length:Int)=some rt:=j3 rfl
   have hT:atL (preT++p::pths) (preR.length:Int)=some p:=j3 (by omega)
   have hD:atL (kv (preD++r::D)) (preR.length:Int)=some r.1:=by rw [vP];exact j3 (by rw [am];omega)
   have hA:atL (kv (preP++a::b::prs)) (2*(preR.length:Int))=some a.1:=by rw [vP];exact j3 (by rw [am];omega)
   have hB:atL (kv (preP++a::b::prs)) (2*(preR.length:Int)+1)=some b.1:=by
    rw [show preP++a::b::prs=(preP++[a])++b::prs by simp,vP];exact j3 (by rw [am,List.length_append,List.length_singleton];omega)
   have hstep:(H (hJ (k%2^q) (nB a b) p q)==rt)=false∧(∃e,cD (kv (preD++r::D)) ((2^M:Nat):Int) (preR++rt::rts) V c c2 c3 c4 c5 c6 (kv (preP++a::b::prs)) (preT++p::pths) ((k:Int),(preR.length:Int),(xz due).A,(xz due).B)=some (.inr (.inl e)))∨
    (H (hJ (k%2^q) (nB a b) p q)==rt)=true∧a2d due (if 2^q≤k then b else a)∧(∃e,cD (kv (preD++r::D)) ((2^M:Nat):Int) (preR++rt::rts) V c c2 c3 c4 c5 c6 (kv (preP++a::b::prs)) (preT++p::pths) ((k:Int),(preR.length:Int),(xz due).A,(xz due).B)=some (.inr (.inr (.inl e))))∨
    (H (hJ (k%2^q) (nB a b) p q)==rt)=true∧ ¬a2d due (if 2^q≤k then b else a)∧cD (kv (preD++r::D)) ((2^M:Nat):Int) (preR++rt::rts) V c c2 c3 c4 c5 c6 (kv (preP++a::b::prs)) (preT++p::pths) ((k:Int),(preR.length:Int),(xz due).A,(xz due).B)=
     some (.inl (((k%2^q:Nat):Int),((preR.length+1:Nat):Int),(fpK (q+1) (k%2^q) a b r).1.A,(fpK (q+1) (k%2^q) a b r).1.B)):=by
    have hpair:=CY (k:=q+1) (i:=k%2^q) a b r (by omega) (by omega)
    simp only [cD,hsh,hh]
    rw [brd (by omega),hR,obs,brd (by omega),brd (by omega),aa (2*(preR.length:Int)) (by omega) (by omega),hA,obs,aa (2*(preR.length:Int)+1) (by omega) (by omega),hB,obs,vx (by simp),obs,hT,obs,hmod,show ([a.1,b.1]:List Ext).flatMap e8=nB a b from rfl,hcheck,obs]
    cases hc:(H (hJ (k%2^q) (nB a b) p q)==rt) with
    |false=>exact .inl ⟨rfl,_,rfl⟩
    |true=>
     refine .inr ?_
     rw [Bool.not_true,ak]
     by_cases hlow:k<2^q
     ·have hown:(if 2^q≤k then b else a)=a:=if_neg (by omega)
      rw [hown,brn (by omega)]
      cases due with
      |none=>
       refine .inr ⟨rfl,(by rintro ⟨d,h,_⟩;cases h), ?_⟩
       rw [brn (by have:=hd.1 rfl;omega),hD,obs,hpair,obs,aa _ (by omega) (by omega)];rfl
      |some d=>
       rw [brd (by have:preR.length≠0:=fun e=>by cases hd.2 e
                   omega)]
       rw [show (xz (some d))=d.1 from rfl,Qq]
       by_cases e:a=d
       ·rw [if_pos e]
        refine .inr ⟨rfl,by rintro ⟨x,h,h'⟩;cases h;exact h' e, ?_⟩
        rw [hD,obs,hpair,obs,aa _ (by omega) (by omega)];rfl
       ·rw [if_neg e]
        exact .inl ⟨rfl,⟨d,rfl,e⟩,_,rfl⟩
     ·have hown:(if 2^q≤k then b else a)=b:=if_pos (by omega)
      rw [hown,brd (by omega)]
      cases due with
      |none=>
       refine .inr ⟨rfl,(by rintro ⟨d,h,_⟩;cases h), ?_⟩
       rw [brn (by have:=hd.1 rfl;omega),hD,obs,hpair,obs,aa _ (by omega) (by omega)];rfl
      |some d=>
       rw [brd (by have:preR.length≠0:=fun e=>by cases hd.2 e
                   omega)]
       rw [show (xz (some d))=d.1 from rfl,Qq]
       by_cases e:b=d
       ·rw [if_pos e]
        refine .inr ⟨rfl,by rintro ⟨x,h,h'⟩;cases h;exact h' e, ?_⟩
        rw [hD,obs,hpair,obs,aa _ (by omega) (by omega)];rfl
       ·rw [if_neg e]
        exact .inl ⟨rfl,⟨d,rfl,e⟩,_,rfl⟩
   rw [qcK,Nat.add_sub_cancel]
   rcases hstep with ⟨hc,e,he⟩|⟨hc,ho,e,he⟩|⟨hc,ho,he⟩
   ·rw [if_pos hc,cx he,obs,lB]
   ·rw [if_neg (by rw [hc];simp),if_pos ho,cx he,obs,ni,lB]
   ·rw [if_neg (by rw [hc];simp),if_neg ho,ck he];exact ih
end Go.AI.Fn
set_option linter.unusedVariables false
set_option linter.unusedSimpArgs false
namespace Go.AI.Fn
theorem a5r {α:Type} {f:α→List UInt8} {c:Nat}: ∀{l:List α},(∀x∈l,(f x).length≤c)→(l.flatMap f).length≤l.length*c
 |[],_=>by simp
 |x::l,h=>by
  have h1:=h x (by simp)
  have h2:=a5r (l:=l) fun y hy=>h y (by simp [hy])
  rw [List.flatMap_cons,List.length_append,List.length_cons,Nat.succ_mul];omega
def flB (P:List (List (List UInt8))):List UInt8:=P.flatMap fun x=>x.flatMap id
structure BoO (o:aC):Prop where
 rn:o.Rounds.length≤6
 rr: ∀g∈o.Rounds,g.length≤3
 ro:o.Roots.length≤6
 rh: ∀x∈o.Roots,x.length≤32
 qn:o.Queries.length≤8
 qp: ∀q∈o.Queries,q.Pairs.length≤12
 qt: ∀q∈o.Queries,q.Paths.length≤6
 qq: ∀q∈o.Queries, ∀p∈q.Paths,p.length≤8∧ ∀x∈p,x.length≤32
theorem b0D {l:List (List UInt8)}:l.all h32=true↔ ∀x∈l,x.length=32:=by simp [List.all_eq_true,h32]
theorem so {v:Nat} {t:Setting} {q:aq} (h:Cq (v:Int) t q=true):q.Pairs.length=2*v∧eD q.Pairs∧q.Paths.length=v∧ ∀j,j<v→(((q.Paths.getD j []).length:Nat):Int)=v+t.Rate-1-j∧ ∀x∈q.Paths.getD j [],x.length=32:=by
 unfold Cq at h
 simp only [Bool.and_eq_true,decide_eq_true_eq] at h
 refine ⟨by omega,I6.1 h.2.1,by omega,fun j hj=> ?_⟩
 have:=pb.1 h.2.2.2 j (by omega)
 unfold RN at this
 simp only [Bool.and_eq_true,decide_eq_true_eq] at this
 exact ⟨this.1,b0D.1 this.2⟩
structure OkO (o:aC) (v:Nat) (t:Setting):Prop where
 v1:1≤v∧v≤6
 st:setB t=true
 rn:o.Rounds.length=v
 rr: ∀g∈o.Rounds,g.length=3∧eD g
 ro:o.Roots.length=v-1
 rh: ∀x∈o.Roots,x.length=32
 la:okE o.Last
 no:0≤o.Nonce∧o.Nonce≤65535
 qn:(o.Queries.length:Int)=t.Queries
 qq: ∀q∈o.Queries,Cq (v:Int) t q=true
theorem Hw {o:aC} {v:Nat} {t:Setting} (h:okO o (v:Int) t=true):OkO o v t:=by
 unfold okO Je at h
 simp only [Bool.and_eq_true,decide_eq_true_eq,List.all_eq_true] at h
 obtain ⟨h1,h2,⟨h3,h4⟩,h5,h6,h7,h8,h9,h10⟩:=h
 refine ⟨by omega,h2,by omega,fun g hg=> ?_,by omega,fun x hx=> ?_,pk.1 h7,h8,h9,h10⟩
 ·have:=h4 g hg
  unfold Ar at this
  simp only [Bool.and_eq_true,decide_eq_true_eq] at this
  exact ⟨by omega,I6.1 this.2⟩
 ·have:=h6 x hx
  simpa [h32] using this
theorem OkO.path {o:aC} {v:Nat} {t:Setting} (h:OkO o v t) {q:aq} (hq:q∈o.Queries) {p:List (List UInt8)} (hp:p∈q.Paths):p.length≤8∧ ∀x∈p,x.length=32:=by
 obtain ⟨_,_,h3,h4⟩:=so (h.qq q hq)
 obtain ⟨j,hj,rfl⟩:=List.getElem_of_mem hp
 have:=h4 j (by omega)
 have hs:=n9 h.st
 have hv:=h.v1
 rw [show q.Paths.getD j []=q.Paths[j] by simp [hj]] at this
 exact ⟨by omega,this.2⟩
theorem OkO.bo {o:aC} {v:Nat} {t:Setting} (h:OkO o v t):BoO o:=by
 have hv:=h.v1
 have hs:=n9 h.st
 have hn:=h.qn
 have hro:=h.ro
 refine ⟨by rw [h.rn];omega,fun g hg=>by rw [(h.rr g hg).1];omega,by omega,fun x hx=>by rw [h.rh x hx];omega,by omega,fun q hq=> ?_,fun q hq=> ?_,fun q hq p hp=> ?_⟩
 ·have:=(so (h.qq q hq)).1;omega
 ·have:=(so (h.qq q hq)).2.2.1;omega
 ·have:=h.path hq hp
  exact ⟨this.1,fun x hx=>by rw [this.2 x hx];omega⟩
theorem BoO.sm {o:aC} (h:BoO o):SmO o:=⟨by have:=h.rn;omega,fun g hg=>by have:=h.rr g hg;omega,by have:=h.ro;omega,by have:=h.qn;omega,fun q hq=>by have:=h.qp q hq;omega,fun q hq p hp=>by have:=(h.qq q hq p hp).1;omega⟩
theorem BoO.pth {o:aC} (h:BoO o) {q:aq} (hq:q∈o.Queries) {p:List (List UInt8)} (hp:p∈q.Paths):(p.flatMap id).length≤256:=by
 have h1:=h.qq q hq p hp
 have:=a5r (f:=id) (c:=32) h1.2
 have:=h1.1;omega
theorem BoO.pths {o:aC} (h:BoO o) {q:aq} (hq:q∈o.Queries):(flB q.Paths).length≤1536:=by
 have:=a5r (f:=fun x:List (List UInt8)=>x.flatMap id) (c:=256) fun p hp=>h.pth hq hp
 have h2:=h.qt q hq
 unfold flB;omega
theorem gdm {α:Type} {l:List α} {j:Nat} (h:j<l.length):l[j]∈l:=List.getElem_mem h
variable {o:aC} {v:Nat} {t:Setting}
end Go.AI.Fn
set_option linter.unusedVariables false
set_option linter.unusedSimpArgs false
namespace Go.AI.Fn
theorem QT: ∀(A B preA preB:List K) (acc:K),A.length=B.length→preA.length=preB.length→preA.length+A.length≤100→
 Loop (gp (kv (preA++A)) (kv (preB++B)) 0 0) ((preA.length:Int),acc.1.A,acc.1.B)=some (((preA++A).length:Int),false,(eaK A B acc).1.A,(eaK A B acc).1.B)
 |[],B,preA,preB,acc,h1,h2,h3=>by
  refine cx ?_
  simp only [gp,am]
  rw [brn (by simp),decide_eq_false (by simp)];simp [eaK]
 |x::A,[],preA,preB,acc,h1,h2,h3=>by simp at h1
 |x::A,b::B,preA,preB,acc,h1,h2,h3=>by
  rw [List.length_cons,List.length_cons] at h1
  rw [List.length_cons] at h3
  have ih:=QT A B (preA++[x]) (preB++[b]) (acc*(x*b+(1-x)*(1-b))) (by omega) (by rw [List.length_append,List.length_append,List.length_singleton,List.length_singleton];omega) (by rw [List.length_append,List.length_singleton];omega)
  rw [List.append_assoc,List.append_assoc,List.singleton_append,List.singleton_append,show (preA++[x]).length=preA.length+1 by simp] at ih
  have hx:atL (kv (preA++x::A)) (preA.length:Int)=some x.1:=by rw [vP];exact j3 (by rw [am])
  have hb:atL (kv (preB++b::B)) (preA.length:Int)=some b.1:=by rw [vP];exact j3 (by rw [am];omega)
  rw [ck (s':=(((preA.length+1:Nat):Int),(acc*(x*b+(1-x)*(1-b))).1.A,(acc*(x*b+(1-x)*(1-b))).1.B)) ?_]
  ·rw [ih];rfl
  ·simp only [gp,am]
   rw [brd (by rw [List.length_append,List.length_cons];omega),hx,obs,hb,obs,dC x.2 b.2,obs,obs,HS x.2,obs,obs,HS b.2,obs,dC (qv _ _) (qv _ _),obs,ke (pp _ _) (pp _ _),obs,show Ext.mk acc.1.A acc.1.B=acc.1 from rfl,dC acc.2 (QN _ _),obs,aa _ (by omega) (by omega)];rfl
theorem b1d {A B:List K} (h:A.length=B.length) (hl:A.length≤100):xD (kv A) (kv B)=some (eaK A B 1).1:=by
 have:=QT A B [] [] 1 h rfl (by rw [List.length_nil];omega)
 unfold xD
 rw [LO,obs]
 rw [List.nil_append,List.nil_append,List.length_nil] at this
 have key:Loop (gp (kv A) (kv B) 0 0) (0,e1.A,e1.B)=_:=this
 rw [key];rfl
theorem QI: ∀(A B preA preB:List K) (acc:K),A.length=B.length→preA.length=preB.length→preA.length+A.length≤100→
 Loop (lU (kv (preB++B)) (kv (preA++A)) ((preA++A).length:Int) 0 0) ((preA.length:Int),acc.1.A,acc.1.B)=some (((preA++A).length:Int),false,(eaK A B acc).1.A,(eaK A B acc).1.B)
 |[],B,preA,preB,acc,h1,h2,h3=>by
  refine cx ?_
  simp only [lU]
  rw [brn (by simp),decide_eq_false (by simp)];simp [eaK]
 |x::A,[],preA,preB,acc,h1,h2,h3=>by simp at h1
 |x::A,b::B,preA,preB,acc,h1,h2,h3=>by
  rw [List.length_cons,List.length_cons] at h1
  rw [List.length_cons] at h3
  have ih:=QI A B (preA++[x]) (preB++[b]) (acc*(x*b+(1-x)*(1-b))) (by omega) (by rw [List.length_append,List.length_append,List.length_singleton,List.length_singleton];omega) (by rw [List.length_append,List.length_singleton];omega)
  rw [List.append_assoc,List.append_assoc,List.singleton_append,List.singleton_append,show (preA++[x]).length=preA.length+1 by simp] at ih
  have hx:atL (kv (preA++x::A)) (preA.length:Int)=some x.1:=by rw [vP];exact j3 (by rw [am])
  have hb:atL (kv (preB++b::B)) (preA.length:Int)=some b.1:=by rw [vP];exact j3 (by rw [am];omega)
  rw [ck (s':=(((preA.length+1:Nat):Int),(acc*(x*b+(1-x)*(1-b))).1.A,(acc*(x*b+(1-x)*(1-b))).1.B)) ?_]
  ·rw [ih];rfl
  ·simp only [lU]
   rw [brd (by rw [List.length_append,List.length_cons];omega),hx,obs,hb,obs,dP x.2 b.2,obs,GN,obs,ir XQ x.2,obs,obs,obs,ir XQ b.2,obs,dP (qv _ _) (qv _ _),obs,gL (pp _ _) (pp _ _),obs,show Ext.mk acc.1.A acc.1.B=acc.1 from rfl,dP acc.2 (QN _ _),obs,aa _ (by omega) (by omega)];rfl
theorem b0s {A B:List K} (h:A.length=B.length) (hl:A.length≤100):NQ (kv A) (kv B)=some (eaK A B 1).1:=by
 have:=QI A B [] [] 1 h rfl (by rw [List.length_nil];omega)
 unfold NQ
 rw [GN,obs,am]
 rw [List.nil_append,List.nil_append,List.length_nil] at this
 have key:Loop (lU (kv B) (kv A) (A.length:Int) 0 0) (0,e1.A,e1.B)=_:=this
 rw [key];rfl
theorem b44 {L:List Ext} (h:eD L):kv (L.map toK)=L:=by
 rw [kv,List.map_map]
 refine (List.map_congr_left fun x hx=> ?_).trans (List.map_id _)
 exact re (h x hx)
theorem a64: ∀(n m:Nat) (rts:List (List UInt8)) (prs:List K) (pths:List (List (List UInt8))) (D:List K),n≤m→rts.length=n→prs.length=2*n→pths.length=n→D.length=n→(∀j,j<n→(pths.getD j []).length=m-1-j∧ ∀x∈pths.getD j [],x.length=32)→QSh m rts prs pths D
 |0,m,[],[],[],[],_,_,_,_,_,_=>trivial
 |0,m,_::_,_,_,_,_,h,_,_,_,_=>by simp at h
 |0,m,_,_::_,_,_,_,_,h,_,_,_=>by simp at h
 |0,m,_,_,_::_,_,_,_,_,h,_,_=>by simp at h
 |0,m,_,_,_,_::_,_,_,_,_,h,_=>by simp at h
 |n+1,m,rts,prs,pths,D,hm,h1,h2,h3,h4,h5=>by
  match rts,prs,pths,D,h1,h2,h3,h4 with
  |rt::rts,a::b::prs,p::pths,r::D,h1,h2,h3,h4=>
   simp only [List.length_cons] at h1 h2 h3 h4
   have h0:=h5 0 (by omega)
   exact ⟨by omega,by have:=h0.1;simpa using this,fun x hx=>h0.2 x hx,a64 n (m-1) rts prs pths D (by omega) (by omega) (by omega) (by omega) (by omega) fun j hj=>by
    have:=h5 (j+1) (by omega)
    exact ⟨this.1.trans (by omega),this.2⟩⟩
  |[],_,_,_,h1,_,_,_=>simp at h1
  |_::_,[],_,_,_,h2,_,_=>simp at h2
  |_::_,[_],_,_,_,h2,_,_=>simp at h2;omega
  |_::_,_::_::_,[],_,_,_,h3,_=>simp at h3
  |_::_,_::_::_,_::_,[],_,_,_,h4=>simp at h4
variable {o:aC} {v ρ:Nat} {t:Setting} {root:List UInt8} {D:List K} {q:aq}
theorem b2n (h:OkO o v t) (e1:t.Rate=(ρ:Int)) (hD:D.length=v) (hq:q∈o.Queries):QSh (v+ρ) (root::o.Roots) (q.Pairs.map toK) q.Paths D:=by
 obtain ⟨h1,h2,h3,h4⟩:=so (h.qq q hq)
 have hv:=h.v1
 have hs:=n9 h.st
 have hr:=h.ro
 exact a64 v (v+ρ) _ _ _ _ (by omega) (by rw [List.length_cons];omega) (by rw [List.length_map,h1]) h3 hD fun j hj=>by
  have:=h4 j hj
  exact ⟨by omega,this.2⟩
theorem Yu (h:OkO o v t) (e1:t.Rate=(ρ:Int)) (hD:D.length=v) (hq:q∈o.Queries) {p:Int} (h0:0≤p) (hp:p<512):
 y9 (root::o.Roots) (v:Int) ((2^(v+ρ):Nat):Int) p (kv D) o q=some (qcK (toK o.Last) (v+ρ) (root::o.Roots) (q.Pairs.map toK) q.Paths D p.toNat none):=by
 have hs:=n9 h.st
 have hv:=h.v1
 have hr:=h.ro
 have key:=R3 (l:=toK o.Last) (V:=(v:Int)) (c:=o.Rounds) (c2:=o.Roots) (c3:=o.Last.A) (c4:=o.Last.B) (c5:=o.Nonce) (c6:=o.Queries) (root::o.Roots) (q.Pairs.map toK) q.Paths D (v+ρ) [] [] [] [] p.toNat none (b2n h e1 hD hq) (by omega) rfl rfl rfl (by rw [List.length_nil,List.length_cons];omega) (by rw [List.length_nil,List.length_cons];omega) (by omega) (by simp) (by simp)
 simp only [List.nil_append,List.length_nil,b44 (so (h.qq q hq)).2.1,Int.toNat_of_nonneg h0,re h.la] at key
 exact key
theorem YG (h:OkO o v t) (e1:t.Rate=(ρ:Int)) (hD:D.length=v) (hq:q∈o.Queries) {p:Int} (h0:0≤p) (hp:p<512):
 qU (root::o.Roots) (kv D) ((2^(v+ρ):Nat):Int) p o q=some (qcK (toK o.Last) (v+ρ) (root::o.Roots) (q.Pairs.map toK) q.Paths D p.toNat none):=by
 have hs:=n9 h.st
 have hv:=h.v1
 have hr:=h.ro
 have key:=Rb (l:=toK o.Last) (M:=v+ρ) (V:=(((root::o.Roots).length:Nat):Int)) (c:=o.Rounds) (c2:=o.Roots) (c3:=o.Last.A) (c4:=o.Last.B) (c5:=o.Nonce) (c6:=o.Queries) (root::o.Roots) (q.Pairs.map toK) q.Paths D (v+ρ) [] [] [] [] p.toNat none (b2n h e1 hD hq) (by omega) rfl rfl rfl rfl (by rw [List.length_nil];omega) (by rw [List.length_nil,List.length_cons];omega) (by omega) (by simp) (by simp)
 simp only [List.nil_append,List.length_nil,b44 (so (h.qq q hq)).2.1,Int.toNat_of_nonneg h0,re h.la] at key
 exact key
end Go.AI.Fn
set_option linter.unusedVariables false
set_option linter.unusedSimpArgs false
namespace Go.AI.Fn
theorem Oo {v:Nat} {V:Int} {rts l:List (List UInt8)} {t2:List Ext} {c c2 c3 c4 c5 c8 c9 c10 c16 c18:Int} {c11:List aq} {c17:List UInt8} (hV:V=(v:Int)) (hrl:rts.length+1=v) (hrh: ∀x∈rts,x.length=32): ∀(R pre:List (List K)) (cl:K) (s:Source) (k:Int) (P:List Ext),(∀g∈R,g.length=3)→Few s k→k+3*R.length≤999890→P.length+R.length≤1000→pre.length+R.length=v→v≤100→
 ((vfM 1 (bvO v rts) R pre.length cl s).1=0→Loop (cy l V t2 c c2 c3 c4 c5 (kvv (pre++R)) rts c8 c9 c10 c11 c16 c17 c18) (P,(pre.length:Int),s.Script,s.At,s.State,s.Count,cl.1.A,cl.1.B)=
   some (.inr (P++kv (vfM 1 (bvO v rts) R pre.length cl s).2.1,V,false,(vfM 1 (bvO v rts) R pre.length cl s).2.2.2.Script,(vfM 1 (bvO v rts) R pre.length cl s).2.2.2.At,(vfM 1 (bvO v rts) R pre.length cl s).2.2.2.State,(vfM 1 (bvO v rts) R pre.length cl s).2.2.2.Count,
    (vfM 1 (bvO v rts) R pre.length cl s).2.2.1.1.A,(vfM 1 (bvO v rts) R pre.length cl s).2.2.1.1.B)))∧
 ((vfM 1 (bvO v rts) R pre.length cl s).1≠0→(vfM 1 (bvO v rts) R pre.length cl s).1=10∧ ∃e,Loop (cy l V t2 c c2 c3 c4 c5 (kvv (pre++R)) rts c8 c9 c10 c11 c16 c17 c18) (P,(pre.length:Int),s.Script,s.At,s.State,s.Count,cl.1.A,cl.1.B)=some (.inl e))
 |[],pre,cl,s,k,P,hg,hf,hk,hP,hp,hv=>by
  rw [List.length_nil] at hp
  refine ⟨fun _=>cx ?_,fun h=>absurd rfl h⟩
  simp only [cy,List.append_nil]
  rw [brn (by omega),decide_eq_false (by omega)]
  simp [vfM,kv];omega
 |g::R,pre,cl,s,k,P,hg,hf,hk,hP,hp,hv=>by
  rw [List.length_cons] at hk hP hp
  have hgl:=hg g (by simp)
  have hat:atL (kvv (pre++g::R)) (pre.length:Int)=some (kv g):=by rw [vD (by simp)];simp
  have hk0:0≤k:=by have:=hf.2;have:=hf.1.4;omega
  rw [vfM,if_pos (show g.length=1+2 from hgl)]
  by_cases h2:g.getD 0 0+g.getD 1 0=cl
  ·rw [if_pos h2]
   have hfb:Few (bvO v rts pre.length (nsM s g)) (k+2+1):=O0 v rts _ _ _ (yP hf (by omega) g) (by omega)
   have ih:=Oo (l:=l) (t2:=t2) (c:=c) (c2:=c2) (c3:=c3) (c4:=c4) (c5:=c5) (c8:=c8) (c9:=c9) (c10:=c10) (c11:=c11) (c16:=c16) (c17:=c17) (c18:=c18) hV hrl hrh R (pre++[g]) (lnK g (rdM s g)) (bvO v rts pre.length (nsM s g)) (k+2+1) (P++[(rdM s g).1]) (fun x hx=>hg x (by simp [hx])) hfb (by omega) (by rw [List.length_append,List.length_singleton];omega) (by rw [List.length_append,List.length_singleton];omega) hv
   rw [List.append_assoc,List.singleton_append,List.length_append,List.length_singleton] at ih
   have step:cy l V t2 c c2 c3 c4 c5 (kvv (pre++g::R)) rts c8 c9 c10 c11 c16 c17 c18 (P,(pre.length:Int),s.Script,s.At,s.State,s.Count,cl.1.A,cl.1.B)=
    some (.inl (P++[(rdM s g).1],((pre.length+1:Nat):Int),(bvO v rts pre.length (nsM s g)).Script,(bvO v rts pre.length (nsM s g)).At,(bvO v rts pre.length (nsM s g)).State,(bvO v rts pre.length (nsM s g)).Count,(lnK g (rdM s g)).1.A,(lnK g (rdM s g)).1.B)):=by
    simp only [cy]
    rw [brd (by omega),hat,obs,atK (i:=0) (j:=0) rfl (by omega),obs,atK (i:=1) (j:=1) rfl (by omega),obs,ke (Subtype.property _) (Subtype.property _),obs]
    rw [show eA (g.getD 0 0).1 (g.getD 1 0).1=cl.1 from congrArg Subtype.val h2,bre rfl,bre rfl,show Source.mk s.Script s.At s.State s.Count=s from rfl,TT hf.1 (by omega),obs,b2q hf,obs]
    dsimp only
    rw [a2A _ (by omega),obs,al (by rw [List.length_append,List.length_singleton];omega),aa _ (by omega) (by omega)]
    by_cases hb:pre.length+1<v
    ·have hx:rts.getD pre.length []∈rts:=by simp [show pre.length<rts.length by omega]
     rw [brd (by omega),og (d:=[]) (by omega),obs,ml (yP hf (by omega) g).1.3 (by rw [hrh _ hx];omega),obs,bvO,if_pos hb];rfl
    ·rw [brn (by omega),bvO,if_neg hb];rfl
   refine ⟨fun h=> ?_,fun h=> ?_⟩
   ·rw [ck step,ih.1 h]
    simp [kv]
   ·obtain ⟨h10,e,he⟩:=ih.2 h
    exact ⟨h10,e,by rw [ck step,he]⟩
  ·rw [if_neg h2]
   refine ⟨fun h=>absurd (show (10:Int)=0 from h) (by decide),fun _=>⟨rfl,(P,s.Script,s.At,s.State,s.Count,s.Script,s.At,s.State,s.Count,cl.1.A,cl.1.B),cx ?_⟩⟩
   simp only [cy]
   rw [brd (by omega),hat,obs,atK (i:=0) (j:=0) rfl (by omega),obs,atK (i:=1) (j:=1) rfl (by omega),obs,ke (Subtype.property _) (Subtype.property _),obs]
   rw [show eA (g.getD 0 0).1 (g.getD 1 0).1=(g.getD 0 0+g.getD 1 0).1 from rfl,Qq,if_neg h2]
theorem Ni {v:Nat} {V:Int} {rts:List (List UInt8)} {c6:List (List Ext)} {c8 c9 c10 c14 c15:Int} {c11:List aq} (hV:V=(v:Int)) (hrl:rts.length+1=v) (hrh: ∀x∈rts,x.length=32): ∀(R pre:List (List K)) (cl:K) (s:Source) (k:Int) (P:List Ext),(∀g∈R,g.length=3)→Few s k→k+3*R.length≤999890→P.length+R.length≤1000→pre.length+R.length=v→v≤100→
 ((vfM 1 (bvO v rts) R pre.length cl s).1=0→Loop (aB 1 (kvv (pre++R)) V c14 c15) (P,(pre.length:Int),s.Script,s.At,s.State,s.Count,V,c6,rts,c8,c9,c10,c11,cl.1.A,cl.1.B)=
   some (.inr (P++kv (vfM 1 (bvO v rts) R pre.length cl s).2.1,V,false,(vfM 1 (bvO v rts) R pre.length cl s).2.2.2.Script,(vfM 1 (bvO v rts) R pre.length cl s).2.2.2.At,(vfM 1 (bvO v rts) R pre.length cl s).2.2.2.State,(vfM 1 (bvO v rts) R pre.length cl s).2.2.2.Count,V,c6,rts,c8,c9,c10,c11,
    (vfM 1 (bvO v rts) R pre.length cl s).2.2.1.1.A,(vfM 1 (bvO v rts) R pre.length cl s).2.2.1.1.B)))∧
 ((vfM 1 (bvO v rts) R pre.length cl s).1≠0→(vfM 1 (bvO v rts) R pre.length cl s).1=10∧ ∃e:List Ext×Int×List Ext×Int×List UInt8×Int×Int×List (List Ext)×List (List UInt8)×Int×Int×Int×List aq×Int×Int,e.2.1=10∧Loop (aB 1 (kvv (pre++R)) V c14 c15) (P,(pre.length:Int),s.Script,s.At,s.State,s.Count,V,c6,rts,c8,c9,c10,c11,cl.1.A,cl.1.B)=some (.inl e))
 |[],pre,cl,s,k,P,hg,hf,hk,hP,hp,hv=>by
  rw [List.length_nil] at hp
  refine ⟨fun _=>cx ?_,fun h=>absurd rfl h⟩
  simp only [aB,List.append_nil]
  rw [brn (by omega),decide_eq_false (by omega)]
  simp [vfM,kv];omega
 |g::R,pre,cl,s,k,P,hg,hf,hk,hP,hp,hv=>by
  rw [List.length_cons] at hk hP hp
  have hgl:=hg g (by simp)
  have hdg:lL 1=some ((2:Nat):Int):=JZ (kind:=1) (.inl rfl)
  have hat:atL (kvv (pre++g::R)) (pre.length:Int)=some (kv g):=by rw [vD (by simp)];simp
  have hk0:0≤k:=by have:=hf.2;have:=hf.1.4;omega
  rw [vfM,if_pos (show g.length=1+2 from hgl)]
  by_cases h2:g.getD 0 0+g.getD 1 0=cl
  ·rw [if_pos h2]
   have hfb:Few (bvO v rts pre.length (nsM s g)) (k+2+1):=O0 v rts _ _ _ (yP hf (by omega) g) (by omega)
   have ih:=Ni (c6:=c6) (c8:=c8) (c9:=c9) (c10:=c10) (c11:=c11) (c14:=c14) (c15:=c15) hV hrl hrh R (pre++[g]) (lnK g (rdM s g)) (bvO v rts pre.length (nsM s g)) (k+2+1) (P++[(rdM s g).1]) (fun x hx=>hg x (by simp [hx])) hfb (by omega) (by rw [List.length_append,List.length_singleton];omega) (by rw [List.length_append,List.length_singleton];omega) hv
   rw [List.append_assoc,List.singleton_append,List.length_append,List.length_singleton] at ih
   have step:aB 1 (kvv (pre++g::R)) V c14 c15 (P,(pre.length:Int),s.Script,s.At,s.State,s.Count,V,c6,rts,c8,c9,c10,c11,cl.1.A,cl.1.B)=
    some (.inl (P++[(rdM s g).1],((pre.length+1:Nat):Int),(bvO v rts pre.length (nsM s g)).Script,(bvO v rts pre.length (nsM s g)).At,(bvO v rts pre.length (nsM s g)).State,(bvO v rts pre.length (nsM s g)).Count,V,c6,rts,c8,c9,c10,c11,(lnK g (rdM s g)).1.A,(lnK g (rdM s g)).1.B)):=by
    simp only [aB,gS]
    rw [brd (by omega),hat,obs,hdg,obs,aa _ (by omega) (by omega),fw (by rw [am];omega),atK (i:=0) (j:=0) rfl (by omega),obs,atK (i:=1) (j:=1) rfl (by omega),obs,gL (Subtype.property _) (Subtype.property _),obs]
    rw [show eA (g.getD 0 0).1 (g.getD 1 0).1=cl.1 from congrArg Subtype.val h2,bre rfl,bre rfl,show Source.mk s.Script s.At s.State s.Count=s from rfl,NI hf.1 (by omega),obs,a5T hf,obs]
    dsimp only
    rw [V9 _ (by omega),obs,al (by rw [List.length_append,List.length_singleton];omega),aa (V-1) (by omega) (by omega),aa ((pre.length:Int)+1) (by omega) (by omega)]
    by_cases hb:pre.length+1<v
    ·have hx:rts.getD pre.length []∈rts:=by simp [show pre.length<rts.length by omega]
     rw [brd (by omega),og (d:=[]) (by omega),obs,al (by rw [hrh _ hx];omega),pr (yP hf (by omega) g).1.3 (by rw [hrh _ hx];omega),obs,obs,bvO,if_pos hb];rfl
    ·rw [brn (by omega),obs,bvO,if_neg hb];rfl
   refine ⟨fun h=> ?_,fun h=> ?_⟩
   ·rw [ck step,ih.1 h]
    simp [kv]
   ·obtain ⟨h10,e,h1,he⟩:=ih.2 h
    exact ⟨h10,e,h1,by rw [ck step,he]⟩
  ·rw [if_neg h2]
   refine ⟨fun h=>absurd (show (10:Int)=0 from h) (by decide),fun _=>⟨rfl,(P,10,s.Script,s.At,s.State,s.Count,V,c6,rts,c8,c9,c10,c11,cl.1.A,cl.1.B),rfl,cx ?_⟩⟩
   simp only [aB,gS]
   rw [brd (by omega),hat,obs,hdg,obs,aa _ (by omega) (by omega),fw (by rw [am];omega),atK (i:=0) (j:=0) rfl (by omega),obs,atK (i:=1) (j:=1) rfl (by omega),obs,gL (Subtype.property _) (Subtype.property _),obs]
   rw [show eA (g.getD 0 0).1 (g.getD 1 0).1=(g.getD 0 0+g.getD 1 0).1 from rfl,Qq,if_neg h2]
end Go.AI.Fn
set_option linter.unusedVariables false
set_option linter.unusedSimpArgs false
namespace Go.AI.Fn
variable {o:aC} {v ρ nq bits:Nat} {t:Setting} {root:List UInt8} {D P:List K} {s:Source} {k:Int}
theorem R1 {c21 c22 c23 c24 c25 c33 c35 c36 c38 c39 c40:Int} {c32:List Ext} {c34 c37:List UInt8} (h:OkO o v t) (e1:t.Rate=(ρ:Int)) (hD:D.length=v): ∀(ps:List Int) (qs:List aq) (preP:List Int) (preQ:List aq),o.Queries=preQ++qs→preP.length=preQ.length→ps.length=qs.length→preP.length+ps.length≤100→(∀p∈ps,0≤p∧p<512)→
 (qsC (toK o.Last) (v+ρ) (root::o.Roots) D ps qs=0→Loop (dY (root::o.Roots) (kv D) (v:Int) ((2^(v+ρ):Nat):Int) (preP++ps) c21 c22 c23 c24 c25 o.Rounds o.Roots o.Last.A o.Last.B o.Nonce o.Queries c32 c33 c34 c35 c36 c37 c38 c39 c40) (preP.length:Int)=some (.inr (((preP++ps).length:Int),false)))∧
 (qsC (toK o.Last) (v+ρ) (root::o.Roots) D ps qs≠0→Loop (dY (root::o.Roots) (kv D) (v:Int) ((2^(v+ρ):Nat):Int) (preP++ps) c21 c22 c23 c24 c25 o.Rounds o.Roots o.Last.A o.Last.B o.Nonce o.Queries c32 c33 c34 c35 c36 c37 c38 c39 c40) (preP.length:Int)=some (.inl (qsC (toK o.Last) (v+ρ) (root::o.Roots) D ps qs)))
 |[],qs,preP,preQ,hQ,h1,h2,h3,hp=>by
  refine ⟨fun _=>cx ?_,fun h=>absurd (by cases qs<;>rfl) h⟩
  simp only [dY]
  rw [List.append_nil,brn (by omega),decide_eq_false (by omega)]
 |p::ps,[],preP,preQ,hQ,h1,h2,h3,hp=>by simp at h2
 |p::ps,q::qs,preP,preQ,hQ,h1,h2,h3,hp=>by
  rw [List.length_cons] at h3
  have hp0:=hp p (by simp)
  have hm:q∈o.Queries:=by rw [hQ];simp
  have hq:=Yu (root:=root) h e1 hD hm hp0.1 hp0.2
  have ih:=R1 (c21:=c21) (c22:=c22) (c23:=c23) (c24:=c24) (c25:=c25) (c32:=c32) (c33:=c33) (c34:=c34) (c35:=c35) (c36:=c36) (c37:=c37) (c38:=c38) (c39:=c39) (c40:=c40) h e1 hD ps qs (preP++[p]) (preQ++[q]) (by rw [hQ];simp) (by simp [h1]) (by simpa using h2) (by rw [List.length_append,List.length_singleton];omega) (fun x hx=>hp x (by simp [hx]))
  rw [List.append_assoc,List.singleton_append,show (preP++[p]).length=preP.length+1 by simp] at ih
  have hs:dY (root::o.Roots) (kv D) (v:Int) ((2^(v+ρ):Nat):Int) (preP++p::ps) c21 c22 c23 c24 c25 o.Rounds o.Roots o.Last.A o.Last.B o.Nonce o.Queries c32 c33 c34 c35 c36 c37 c38 c39 c40 (preP.length:Int)=
   br (qcK (toK o.Last) (v+ρ) (root::o.Roots) (q.Pairs.map toK) q.Paths D p.toNat none !=0) (some (.inr (.inl (qcK (toK o.Last) (v+ρ) (root::o.Roots) (q.Pairs.map toK) q.Paths D p.toNat none)))) (some (.inl ((preP.length+1:Nat):Int))):=by
   simp only [dY]
   rw [brd (by rw [List.length_append,List.length_cons];omega),j3 rfl,obs,show atL o.Queries (preP.length:Int)=some q by rw [hQ];exact j3 (by omega),obs,show aC.mk o.Rounds o.Roots (Ext.mk o.Last.A o.Last.B) o.Nonce o.Queries=o from rfl,hq,obs,aa _ (by omega) (by omega)];rfl
  rw [qsC]
  by_cases hz:qcK (toK o.Last) (v+ρ) (root::o.Roots) (q.Pairs.map toK) q.Paths D p.toNat none=0
  ·rw [if_pos hz]
   rw [fw hz] at hs
   rw [ck hs];exact ih
  ·rw [if_neg hz]
   rw [brb hz] at hs
   exact ⟨fun h=>absurd h hz,fun _=>cx hs⟩
theorem Ra {c2 c4 c5 c6 c7 c8 c9 c16 c17 c18 N:Int} {c:List Ext} {c3:List UInt8} (h:OkO o v t) (e1:t.Rate=(ρ:Int)) (hD:D.length=v): ∀(ps:List Int) (qs:List aq) (preP:List Int) (preQ:List aq),o.Queries=preQ++qs→preP.length=preQ.length→ps.length=qs.length→preP.length+ps.length≤100→(∀p∈ps,0≤p∧p<512)→N=((preP++ps).length:Int)→
 (qsC (toK o.Last) (v+ρ) (root::o.Roots) D ps qs=0→Loop (cw (root::o.Roots) (kv D) ((2^(v+ρ):Nat):Int) (preP++ps) N c c2 c3 c4 c5 c6 c7 c8 c9 o.Rounds o.Roots o.Last.A o.Last.B o.Nonce o.Queries c16 c17 c18) (preP.length:Int)=some (.inr (N,false)))∧
 (qsC (toK o.Last) (v+ρ) (root::o.Roots) D ps qs≠0→Loop (cw (root::o.Roots) (kv D) ((2^(v+ρ):Nat):Int) (preP++ps) N c c2 c3 c4 c5 c6 c7 c8 c9 o.Rounds o.Roots o.Last.A o.Last.B o.Nonce o.Queries c16 c17 c18) (preP.length:Int)=some (.inl (qsC (toK o.Last) (v+ρ) (root::o.Roots) D ps qs)))
 |[],qs,preP,preQ,hQ,h1,h2,h3,hp,hN=>by
  rw [List.append_nil] at hN
  refine ⟨fun _=>cx ?_,fun h=>absurd (by cases qs<;>rfl) h⟩
  simp only [cw]
  rw [brn (by omega),decide_eq_false (by omega),hN]
 |p::ps,[],preP,preQ,hQ,h1,h2,h3,hp,hN=>by simp at h2
 |p::ps,q::qs,preP,preQ,hQ,h1,h2,h3,hp,hN=>by
  rw [List.length_cons] at h3
  have hp0:=hp p (by simp)
  have hm:q∈o.Queries:=by rw [hQ];simp
  have hq:=YG (root:=root) h e1 hD hm hp0.1 hp0.2
  have ih:=Ra (N:=N) (c:=c) (c2:=c2) (c3:=c3) (c4:=c4) (c5:=c5) (c6:=c6) (c7:=c7) (c8:=c8) (c9:=c9) (c16:=c16) (c17:=c17) (c18:=c18) h e1 hD ps qs (preP++[p]) (preQ++[q]) (by rw [hQ];simp) (by simp [h1]) (by simpa using h2) (by rw [List.length_append,List.length_singleton];omega) (fun x hx=>hp x (by simp [hx])) (by rw [hN];simp)
  rw [List.append_assoc,List.singleton_append,show (preP++[p]).length=preP.length+1 by simp] at ih
  have hs:cw (root::o.Roots) (kv D) ((2^(v+ρ):Nat):Int) (preP++p::ps) N c c2 c3 c4 c5 c6 c7 c8 c9 o.Rounds o.Roots o.Last.A o.Last.B o.Nonce o.Queries c16 c17 c18 (preP.length:Int)=
   br (qcK (toK o.Last) (v+ρ) (root::o.Roots) (q.Pairs.map toK) q.Paths D p.toNat none !=0) (some (.inr (.inl (qcK (toK o.Last) (v+ρ) (root::o.Roots) (q.Pairs.map toK) q.Paths D p.toNat none)))) (some (.inl ((preP.length+1:Nat):Int))):=by
   simp only [cw]
   rw [brd (by rw [hN,List.length_append,List.length_cons];omega),j3 rfl,obs,show atL o.Queries (preP.length:Int)=some q by rw [hQ];exact j3 (by omega),obs,show aC.mk o.Rounds o.Roots (Ext.mk o.Last.A o.Last.B) o.Nonce o.Queries=o from rfl,hq,obs,aa _ (by omega) (by omega)];rfl
  rw [qsC]
  by_cases hz:qcK (toK o.Last) (v+ρ) (root::o.Roots) (q.Pairs.map toK) q.Paths D p.toNat none=0
  ·rw [if_pos hz]
   rw [fw hz] at hs
   rw [ck hs];exact ih
  ·rw [if_neg hz]
   rw [brb hz] at hs
   exact ⟨fun h=>absurd h hz,fun _=>cx hs⟩
def vC (o:aC):List (List K):=o.Rounds.map fun g=>g.map toK
theorem a1t (h:OkO o v t):kvv (vC o)=o.Rounds:=by
 rw [kvv,vC,List.map_map]
 refine (List.map_congr_left fun g hg=> ?_).trans (List.map_id _)
 exact b44 (h.rr g hg).2
end Go.AI.Fn
set_option linter.unusedVariables false
set_option linter.unusedSimpArgs false
namespace Go.AI.Fn
variable {o:aC} {v ρ nq bits:Nat} {t:Setting} {root:List UInt8} {P:List K} {cl:K} {s:Source} {k:Int}
noncomputable def vfO (v:Nat) (o:aC) (cl:K) (s:Source):Int×List K×K×Source:=vfM 1 (bvO v o.Roots) (vC o) 0 cl s
noncomputable def chO (v ρ nq bits:Nat) (root:List UInt8) (P:List K) (cl:K) (o:aC) (s:Source):Int:=chC (v+ρ) bits nq root P o.Roots (toK o.Last) o.Nonce o.Queries (vfO v o cl s)
theorem Yk (h:OkO o v t) (hP:P.length=v) (e1:t.Rate=(ρ:Int)) (e2:t.Queries=(nq:Int)) (e3:t.Grind=(bits:Int)) (hf:Few s k) (hk:k≤999850):
 ∃src,tw root (v:Int) (kv P) cl.1 t o s=some (src,chO v ρ nq bits root P cl o s)∧(chO v ρ nq bits root P cl o s=0→src=chS nq (toK o.Last) o.Nonce (vfO v o cl s)):=by
 have hs:=n9 h.st
 have hv:=h.v1
 have hro:=h.ro
 have hrn:=h.rn
 have hqn:=h.qn
 have hk0:0≤k:=by have:=hf.2;have:=hf.1.4;omega
 have hrl:(vC o).length=v:=by rw [vC,List.length_map,hrn]
 have hr3: ∀g∈vC o,g.length=3:=fun g hg=>by
  obtain ⟨x,hx,rfl⟩:=List.mem_map.1 hg
  rw [List.length_map,(h.rr x hx).1]
 obtain ⟨q,hq⟩: ∃q,v+ρ=q+1:=⟨v+ρ-1,by omega⟩
 have hpq:=p7 q (by omega)
 have hl:=Oo (V:=(v:Int)) (rts:=o.Roots) (l:=root::o.Roots) (t2:=kv P) (c:=cl.1.A) (c2:=cl.1.B) (c3:=t.Rate) (c4:=t.Queries) (c5:=t.Grind) (c8:=o.Last.A) (c9:=o.Last.B) (c10:=o.Nonce) (c11:=o.Queries) (c16:=0) (c17:=[]) (c18:=0) rfl (by omega) h.rh (vC o) [] cl s k [] hr3 hf (by omega) (by rw [List.length_nil];omega) (by rw [List.length_nil];omega) (by omega)
 rw [List.nil_append,List.nil_append,List.length_nil,a1t h] at hl
 have hvl:=Zw (kind:=1) (bv:=bvO v o.Roots) (vC o) 0 cl s
 have hvf:=U1 (kind:=1) (O0 v o.Roots) (vC o) 0 cl s k hf (by omega)
 rw [show vfM 1 (bvO v o.Roots) (vC o) 0 cl s=vfO v o cl s from rfl] at hl hvl hvf
 rw [hrl] at hvl hvf
 unfold tw
 rw [al (by simp only [List.length_append,List.length_singleton];omega),List.singleton_append]
 unfold chO chC
 by_cases h0:(vfO v o cl s).1=0
 ·have key:Loop (cy (root::o.Roots) (v:Int) (kv P) cl.1.A cl.1.B t.Rate t.Queries t.Grind o.Rounds o.Roots o.Last.A o.Last.B o.Nonce o.Queries 0 [] 0) ([],0,s.Script,s.At,s.State,s.Count,cl.1.A,cl.1.B)=_:=hl.1 h0
  have hDl:=hvl h0
  rw [key,obs,ni,if_pos h0]
  dsimp only
  have hlast:o.Last=(toK o.Last).1:=(re h.la).symm
  rw [b1d (by rw [hDl,hP]) (by omega),obs,dC h.la (Subtype.property _),obs,show eM o.Last (eaK (vfO v o cl s).2.1 P 1).1=(toK o.Last*eaK (vfO v o cl s).2.1 P 1).1 by rw [K.mul_val, ←hlast],Qq]
  by_cases h1:toK o.Last*eaK (vfO v o cl s).2.1 P 1=(vfO v o cl s).2.2.1
  ·rw [if_pos h1,if_pos h1]
   have hfS:Few (rsM (vfO v o cl s).2.2.2 [toK o.Last]) (k+3*v+1):=hvf.take _
   rw [show Source.mk (vfO v o cl s).2.2.2.Script (vfO v o cl s).2.2.2.At (vfO v o cl s).2.2.2.State (vfO v o cl s).2.2.2.Count=(vfO v o cl s).2.2.2 from rfl,show ([o.Last]:List Ext)=kv [toK o.Last] by rw [kv,List.map_singleton, ←hlast],TT hvf.1 (by simp),obs,e3,HY hfS.1.3 (by omega),obs]
   cases h2:gR (rsM (vfO v o cl s).2.2.2 [toK o.Last]).State bits o.Nonce with
   |false=>rw [Bool.not_false,aR,if_neg (by simp)];exact ⟨_,rfl,fun h=>absurd h (by decide)⟩
   |true=>
    have hfT:Few (tkM (rsM (vfO v o cl s).2.2.2 [toK o.Last]) (dX o.Nonce)) (k+3*v+1+1):=hfS.take _
    have hpl: ∀x∈plM (drL (tkM (rsM (vfO v o cl s).2.2.2 [toK o.Last]) (dX o.Nonce)) nq) ((2^q:Nat):Int),0≤x∧x<512:=fun x hx=>by
     obtain ⟨y,hy,rfl⟩:=List.mem_map.1 hx
     have g0:=Int.emod_nonneg y.A (b:=((2^q:Nat):Int)) (by omega)
     have g1:=Int.emod_lt_of_pos y.A (b:=((2^q:Nat):Int)) (by omega)
     have g2:=p7 (q+1) (by omega)
     have g3:2^(q+1)=2*2^q:=by rw [Nat.pow_succ];omega
     omega
    have hsh:bX .i64 1 (((v+ρ:Nat)):Int)=((2^(v+ρ):Nat):Int):=On (v+ρ) (by omega)
    rw [Bool.not_true,ak,if_pos rfl,Ck,obs,ml hfS.1.3 (by rw [eP];omega),obs,e1,aa ((v:Int)+(ρ:Int)) (by omega) (by omega),cX _ (by omega) (by omega),brd (by omega),show (v:Int)+(ρ:Int)=((v+ρ:Nat):Int) by omega,hsh,hq,B3 q (by omega),e2,Jr hfT (by omega) (by omega) (by omega),obs,Nat.add_sub_cancel]
    have hqs:=R1 (root:=root) (D:=(vfO v o cl s).2.1) (c21:=cl.1.A) (c22:=cl.1.B) (c23:=(ρ:Int)) (c24:=(nq:Int)) (c25:=t.Grind) (c32:=(drS (tkM (rsM (vfO v o cl s).2.2.2 [toK o.Last]) (dX o.Nonce)) nq).Script) (c33:=(drS (tkM (rsM (vfO v o cl s).2.2.2 [toK o.Last]) (dX o.Nonce)) nq).At) (c34:=(drS (tkM (rsM (vfO v o cl s).2.2.2 [toK o.Last]) (dX o.Nonce)) nq).State) (c35:=(drS (tkM (rsM (vfO v o cl s).2.2.2 [toK o.Last]) (dX o.Nonce)) nq).Count) (c36:=0) (c37:=[]) (c38:=0) (c39:=(vfO v o cl s).2.2.1.1.A) (c40:=(vfO v o cl s).2.2.1.1.B) h e1 hDl (plM (drL (tkM (rsM (vfO v o cl s).2.2.2 [toK o.Last]) (dX o.Nonce)) nq) ((2^q:Nat):Int)) o.Queries [] [] rfl rfl (by rw [plM,List.length_map,lu];omega) (by rw [plM,List.length_map,lu,List.length_nil];omega) hpl
    rw [List.nil_append,List.length_nil,hq,e3] at hqs
    by_cases h3:qsC (toK o.Last) (q+1) (root::o.Roots) (vfO v o cl s).2.1 (plM (drL (tkM (rsM (vfO v o cl s).2.2.2 [toK o.Last]) (dX o.Nonce)) nq) ((2^q:Nat):Int)) o.Queries=0
    ·have kk:=hqs.1 h3
     rw [show (((0:Nat):Int))=0 from rfl] at kk
     rw [kk,h3]
     exact ⟨_,rfl,fun _=>rfl⟩
    ·have kk:=hqs.2 h3
     rw [show (((0:Nat):Int))=0 from rfl] at kk
     rw [kk]
     exact ⟨_,rfl,fun h=>absurd h h3⟩
  ·rw [if_neg h1,if_neg h1]
   exact ⟨_,rfl,fun h=>absurd h (by decide)⟩
 ·obtain ⟨h10,e,he⟩:=hl.2 h0
  have key:Loop (cy (root::o.Roots) (v:Int) (kv P) cl.1.A cl.1.B t.Rate t.Queries t.Grind o.Rounds o.Roots o.Last.A o.Last.B o.Nonce o.Queries 0 [] 0) ([],0,s.Script,s.At,s.State,s.Count,cl.1.A,cl.1.B)=_:=he
  rw [key,obs,lB,if_neg h0,h10]
  exact ⟨_,rfl,fun h=>absurd h (by decide)⟩
end Go.AI.Fn
set_option linter.unusedVariables false
set_option linter.unusedSimpArgs false
namespace Go.AI.Fn
variable {o:aC} {v ρ nq bits:Nat} {t:Setting} {root:List UInt8} {P:List K} {cl:K} {s:Source} {k:Int}
theorem YM (h:OkO o v t) (hP:P.length=v) (e1:t.Rate=(ρ:Int)) (e2:t.Queries=(nq:Int)) (e3:t.Grind=(bits:Int)) (hf:Few s k) (hk:k≤999850):
 ∃src,jF root (kv P) cl.1 t o s=some (chO v ρ nq bits root P cl o s,src)∧(chO v ρ nq bits root P cl o s=0→src=chS nq (toK o.Last) o.Nonce (vfO v o cl s)):=by
 have hs:=n9 h.st
 have hv:=h.v1
 have hro:=h.ro
 have hrn:=h.rn
 have hqn:=h.qn
 have hk0:0≤k:=by have:=hf.2;have:=hf.1.4;omega
 have hrl:(vC o).length=v:=by rw [vC,List.length_map,hrn]
 have hr3: ∀g∈vC o,g.length=3:=fun g hg=>by
  obtain ⟨x,hx,rfl⟩:=List.mem_map.1 hg
  rw [List.length_map,(h.rr x hx).1]
 obtain ⟨q,hq⟩: ∃q,v+ρ=q+1:=⟨v+ρ-1,by omega⟩
 have hpq:=p7 q (by omega)
 have hl:=Ni (V:=(v:Int)) (rts:=o.Roots) (c6:=o.Rounds) (c8:=o.Last.A) (c9:=o.Last.B) (c10:=o.Nonce) (c11:=o.Queries) (c14:=0) (c15:=0) rfl (by omega) h.rh (vC o) [] cl s k [] hr3 hf (by omega) (by rw [List.length_nil];omega) (by rw [List.length_nil];omega) (by omega)
 rw [List.nil_append,List.nil_append,List.length_nil,a1t h] at hl
 have hvl:=Zw (kind:=1) (bv:=bvO v o.Roots) (vC o) 0 cl s
 have hvf:=U1 (kind:=1) (O0 v o.Roots) (vC o) 0 cl s k hf (by omega)
 rw [show vfM 1 (bvO v o.Roots) (vC o) 0 cl s=vfO v o cl s from rfl] at hl hvl hvf
 rw [hrl] at hvl hvf
 unfold jF ci
 rw [am,hP,hrn]
 unfold chO chC
 by_cases h0:(vfO v o cl s).1=0
 ·have key:Loop (aB 1 o.Rounds (v:Int) 0 0) ([],0,s.Script,s.At,s.State,s.Count,(v:Int),o.Rounds,o.Roots,o.Last.A,o.Last.B,o.Nonce,o.Queries,cl.1.A,cl.1.B)=_:=hl.1 h0
  have hDl:=hvl h0
  rw [key,obs,ni,if_pos h0,obs]
  dsimp only
  rw [fw rfl]
  simp only [show Ext.mk o.Last.A o.Last.B=o.Last from rfl]
  have hlast:o.Last=(toK o.Last).1:=(re h.la).symm
  rw [b0s (by rw [hDl,hP]) (by omega),obs,dP h.la (Subtype.property _),obs,show eM o.Last (eaK (vfO v o cl s).2.1 P 1).1=(toK o.Last*eaK (vfO v o cl s).2.1 P 1).1 by rw [K.mul_val, ←hlast],Qq]
  by_cases h1:toK o.Last*eaK (vfO v o cl s).2.1 P 1=(vfO v o cl s).2.2.1
  ·rw [if_pos h1,if_pos h1]
   have hfS:Few (rsM (vfO v o cl s).2.2.2 [toK o.Last]) (k+3*v+1):=hvf.take _
   rw [show Source.mk (vfO v o cl s).2.2.2.Script (vfO v o cl s).2.2.2.At (vfO v o cl s).2.2.2.State (vfO v o cl s).2.2.2.Count=(vfO v o cl s).2.2.2 from rfl,show ([o.Last]:List Ext)=kv [toK o.Last] by rw [kv,List.map_singleton, ←hlast],NI hvf.1 (by simp),obs,e3,Ij hfS.1.3 (by omega),obs]
   cases h2:gR (rsM (vfO v o cl s).2.2.2 [toK o.Last]).State bits o.Nonce with
   |false=>rw [Bool.not_false,aR,if_neg (by simp)];exact ⟨_,rfl,fun h=>absurd h (by decide)⟩
   |true=>
    have hfT:Few (tkM (rsM (vfO v o cl s).2.2.2 [toK o.Last]) (dX o.Nonce)) (k+3*v+1+1):=hfS.take _
    have hpl: ∀x∈plM (drL (tkM (rsM (vfO v o cl s).2.2.2 [toK o.Last]) (dX o.Nonce)) nq) ((2^q:Nat):Int),0≤x∧x<512:=fun x hx=>by
     obtain ⟨y,hy,rfl⟩:=List.mem_map.1 hx
     have g0:=Int.emod_nonneg y.A (b:=((2^q:Nat):Int)) (by omega)
     have g1:=Int.emod_lt_of_pos y.A (b:=((2^q:Nat):Int)) (by omega)
     have g2:=p7 (q+1) (by omega)
     have g3:2^(q+1)=2*2^q:=by rw [Nat.pow_succ];omega
     omega
    have hsh:bX .i64 1 (((v+ρ:Nat)):Int)=((2^(v+ρ):Nat):Int):=On (v+ρ) (by omega)
    rw [Bool.not_true,ak,if_pos rfl,wX,obs,pr hfS.1.3 (by rw [eP];omega),obs,e1,aa ((v:Int)+(ρ:Int)) (by omega) (by omega),brd (by omega),al (by simp only [List.length_append,List.length_singleton];omega),show (v:Int)+(ρ:Int)=((v+ρ:Nat):Int) by omega,hsh,hq,B3 q (by omega),e2,NU hfT (by omega) (by omega),obs,Js (by rw [lu];omega) (M8 hfT (by omega) (by omega)) (by omega),obs,Nat.add_sub_cancel,List.singleton_append]
    have hpn:(plM (drL (tkM (rsM (vfO v o cl s).2.2.2 [toK o.Last]) (dX o.Nonce)) nq) ((2^q:Nat):Int)).length=nq:=by rw [plM,List.length_map,lu]
    have hqs:=Ra (root:=root) (N:=(((plM (drL (tkM (rsM (vfO v o cl s).2.2.2 [toK o.Last]) (dX o.Nonce)) nq) ((2^q:Nat):Int)).length:Nat):Int)) (D:=(vfO v o cl s).2.1) (c:=(drS (tkM (rsM (vfO v o cl s).2.2.2 [toK o.Last]) (dX o.Nonce)) nq).Script) (c2:=(drS (tkM (rsM (vfO v o cl s).2.2.2 [toK o.Last]) (dX o.Nonce)) nq).At) (c3:=(drS (tkM (rsM (vfO v o cl s).2.2.2 [toK o.Last]) (dX o.Nonce)) nq).State) (c4:=(drS (tkM (rsM (vfO v o cl s).2.2.2 [toK o.Last]) (dX o.Nonce)) nq).Count) (c5:=cl.1.A) (c6:=cl.1.B) (c7:=(ρ:Int)) (c8:=(nq:Int)) (c9:=t.Grind) (c16:=(v:Int)) (c17:=(vfO v o cl s).2.2.1.1.A) (c18:=(vfO v o cl s).2.2.1.1.B) h e1 hDl (plM (drL (tkM (rsM (vfO v o cl s).2.2.2 [toK o.Last]) (dX o.Nonce)) nq) ((2^q:Nat):Int)) o.Queries [] [] rfl rfl (by rw [hpn];omega) (by rw [hpn,List.length_nil];omega) hpl rfl
    rw [List.nil_append,List.length_nil,hq,e3] at hqs
    by_cases h3:qsC (toK o.Last) (q+1) (root::o.Roots) (vfO v o cl s).2.1 (plM (drL (tkM (rsM (vfO v o cl s).2.2.2 [toK o.Last]) (dX o.Nonce)) nq) ((2^q:Nat):Int)) o.Queries=0
    ·have kk:=hqs.1 h3
     rw [show (((0:Nat):Int))=0 from rfl] at kk
     rw [kk,h3]
     exact ⟨_,rfl,fun _=>rfl⟩
    ·have kk:=hqs.2 h3
     rw [show (((0:Nat):Int))=0 from rfl] at kk
     rw [kk]
     exact ⟨_,rfl,fun h=>absurd h h3⟩
  ·rw [if_neg h1,if_neg h1]
   exact ⟨_,rfl,fun h=>absurd h (by decide)⟩
 ·obtain ⟨h10,e,h11,he⟩:=hl.2 h0
  have key:Loop (aB 1 o.Rounds (v:Int) 0 0) ([],0,s.Script,s.At,s.State,s.Count,(v:Int),o.Rounds,o.Roots,o.Last.A,o.Last.B,o.Nonce,o.Queries,cl.1.A,cl.1.B)=_:=he
  rw [key,obs,lB,if_neg h0,h10,obs]
  dsimp only
  rw [h11,brb (by decide)]
  exact ⟨_,rfl,fun h=>absurd h (by decide)⟩
end Go.AI.Fn
set_option linter.unusedVariables false
set_option linter.unusedSimpArgs false
namespace Go.AI.Fn
variable {o:aC} {v ρ nq bits:Nat} {t:Setting} {root:List UInt8} {P:List K} {cl:K} {s:Source} {k:Int}
def noS:Source:=⟨[],0,[],0⟩
noncomputable def chA (v ρ nq bits:Nat) (root:List UInt8) (P:List K) (cl:K) (o:aC) (s:Source):Source×Int:=
 if chO v ρ nq bits root P cl o s=0 then (chS nq (toK o.Last) o.Nonce (vfO v o cl s),0) else (noS,chO v ρ nq bits root P cl o s)
theorem b0l (h:OkO o v t) (hf:Few s k) (hk:k≤800):(chS nq (toK o.Last) o.Nonce (vfO v o cl s)).Script.length≤64:=by
 have hv:=h.v1
 have hrl:(vC o).length=v:=by rw [vC,List.length_map,h.rn]
 have hvf:=U1 (kind:=1) (O0 v o.Roots) (vC o) 0 cl s k hf (by omega)
 have:=((hvf.take ((kv [toK o.Last]).flatMap e8)).take (dX o.Nonce)).1.1
 rw [chS,Cn];exact this
theorem Gn (S:SmO o) (hr:root.length≤65536) (hP:P.length=v) (hv:1≤v∧v≤6) (hst:setB t=true) (e1:t.Rate=(ρ:Int)) (e2:t.Queries=(nq:Int)) (e3:t.Grind=(bits:Int)) (hf:Few s k) (hk:k≤800):
 jv root (v:Int) (kv P) cl.1 t o s=some (if okO o (v:Int) t=true then chA v ρ nq bits root P cl o s else (noS,18)):=by
 have hsp:jN s 100=some false:=VX hf (by omega) (n:=100) (by omega)
 unfold jv o4
 rw [am,brn (by omega),brn (by omega),brd (by omega),jO (by rw [am];omega),obs,I6.2 (zf P),obs,Bool.not_true,ak,EG,obs,pk.2 cl.2,Bool.not_true,ak,tg,obs,hst,Bool.not_true,ak,G0 hf.1,obs,Bool.not_true,ak,
  z8,obs,decide_eq_true (by omega),decide_eq_true (by omega),Bool.and_self,Bool.not_true,ak,fw (by omega),Ot S,obs]
 cases hok:okO o (v:Int) t with
 |false=>rfl
 |true=>
  have h:=Hw hok
  obtain ⟨src,hc,hsrc⟩:=Yk (root:=root) (cl:=cl) h hP e1 e2 e3 hf (by omega)
  rw [Bool.not_true,ak,hsp,obs,ak,hc,obs,if_pos rfl,chA]
  dsimp only
  by_cases h0:chO v ρ nq bits root P cl o s=0
  ·have hl:=b0l (nq:=nq) (cl:=cl) h hf hk
   rw [fw h0,if_pos h0,hsrc h0,FZ (by omega),obs]
  ·rw [brb h0,if_neg h0];rfl
theorem Gj (S:SmO o) (hr:root.length≤65536) (hP:P.length=v) (hv:1≤v∧v≤6) (hst:setB t=true) (e1:t.Rate=(ρ:Int)) (e2:t.Queries=(nq:Int)) (e3:t.Grind=(bits:Int)) (hf:Few s k) (hk:k≤800):
 fA root (v:Int) (kv P) cl.1 t o s=some (if okO o (v:Int) t=true then chA v ρ nq bits root P cl o s else (noS,18)):=by
 obtain ⟨z,hz,hz1,_⟩:=a1n hf (by omega)
 have hlen:=hf.1.1
 unfold fA EO
 rw [obs,decide_eq_false (by omega),ak,am,brn (by omega),sj (by rw [am];omega),obs,I6.2 (zf P),Bool.not_true,ak,ti,obs,pk.2 cl.2,Bool.not_true,ak,mN,obs,hst,Bool.not_true,ak,Gl hf.1,obs,Bool.not_true,ak,
  oh,obs,decide_eq_true (by omega),decide_eq_true (by omega),Bool.and_self,Bool.not_true,ak,fw (by omega),Ai S,obs]
 cases hok:okO o (v:Int) t with
 |false=>rfl
 |true=>
  have h:=Hw hok
  obtain ⟨src,hc,hsrc⟩:=YM (root:=root) (cl:=cl) h hP e1 e2 e3 hf (by omega)
  rw [Bool.not_true,ak,hz,obs,brn (by omega),Jo (by omega),obs,hc,obs,if_pos rfl,chA]
  dsimp only
  by_cases h0:chO v ρ nq bits root P cl o s=0
  ·rw [fw h0,if_pos h0,hsrc h0]
  ·rw [brb h0,if_neg h0];rfl
end Go.AI.Fn
set_option linter.unusedVariables false
set_option linter.unusedSimpArgs false
namespace Go.AI.Fn
theorem Wk {l:List (List UInt8)} (hl:l.length≤1000):mo l l=some true:=by
 unfold mo
 have key:Loop (ew l l) 0=some (.inr ((l.length:Int),false)):=
  an (step:=ew l l) (fun j=>(j:Int)) l.length (fun j hj=>by
   simp only [ew]
   rw [brd (by omega),bS hj,obs,obs,XN (by simp),aa _ (by omega) (by omega)];rfl) (by
   simp only [ew]
   rw [brn (by omega),decide_eq_false (by omega)])
 rw [fw rfl,key];rfl
theorem a3Z {R:List (List Ext)} (hl:R.length≤1000) (h: ∀g∈R,g.length≤1000):mJ R R=some true:=by
 unfold mJ
 have key:Loop (dO R R) 0=some (.inr ((R.length:Int),false)):=
  an (step:=dO R R) (fun j=>(j:Int)) R.length (fun j hj=>by
   have hg:=h _ (List.getElem_mem hj)
   simp only [dO]
   rw [brd (by omega),bS hj,obs,obs,vF (by omega),obs,Bool.not_true,ak,aa _ (by omega) (by omega)];rfl) (by
   simp only [dO]
   rw [brn (by omega),decide_eq_false (by omega)])
 rw [fw rfl,key];rfl
theorem a1p {o:aC} (h:BoO o):iK o o=some true:=by
 have h1:=h.rn
 have h3:=h.ro
 have h5:=h.qn
 unfold iK
 rw [a3Z (by omega) (fun g hg=>by have:=h.rr g hg;omega),obs,Bool.not_true,ak,Wk (by omega),obs,Bool.not_true,ak,bre rfl,bre rfl,fw rfl,fw rfl]
 have key:Loop (dv o.Rounds o.Roots o.Last.A o.Last.B o.Nonce o.Queries o.Rounds o.Roots o.Last.A o.Last.B o.Nonce o.Queries) 0=some (.inr ((o.Queries.length:Int),false)):=
  an (step:=dv o.Rounds o.Roots o.Last.A o.Last.B o.Nonce o.Queries o.Rounds o.Roots o.Last.A o.Last.B o.Nonce o.Queries) (fun j=>(j:Int)) o.Queries.length (fun j hj=>by
   have hm:=gdm hj
   have hp:=h.qp _ hm
   have ht:=h.qt _ hm
   have k2:Loop (dp (j:Int) o.Rounds o.Roots o.Last.A o.Last.B o.Nonce o.Queries o.Rounds o.Roots o.Last.A o.Last.B o.Nonce o.Queries (o.Queries[j]).Pairs (o.Queries[j]).Paths (o.Queries[j]).Pairs (o.Queries[j]).Paths) 0=some (.inr ((((o.Queries[j]).Paths.length:Nat):Int),false)):=
    an (step:=dp (j:Int) o.Rounds o.Roots o.Last.A o.Last.B o.Nonce o.Queries o.Rounds o.Roots o.Last.A o.Last.B o.Nonce o.Queries (o.Queries[j]).Pairs (o.Queries[j]).Paths (o.Queries[j]).Pairs (o.Queries[j]).Paths) (fun i=>(i:Int)) (o.Queries[j]).Paths.length (fun i hi=>by
     have hq:=(h.qq _ hm _ (gdm hi)).1
     simp only [dp]
     rw [brd (by omega),bS hi,obs,obs,Wk (by omega),obs,Bool.not_true,ak,aa _ (by omega) (by omega)];rfl) (by
     simp only [dp]
     rw [brn (by omega),decide_eq_false (by omega)])
   simp only [dv]
   rw [brd (by omega),bS hj,obs,obs,vF (by omega),obs,Bool.not_true,ak,fw rfl,k2,obs,ni,aa _ (by omega) (by omega)];rfl) (by
   simp only [dv]
   rw [brn (by omega),decide_eq_false (by omega)])
 rw [key];rfl
theorem a5p:iK ⟨[],[],⟨0,0⟩,0,[]⟩ ⟨[],[],⟨0,0⟩,0,[]⟩=some true:=a1p ⟨by simp,by simp,by simp,by simp,by simp,by simp,by simp,by simp⟩
theorem YU {s:Source} (h:s.Script.length≤1000):km s s=some true:=by
 unfold km
 rw [vF (by omega),obs,aR,bre rfl,zw (by simp)];simp
theorem b3f (a b:K):Bx a.1 b.1=some ((a+b).1,0):=by
 unfold Bx oW
 rw [ti,obs,pk.2 a.2,Bool.not_true,ak,ti,obs,pk.2 b.2,Bool.not_true,ak,gL a.2 b.2];rfl
theorem b2P {r:List UInt8} (h:r.length≤1000):ms r=some (H r):=by
 unfold ms
 rw [brn (by omega),pA (by simp;omega) (by simp)];simp
theorem b6E (x:K):x≠x+1:=fun e=>by
 have:(1:K)=0:=by
  have h:x+1-x=x-x:=by rw [←e]
  have h1:x+1-x=1:=by clear e h;exact kg
  have h2:x-x=0:=by clear e h h1;exact kg
  rw [h1,h2] at h;exact h
 exact absurd (congrArg (fun y:K=>y.1.A) this) (by decide)
variable {v ρ:Nat} {t P:List K} {s:Source} {k:Int}
theorem a6n (v ρ nq n:Nat) (t P:List K) (s:Source):vC (opO v ρ nq n t P s)=(opQ v ρ t P s).1:=by
 show (kvv (opQ v ρ t P s).1).map (fun g=>g.map toK)=_
 rw [kvv,List.map_map]
 refine (List.map_congr_left fun g _=> ?_).trans (List.map_id _)
 show (kv g).map toK=g
 rw [kv,List.map_map]
 refine (List.map_congr_left fun x _=> ?_).trans (List.map_id _)
 exact K.ext (re x.2)
theorem a1Q (x:K):toK x.1=x:=K.ext (re x.2)
theorem a70 {bv:Nat→Source→Source}: ∀{R:List (List K)} {c d:K} {s:Source},R≠[]→(vfM 1 bv R 0 c s).1=0→c≠d→(vfM 1 bv R 0 d s).1=10
 |[],c,d,s,h,_,_=>absurd rfl h
 |g::R,c,d,s,_,h,hne=>by
  rw [vfM] at h ⊢
  by_cases h1:g.length=1+2
  ·rw [if_pos h1] at h ⊢
   by_cases h2:g.getD 0 0+g.getD 1 0=c
   ·rw [if_neg (by rw [h2];exact hne)]
   ·rw [if_neg h2] at h;exact absurd (show (10:Int)=0 from h) (by decide)
  ·rw [if_neg h1] at h;exact absurd (show (18:Int)=0 from h) (by decide)
theorem law_FnOpens (a b:List UInt8) (ha:bdL bdT a) (hb:bdL bdT b):Cp a b=some true:=by
 unfold Cp
 by_cases c1:((a.length:Nat):Int)>1048576
 ·rw [brd c1]
 rw [brn c1]
 by_cases c2:((b.length:Nat):Int)>1048576
 ·rw [brd c2]
 rw [brn c2]
 obtain ⟨x,e1,x0,x1⟩:=b5U (a:=b) (i:=0) (n:=3) (by omega) (by omega) (by omega) (by omega)
 obtain ⟨st,e2,t1,t2,t3⟩:=Sp (code:=b) (by omega)
 have hst:setB st=true:=by unfold setB;simp only [Bool.and_eq_true,decide_eq_true_eq];omega
 obtain ⟨v,hv⟩: ∃v:Nat,1+x=(v:Int):=⟨(1+x).toNat,by omega⟩
 have hp:=IF v (by omega)
 obtain ⟨ρ,hρ⟩: ∃n:Nat,st.Rate=(n:Int):=⟨st.Rate.toNat,by omega⟩
 obtain ⟨nq,hq⟩: ∃n:Nat,st.Queries=(n:Int):=⟨st.Queries.toNat,by omega⟩
 obtain ⟨bits,hbt⟩: ∃n:Nat,st.Grind=(n:Int):=⟨st.Grind.toNat,by omega⟩
 obtain ⟨T,e3,tl,tok⟩:=QQ (code:=a) (n:=((2^v:Nat):Int)) (by omega) (by omega) (by omega)
 obtain ⟨Q,e4,ql,qok⟩:=QQ (code:=b) (n:=(v:Int)) (by omega) (by omega) (by omega)
 obtain ⟨s,e5,hf⟩:=V3 (code:=a) (by omega)
 obtain ⟨t,rfl⟩:=a0B (L:=T) tok
 obtain ⟨P,rfl⟩:=a0B (L:=Q) qok
 rw [am] at tl ql
 have ht:t.length=2^v:=by omega
 have hP:P.length=v:=by omega
 have hop:=MO (ρ:=ρ) (nq:=nq) (bits:=bits) ht hP (by omega) (by omega) hst hρ hq hbt hf (by omega)
 have hoi:=OW (ρ:=ρ) (nq:=nq) (bits:=bits) ht hP (by omega) (by omega) hst hρ hq hbt hf (by omega)
 rw [e1,obs,hv,aa (v:Int) (by omega) (by omega),cX _ (by omega) (by omega),brd (by omega),a2s (by omega),e3,obs,e4,obs,e2,obs,e5,obs,hoi,hop]
 rw [hρ,I8 ht (by omega) (by omega) (by omega) (by omega),obs,Ir ht (by omega) (by omega) (by omega) (by omega),obs,obs,obs]
 dsimp only
 rw [fw rfl,XN (by simp)]
 cases hg:ij (opS v ρ t P s).State bits with
 |none=>
  dsimp only
  rw [fw rfl,a5p,obs,Bool.not_true,ak,YU (by simp),obs,Bool.not_true,ak,brb (by decide)]
  rfl
 |some n=>
  have hn:=(LS hg).1
  have hok:=b5b (s:=s) (P:=P) ht (by omega) (by omega) (by omega) hst hρ hq hn
  have hpt:=Hw hok
  have hl:=FK v ρ t P s
  have hwl:=ER (v+ρ-1) (opW v ρ t)
  have hfT:=(GX (v:=v) (ρ:=ρ) (t:=t) (P:=P) hf (by omega) n).1.1
  have hval:=T6 P t (by rw [hP];exact ht)
  have hch:=a9q (nq:=nq) (n:=n) ht hP (by omega) (by omega) (by omega) hg hf (by omega) (by omega)
  have hcz:=a8Q (nq:=nq) ht hP (by omega) (by omega) (by omega) hg hf (by omega) (by omega)
  have hvf:vfO v (opO v ρ nq n t P s) (xL t (eqK P)) s=(0,(opQ v ρ t P s).2.1,opL v ρ t P s*eaK (opQ v ρ t P s).2.1 P 1,(opQ v ρ t P s).2.2.2):=by
   rw [vfO,a6n];exact hch
  have hc0:chO v ρ nq bits (wrK (v+ρ-1) (opW v ρ t)) P (xL t (eqK P)) (opO v ρ nq n t P s) s=0:=by
   rw [chO,hvf,show toK (opO v ρ nq n t P s).Last=opL v ρ t P s from a1Q _];exact hcz
  have hA:=fun (root:List UInt8) (hr:root.length≤65536) (cl:K)=>Gj (ρ:=ρ) (nq:=nq) (bits:=bits) (root:=root) (P:=P) (cl:=cl) hpt.bo.sm hr hP hpt.v1 hst hρ hq hbt hf (by omega)
  have hS:=fun (root:List UInt8) (hr:root.length≤65536) (cl:K)=>Gn (ρ:=ρ) (nq:=nq) (bits:=bits) (root:=root) (P:=P) (cl:=cl) hpt.bo.sm hr hP hpt.v1 hst hρ hq hbt hf (by omega)
  have hw10:chO v ρ nq bits (wrK (v+ρ-1) (opW v ρ t)) P (xL t (eqK P)+1) (opO v ρ nq n t P s) s=10:=by
   have h10:(vfO v (opO v ρ nq n t P s) (xL t (eqK P)+1) s).1=10:=a70 (c:=xL t (eqK P)) (by rw [a6n];intro h;rw [h,List.length_nil] at hl;omega) (by have:=congrArg (·.1) hvf;exact this) (b6E _)
   rw [chO,chC,if_neg (by rw [h10];decide),h10]
  have hsc:chS nq (toK (opO v ρ nq n t P s).Last) (opO v ρ nq n t P s).Nonce (vfO v (opO v ρ nq n t P s) (xL t (eqK P)) s)=drS (opT v ρ n t P s) nq:=by
   rw [hvf,show toK (opO v ρ nq n t P s).Last=opL v ρ t P s from a1Q _];rfl
  dsimp only
  rw [fw rfl,a1p hpt.bo,obs,Bool.not_true,ak,YU (by rw [Cn];omega),obs,Bool.not_true,ak,fw rfl,Vb (by omega) (by rw [hP];exact ht),obs, ←hval]
  dsimp only
  rw [hA _ (by omega),obs,show a1M=some (1:K).1 from rfl,obs,b3f,obs]
  dsimp only
  rw [hA _ (by omega),obs,al (by omega),b2P (by omega),obs,hA _ (by rw [uQ];omega),obs,al (by omega),obs,hS _ (by rw [uQ];omega),obs,if_pos hok,if_pos hok,if_pos hok]
  rw [chA,if_pos hc0,hsc]
  dsimp only
  rw [bre rfl,bre rfl,YU (by rw [Cn];omega),obs,aR,bre rfl,chA,if_neg (by rw [hw10];decide),hw10]
  dsimp only
  rw [bre rfl,bre rfl,Ai hpt.bo.sm,obs,hok,aR,mN,obs,hst]
end Go.AI.Fn
