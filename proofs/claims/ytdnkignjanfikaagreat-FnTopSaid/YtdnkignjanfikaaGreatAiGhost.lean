/- Part. -/
import Derived.Test.YtdnkignjanfikaaGreatAiCall3
set_option linter.unusedVariables false
set_option linter.unusedSimpArgs false
namespace Go.AI
theorem Vj (g:V->V): ∀(e:List (Nat×V)) (t:Nat),eH (RD g e) t=(eH e t).map g
 |[],t=>rfl
 | (k,v)::r,t=>by
   simp only [RD,eH]
   by_cases h:k=t
   ·simp [h]
   ·rw [a7 h,a7 h,Vj g r t]
def fzB (h:ba) (bs:List Nat) (k:Blk):Blk:=if k.op then (if (k.rows.map (·.map (fzC h bs))).all (·.all V.cell) then { k with rows:=k.rows.map (·.map (fzC h bs)) } else kf) else k
theorem RU (h:ba) (bs:List Nat): ∀(m:List (Nat×Blk)) (b:Nat),eH (fzM h bs m) b=if b∈bs then none else (eH m b).map (fzB h bs)
 |[],b=>by simp [fzM,eH]
 | (j,k)::r,b=>by
   simp only [fzM]
   by_cases a:j∈bs
   ·rw [aa a,RU h bs r b]
    simp only [eH]
    by_cases e:j=b
    ·subst e;simp [a]
    ·rw [a7 e]
   ·rw [a7 a]
    simp only [eH]
    by_cases e:j=b
    ·subst e;rw [aa rfl,a7 a,aa rfl];rfl
    ·rw [a7 e,a7 e,RU h bs r b]
section
variable {P:Program} {μ:Mu} {h:ba} {w:World} {a:Act}
structure lu (μ:Mu) (h:ba) (bs:List Nat) (μ':Mu) (h':ba):Prop where
 hq: ∀b,h' b=if b∈bs then none else (h b).map (fzB h bs)
 mq: ∀b,μ' b=match h' b with
  |some k=>if k.esz=0/\k.op=false then none else μ b
  |none=>none
variable {bs:List Nat} {μ':Mu} {h':ba}
theorem lu.sub (K:lu μ h bs μ' h'): ∀b c,μ' b=some c->μ b=some c:=by
 intro b c a
 rw [K.mq b] at a
 split at a
 ·split at a
  ·cases a
  ·exact a
 ·cases a
theorem lu.gone (K:lu μ h bs μ' h') {b:Nat} (a:b∈bs):μ' b=none:=by
 rw [K.mq b,K.hq b,aa a]
theorem lu.stay (K:lu μ h bs μ' h') {b:Nat} {k:Blk} (e:b∉bs) (f:h b=some k): ∃k',h' b=some k'/\k'=fzB h bs k/\((k'.esz=0/\k'.op=false)\/(k'.esz=k.esz/\k'.op=k.op/\k'.rows.length=k.rows.length/\μ' b=μ b)):=by
 have d:=K.hq b
 rw [a7 e,f] at d
 refine ⟨fzB h bs k,d,rfl, ?_⟩
 have c:=K.mq b
 rw [d] at c
 simp only [fj] at c
 by_cases h0:(fzB h bs k).esz=0/\(fzB h bs k).op=false
 ·exact .inl h0
 ·rw [a7 h0] at c
  refine .inr ⟨?_, ?_, ?_,c⟩
  ·revert h0
   unfold fzB
   split
   ·split
    ·intro _;rfl
    ·intro a;exact absurd ⟨rfl,rfl⟩ a
   ·intro _;rfl
  ·revert h0
   unfold fzB
   split
   ·split
    ·intro _;rfl
    ·intro a;exact absurd ⟨rfl,rfl⟩ a
   ·intro _;rfl
  ·revert h0
   unfold fzB
   split
   ·split
    ·intro _;simp
    ·intro a;exact absurd ⟨rfl,rfl⟩ a
   ·intro _;rfl
theorem lu.ptr [Frame] (K:lu μ h bs μ' h') {b i o n:Nat} {x:Value} (l:b∉bs) (m:b7 μ h w (.ptr b i o n) x):b7 μ' h' w (.ptr b i o n) x:=by
 cases m with
 |ptr _ _ _ _ _ k p hn d q r=>
  obtain ⟨k',a,_,h0|⟨c,s,e,t⟩⟩:=K.stay l p
  ·exact .ptr b i o n x k' a (.inl h0.1) d (fun g=>absurd h0.1 g) (fun _=>h0.2)
  ·exact .ptr b i o n x k' a (by rw [c,e];exact hn) d (fun f j u=>by
    rw [c] at f ⊢;rw [e] at j;rw [t];exact q f j u) (fun g=>by rw [s];exact r (by rw [<-c];exact g))
theorem lu.mp [Frame] (K:lu μ h bs μ' h') {b:Nat} {x:Value} (e:b∉bs) (f:b7 μ h w (.mp b) x):b7 μ' h' w (.mp b) x:=by
 cases f with
 |mp _ _ k i d j=>
  obtain ⟨k',a,_,h0|⟨l,m,p,n⟩⟩:=K.stay e i
  ·exact .mp b x k' a d (fun _ c=>by rw [h0.2] at c;cases c)
  ·exact .mp b x k' a d (fun o c=>by rw [n];exact j (l▸o) (m▸c))
theorem lu.sl [Frame] (K:lu μ h bs μ' h') {b s n:Nat} {x:Value} (j:b∉bs) (l:b7 μ h w (.sl b s n) x):b7 μ' h' w (.sl b s n) x:=by
 cases l with
 |sl _ _ _ _ k m hn c o=>
  obtain ⟨k',a,_,h0|⟨d,q,e,p⟩⟩:=K.stay j m
  ·exact .sl b s n x k' a (.inl h0.1) c (fun g=>absurd h0.1 g)
  ·exact .sl b s n x k' a (by rw [d,e];exact hn) c (fun f i=>by
    rw [d] at f ⊢;rw [e] at i;rw [p];exact o f i)
theorem lu.cl [Frame] (K:lu μ h bs μ' h') {v:V} {x:Value} (a:b7 μ h w v x) (hc:v.cl=true):b7 μ' h' w v x:=a.closed h' (pI.sub K.sub) hc
theorem lu.keep [Frame] (K:lu μ h bs μ' h') {v:V} {x:Value} (j:okC v=true) (k: ∀b∈E6 v,b∉bs) (a:b7 μ h w v x):b7 μ' h' w v x:=by
 cases v with
 |lit y=>exact K.cl a rfl
 |imm e r=>exact K.cl a rfl
 |iptr r o=>exact K.cl a rfl
 |fn f cs=>
  cases cs with
  |nil=>exact K.cl a rfl
  |cons c d=>simp [okC] at j
 |ptr b i o n=>exact K.ptr (k b (by simp [E6])) a
 |sl b s n=>exact K.sl (k b (by simp [E6])) a
 |mp b=>exact K.mp (k b (by simp [E6])) a
 |undef=>exact .unk x
 |agg cs=>simp [okC] at j
 |tup cs=>simp [okC] at j
theorem lu.fz [Frame] (K:lu μ h bs μ' h') (H:bG μ h w) {v:V} {x:Value} (hc:v.cell=true\/v= .undef) (d:b7 μ h w v x):b7 μ' h' w (fzC h bs v) x:=by
 cases v with
 |lit y=>exact K.cl d rfl
 |imm e r=>exact K.cl d rfl
 |iptr r o=>exact K.cl d rfl
 |undef=>exact .unk x
 |agg cs=>rcases hc with hc|hc<;>simp [V.cell] at hc
 |tup cs=>rcases hc with hc|hc<;>simp [V.cell] at hc
 |ptr b i o n=>
  simp only [fzC]
  split
  ·exact .unk x
  ·rename_i c;exact K.ptr c d
 |mp b=>
  simp only [fzC]
  split
  ·exact .unk x
  ·rename_i c;exact K.mp c d
 |sl b s n=>
  simp only [fzC]
  split
  ·rename_i c
   split
   ·rename_i v' bs' j
    simp only [uO] at j
    split at j
    ·rename_i k p
     split at j
     ·rename_i a
      cases j
      exact (MB H p a.1 a.2.1 a.2.2 d h' (K.gone c) K.sub).cz
     ·cases j
    ·cases j
   ·exact .unk x
  ·rename_i c;exact K.sl c d
 |fn f cs=>
  simp only [fzC]
  split
  ·rename_i a
   simp only [aB,j3,wg,an] at a
   cases d with
   |fn _ _ xs q l=>
    refine .fn f cs xs q (fun i v hi=> ?_)
    have m:=al hi
    exact K.keep (a.1 v m) (fun b c=>by
     have:=a.2 b (List.mem_flatMap.2 ⟨v,m,c⟩)
     simpa using this) (l i v hi)
  ·exact .unk x
theorem lu.env [Frame] (K:lu μ h bs μ' h') (H:bG μ h w) {v:V} {x:Value} (a:b7 μ h w v x):b7 μ' h' w (fzA h bs v) x:=by
 cases v with
 |agg cs=>
  simp only [fzA]
  split
  ·rename_i d
   cases a with
   |agg _ xs k c hc=>
    refine .agg _ xs (by simp [k]) (fun v a=>an.1 d v a) (fun i v hi=> ?_)
    rw [b6] at hi
    cases j:cs[i]? with
    |none=>rw [j] at hi;cases hi
    |some u=>
     rw [j] at hi;cases hi
     exact K.fz H (.inl (c u (al j))) (hc i u j)
  ·exact .unk x
 |tup vs=>exact .unk x
 |undef=>exact .unk x
 |lit y=>exact K.cl a rfl
 |ptr b i o n=>exact K.fz H (.inl rfl) a
 |sl b s n=>exact K.fz H (.inl rfl) a
 |imm e r=>exact K.fz H (.inl rfl) a
 |iptr r o=>exact K.fz H (.inl rfl) a
 |fn f cs=>exact K.fz H (.inl rfl) a
 |mp b=>exact K.fz H (.inl rfl) a
theorem lu.hrel [Frame] (K:lu μ h bs μ' h') (H:bG μ h w):bG μ' h' w:=by
 have inv: ∀b k',h' b=some k'->b∉bs/\ ∃k,h b=some k/\k'=fzB h bs k:=by
  intro b k' d
  rw [K.hq b] at d
  split at d
  ·cases d
  ·rename_i y
   cases p:h b with
   |none=>rw [p] at d;cases d
   |some k=>rw [p] at d;cases d;exact ⟨y,k,rfl,rfl⟩
 refine ⟨fun b b' c m q=>H.inj _ _ _ (K.sub _ _ m) (K.sub _ _ q),fun b c m=> ?_,fun b k' d=> ?_,fun b k' d=> ?_,fun b c m=>H.frame _ _ (K.sub _ _ m),H.frlt⟩
 ·rw [K.mq b] at m
  split at m
  ·rename_i k p
   split at m
   ·cases m
   ·rename_i hn
    refine ⟨k,p, ?_⟩
    unfold Blk.lies
    cases ho:k.op with
    |true=>exact .inr rfl
    |false=>exact .inl (Nat.pos_of_ne_zero (fun e=>hn ⟨e,ho⟩))
  ·cases m
 ·obtain ⟨y,k,p,rfl⟩:=inv b k' d
  have o:=K.mq b
  rw [d] at o
  simp only at o
  cases a:k.op with
  |false=>
   have e:fzB h bs k=k:=by unfold fzB;rw [a];rfl
   rw [e] at o ⊢
   rcases H.blk b k p with ⟨g1,x,g3⟩|⟨u,c,arr,t,lo,hi,gm,gh,gf,gl,gv⟩|⟨u,go,_⟩
   ·left
    refine ⟨g1,x, ?_⟩
    rw [o,g3]
    split<;>rfl
   rotate_left
   ·rw [a] at go;cases go
   ·right;left
    refine ⟨u,c,arr,t,lo,hi,by rw [o,a7 (fun h=>by omega),gm],gh,gf,gl,fun i row j v m q=>K.cl (gv i row j v m q) ?_⟩
    exact ((H.rows b k p row (al m)).2 v (al q)).2 a
  |true=>
   by_cases f:(k.rows.map (·.map (fzC h bs))).all (·.all V.cell)=true
   ·have e:fzB h bs k={ k with rows:=k.rows.map (·.map (fzC h bs)) }:=by unfold fzB;rw [a,aa rfl,aa f]
    rw [e] at o ⊢
    rcases H.blk b k p with ⟨g1,x,g3⟩|⟨u,c,arr,t,lo,hi,gm,gh,gf,gl,gv⟩|⟨u,go,c,gm,gb⟩
    ·rw [a] at x;cases x
    rotate_left
    ·right;right
     refine ⟨u,go,c, ?_, ?_⟩
     ·simp only [a,Bool.true_eq_false,and_false,if_false] at o
      rw [o,gm]
     ·show vz w c (k.rows.map (·.map (fzC h bs)))
      rw [gb.map (fun n=>rfl)]
      exact gb
    ·right;left
     refine ⟨u,c,arr,t,lo,hi, ?_,gh,gf,by simpa using gl,fun i row j v m q=> ?_⟩
     ·simp only [a,Bool.true_eq_false,and_false,if_false] at o
      rw [o,gm]
     ·simp only [b6] at m
      cases s:k.rows[i]? with
      |none=>rw [s] at m;cases m
      |some row1=>
       rw [s] at m;cases m
       rw [b6] at q
       cases r:row1[j]? with
       |none=>rw [r] at q;cases q
       |some v1=>
        rw [r] at q;cases q
        exact K.fz H (.inl ((H.rows b k p row1 (al s)).2 v1 (al r)).1) (gv i row1 j v1 s r)
   ·have e:fzB h bs k=kf:=by unfold fzB;rw [a,aa rfl,a7 f]
    rw [e] at o ⊢
    exact .inl ⟨rfl,rfl,by rw [o];rfl⟩
 ·obtain ⟨y,k,p,rfl⟩:=inv b k' d
  have s:=H.rows b k p
  cases a:k.op with
  |false=>
   have e:fzB h bs k=k:=by unfold fzB;rw [a];rfl
   rw [e];exact s
  |true=>
   by_cases f:(k.rows.map (·.map (fzC h bs))).all (·.all V.cell)=true
   ·have e:fzB h bs k={ k with rows:=k.rows.map (·.map (fzC h bs)) }:=by unfold fzB;rw [a,aa rfl,aa f]
    rw [e]
    intro row l
    have z:=l
    simp only at l
    obtain ⟨row1,hm1,rfl⟩:=bf.1 l
    refine ⟨by simpa using (s row1 hm1).1,fun v hv=>⟨?_,fun h3=> ?_⟩⟩
    ·exact an.1 (an.1 f _ l) v hv
    ·simp only [a] at h3;cases h3
   ·have e:fzB h bs k=kf:=by unfold fzB;rw [a,aa rfl,a7 f]
    rw [e];intro row l;simp [kf] at l
theorem a1t (ts:List Nat): ∀(e:List (Nat×V)) (t:Nat),(eH (a8c ts e) t).getD .undef=if t∈ts then .undef else (eH e t).getD .undef
 |[],t=>by simp [a8c,eH]
 | (j,v)::r,t=>by
   simp only [a8c,eH]
   by_cases e:j=t
   ·subst e;rw [aa rfl,aa rfl];by_cases h:j∈ts<;>simp [h]
   ·rw [a7 e,a7 e,a1t ts r t]
theorem ON [Frame] {n:Nat} {st st':St} {g:dX} {μ0:Mu} {h0:ba} {w0:World} (f:dN st g=some st') (I:Inv n st.get st.heap μ a w) (S:nX μ0 h0 w0 μ st.heap w):
 ∃μ',Inv n st'.get st'.heap μ' a w/\nX μ0 h0 w0 μ' st'.heap w:=by
 induction g generalizing st st' μ with
 |drop ts=>
  simp only [dN] at f
  cases f
  refine ⟨μ,⟨I.H,fun t=> ?_,I.sz,I.df⟩,S⟩
  show b7 μ st.heap w ((eH (a8c ts st.e) t).getD .undef) _
  rw [a1t]
  by_cases h:t∈ts
  ·rw [aa h];exact .unk _
  ·rw [a7 h];exact I.E t
 |both g1 g2 ih1 ih2=>
  simp only [dN] at f
  split at f
  ·rename_i st1 x
   obtain ⟨μ1,I1,S1⟩:=ih1 x I S
   exact ih2 f I1 S1
  ·cases f
 |close bs=>
  simp only [dN] at f
  split at f
  ·rename_i hbs
   cases f
   let h':ba:=eH (fzM st.heap bs st.m)
   let μ':Mu:=fun b=>match h' b with
    |some k=>if k.esz=0/\k.op=false then none else μ b
    |none=>none
   have K:lu μ st.heap bs μ' h':=⟨fun b=>RU st.heap bs st.m b,fun b=>rfl⟩
   refine ⟨μ',⟨K.hrel I.H,fun t=> ?_,I.sz,I.df⟩,⟨⟨S.C.ev.trans (pI.sub K.sub),fun b k z=> ?_⟩,S.lo⟩⟩
   ·have:St.get { e:=RD (fzA st.heap bs) st.e,m:=fzM st.heap bs st.m } t=fzA st.heap bs (st.get t):=by
     show (eH (RD (fzA st.heap bs) st.e) t).getD .undef=fzA st.heap bs ((eH st.e t).getD .undef)
     rw [Vj]
     cases eH st.e t<;>rfl
    rw [this]
    exact K.env I.H (I.E t)
   ·obtain ⟨k1,r,hr⟩:=S.C.refs b k z
    have hb:b∉bs:=by
     intro hm
     have x:=S.lo b k z
     have s:=an.1 hbs b hm
     simp at s
     omega
    obtain ⟨k',hk',_,h0|⟨x,ho,s,h3⟩⟩:=K.stay hb r
    ·exact ⟨k',hk',.inl h0⟩
    ·exact ⟨k',hk',by rw [x,ho,s,h3];exact hr⟩
  ·cases f
 |nilCell b o new esz=>
  simp only [dN] at f
  split at f
  ·rename_i k z
   split at f
   ·rename_i hop
    split at f
    ·rename_i row p
     split at f
     ·rename_i ho
      split at f
      ·rename_i hc
       cases f
       have q:st.heap new=none:=by simpa using hc.1
       have hne:b≠new:=fun e=>by rw [e,q] at z;cases z
       obtain ⟨H1,C1⟩:=I.H.newNil (e:=esz) q
       have r:ci st.heap new ⟨esz,false,[]⟩ b=some k:=by unfold ci;rw [a7 hne];exact z
       have l:k.rows[0]? =some row:=by rw [p];rfl
       rcases H1.blk b k r with ⟨g1,_,_⟩|⟨g0,c,arr,t,lo,hi,gm,gh,gf,gl,gv⟩|⟨g0,go,c,gm,gb⟩
       ·rw [p] at g1;cases g1
       rotate_left
       ·exfalso
        obtain ⟨n,hn⟩:=gb.lit (row:=row) (v:= .lit (.slice none 0 0)) (al l) (al ho)
        cases hn
       ·have hrr:=H1.rows b k r row (al l)
        have u:=H1.put (w':=w) (c:=c) (k':={ k with rows:=[row.set o (.sl new 0 0)] }) r g0 (.inl gm) rfl rfl rfl (am _) (am _) (fun _ _ _=>rfl) gh gf rfl
         (by rw [p] at gl;simpa using gl)
         (fun row' hr'=>by
          simp at hr'
          subst hr'
          refine ⟨by simpa using hrr.1 g0,fun v hv=>⟨?_,fun h3=> ?_⟩⟩
          ·rcases dC hv with h4|h4
           ·exact (hrr.2 v h4).1
           ·subst h4;rfl
          ·simp only [hop] at h3;cases h3)
         (.inr ⟨by rw [p];rfl,gm,by unfold bsize;rw [gh]⟩)
         (fun i row' j v x s=>by
          cases i with
          |succ i=>simp at x
          |zero=>
           simp at x
           subst x
           rw [dW] at s
           by_cases e:o=j
           ·subst e
            rw [aa rfl] at s
            split at s
            ·cases s
             have y:=gv 0 row o _ l ho
             generalize hX:arr.getD (0*k.esz+o) undef=X at y
             cases y
             exact .sl new 0 0 _ ⟨esz,false,[]⟩ (by simp [ci]) (.inr (am _)) ⟨_,_,rfl⟩ (fun _ _=>⟨none,0,rfl,.inl ⟨rfl,rfl⟩⟩)
            ·cases s
           ·rw [a7 e] at s
            exact gv 0 row j v l s)
        have d:St.heap { st with m:=lx new ⟨esz,false,[]⟩ (lx b { k with rows:=[row.set o (.sl new 0 0)] } st.m) }=ci (ci st.heap new ⟨esz,false,[]⟩) b { k with rows:=[row.set o (.sl new 0 0)] }:=by
         funext b'
         show eH (lx new _ (lx b _ st.m)) b'=_
         rw [zP,zP]
         unfold ci
         by_cases e1:b'=new
         ·subst e1;rw [aa rfl,a7 (fun e=>hne e.symm),aa rfl]
         ·rw [a7 e1]
          by_cases e2:b'=b
          ·rw [aa e2,aa e2]
          ·rw [a7 e2,a7 e2,a7 e1];rfl
        refine ⟨cM μ b (some c),⟨by rw [d];exact u.1,fun t=> ?_,I.sz,I.df⟩,⟨?_,S.lo⟩⟩
        ·rw [d];exact ((I.E t).chg C1).chg u.2
        ·rw [d];exact (S.C.trans C1).trans u.2
      ·cases f;exact ⟨μ,I,S⟩
     ·cases f;exact ⟨μ,I,S⟩
    ·cases f;exact ⟨μ,I,S⟩
   ·cases f;exact ⟨μ,I,S⟩
  ·cases f;exact ⟨μ,I,S⟩
 |nilTmp t new esz=>
  simp only [dN] at f
  split at f
  ·rename_i ht
   split at f
   ·rename_i hc
    cases f
    have q:st.heap new=none:=by simpa using hc.1
    obtain ⟨H1,C1⟩:=I.H.newNil (e:=esz) q
    have d:St.heap { e:=lx t (.sl new 0 0) st.e,m:=lx new ⟨esz,false,[]⟩ st.m }=ci st.heap new ⟨esz,false,[]⟩:=by
     funext b'
     show eH (lx new _ st.m) b'=_
     rw [zP];rfl
    refine ⟨μ,⟨by rw [d];exact H1,fun t'=> ?_,I.sz,I.df⟩,⟨by rw [d];exact S.C.trans C1,S.lo⟩⟩
    rw [d]
    have f:St.get { e:=lx t (.sl new 0 0) st.e,m:=lx new ⟨esz,false,[]⟩ st.m } t'=if t=t' then .sl new 0 0 else st.get t':=by
     show (eH (lx t (V.sl new 0 0) st.e) t').getD .undef=_
     rw [zP]
     by_cases e:t=t'
     ·simp [e]
     ·rw [a7 e,a7 (Ne.symm e)];rfl
    rw [f]
    split
    ·rename_i e
     subst e
     have hE:=I.E t
     rw [ht] at hE
     generalize hX:a.tmps.getD t undef=X at hE
     cases hE
     exact .sl new 0 0 _ ⟨esz,false,[]⟩ (by simp [ci]) (.inr (am _)) ⟨_,_,rfl⟩ (fun _ _=>⟨none,0,rfl,.inl ⟨rfl,rfl⟩⟩)
    ·exact (I.E t').chg C1
   ·cases f;exact ⟨μ,I,S⟩
  ·cases f;exact ⟨μ,I,S⟩
end
end Go.AI
