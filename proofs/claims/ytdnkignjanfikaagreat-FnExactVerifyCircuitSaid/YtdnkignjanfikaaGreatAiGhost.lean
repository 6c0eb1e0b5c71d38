/- Part. -/
import Derived.Test.YtdnkignjanfikaaGreatAiCall3
set_option linter.unusedVariables false
set_option linter.unusedSimpArgs false
namespace Go.AI
theorem Vq (g:V->V): ∀(e:List (Nat×V)) (t:Nat),dP (Rx g e) t=(dP e t).map g
 |[],t=>rfl
 | (k,v)::r,t=>by
   simp only [Rx,dP]
   by_cases h:k=t
   ·simp [h]
   ·rw [aa h,aa h,Vq g r t]
def fzB (h:b8) (bs:List Nat) (k:Blk):Blk:=if k.op then (if (k.rows.map (·.map (fzC h bs))).all (·.all V.cell) then { k with rows:=k.rows.map (·.map (fzC h bs)) } else my) else k
theorem Sv (h:b8) (bs:List Nat): ∀(m:List (Nat×Blk)) (b:Nat),dP (fzM h bs m) b=if b∈bs then none else (dP m b).map (fzB h bs)
 |[],b=>by simp [fzM,dP]
 | (j,k)::r,b=>by
   simp only [fzM]
   by_cases a:j∈bs
   ·rw [ae a,Sv h bs r b]
    simp only [dP]
    by_cases e:j=b
    ·subst e;simp [a]
    ·rw [aa e]
   ·rw [aa a]
    simp only [dP]
    by_cases e:j=b
    ·subst e;rw [ae rfl,aa a,ae rfl];rfl
    ·rw [aa e,aa e,Sv h bs r b]
section
variable {P:Program} {μ:Mu} {h:b8} {w:World} {a:Act}
structure jI (μ:Mu) (h:b8) (bs:List Nat) (μ':Mu) (h':b8):Prop where
 hq: ∀b,h' b=if b∈bs then none else (h b).map (fzB h bs)
 mq: ∀b,μ' b=match h' b with
  |some k=>if k.esz=0/\k.op=false then none else μ b
  |none=>none
variable {bs:List Nat} {μ':Mu} {h':b8}
theorem jI.sub (K:jI μ h bs μ' h'): ∀b c,μ' b=some c->μ b=some c:=by
 intro b c a
 rw [K.mq b] at a
 split at a
 ·split at a
  ·cases a
  ·exact a
 ·cases a
theorem jI.gone (K:jI μ h bs μ' h') {b:Nat} (a:b∈bs):μ' b=none:=by
 rw [K.mq b,K.hq b,ae a]
theorem jI.stay (K:jI μ h bs μ' h') {b:Nat} {k:Blk} (f:b∉bs) (i:h b=some k): ∃k',h' b=some k'/\k'=fzB h bs k/\((k'.esz=0/\k'.op=false)\/(k'.esz=k.esz/\k'.op=k.op/\k'.rows.length=k.rows.length/\μ' b=μ b)):=by
 a e:=K.hq b
 rw [aa f,i] at e
 refine ⟨fzB h bs k,e,rfl, ?_⟩
 a d:=K.mq b
 rw [e] at d
 simp only [ea] at d
 by_cases h0:(fzB h bs k).esz=0/\(fzB h bs k).op=false
 ·exact .inl h0
 ·rw [aa h0] at d
  refine .inr ⟨?_, ?_, ?_,d⟩
  ·revert h0
   unfold fzB
   split
   ·split
    ·intro _;rfl
    ·intro c;exact absurd ⟨rfl,rfl⟩ c
   ·intro _;rfl
  ·revert h0
   unfold fzB
   split
   ·split
    ·intro _;rfl
    ·intro c;exact absurd ⟨rfl,rfl⟩ c
   ·intro _;rfl
  ·revert h0
   unfold fzB
   split
   ·split
    ·intro _;simp
    ·intro c;exact absurd ⟨rfl,rfl⟩ c
   ·intro _;rfl
theorem jI.ptr [Frame] (K:jI μ h bs μ' h') {b i o n:Nat} {x:Value} (l:b∉bs) (m:aY μ h w (.ptr b i o n) x):aY μ' h' w (.ptr b i o n) x:=by
 cases m with
 |ptr _ _ _ _ _ k p q d r s=>
  obtain ⟨k',a,_,h0|⟨c,t,e,u⟩⟩:=K.stay l p
  ·exact .ptr b i o n x k' a (.inl h0.1) d (fun g=>absurd h0.1 g) (fun _=>h0.2)
  ·exact .ptr b i o n x k' a (by rw [c,e];exact q) d (fun f j v=>by
    rw [c] at f ⊢;rw [e] at j;rw [u];exact r f j v) (fun g=>by rw [t];exact s (by rw [<-c];exact g))
theorem jI.mp [Frame] (K:jI μ h bs μ' h') {b:Nat} {x:Value} (e:b∉bs) (f:aY μ h w (.mp b) x):aY μ' h' w (.mp b) x:=by
 cases f with
 |mp _ _ k i d j=>
  obtain ⟨k',a,_,h0|⟨l,m,p,n⟩⟩:=K.stay e i
  ·exact .mp b x k' a d (fun _ c=>by rw [h0.2] at c;cases c)
  ·exact .mp b x k' a d (fun o c=>by rw [n];exact j (l▸o) (m▸c))
theorem jI.sl [Frame] (K:jI μ h bs μ' h') {b s n:Nat} {x:Value} (j:b∉bs) (l:aY μ h w (.sl b s n) x):aY μ' h' w (.sl b s n) x:=by
 cases l with
 |sl _ _ _ _ k m o c p=>
  obtain ⟨k',a,_,h0|⟨d,r,e,q⟩⟩:=K.stay j m
  ·exact .sl b s n x k' a (.inl h0.1) c (fun g=>absurd h0.1 g)
  ·exact .sl b s n x k' a (by rw [d,e];exact o) c (fun f i=>by
    rw [d] at f ⊢;rw [e] at i;rw [q];exact p f i)
theorem jI.cl [Frame] (K:jI μ h bs μ' h') {v:V} {x:Value} (a:aY μ h w v x) (b:v.cl=true):aY μ' h' w v x:=a.closed h' (n0.sub K.sub) b
theorem jI.keep [Frame] (K:jI μ h bs μ' h') {v:V} {x:Value} (j:okC v=true) (k: ∀b∈si v,b∉bs) (a:aY μ h w v x):aY μ' h' w v x:=by
 cases v with
 |lit y=>exact K.cl a rfl
 |imm e r=>exact K.cl a rfl
 |iptr r o=>exact K.cl a rfl
 |fn f cs=>
  cases cs with
  |nil=>exact K.cl a rfl
  |cons c d=>simp [okC] at j
 |ptr b i o n=>exact K.ptr (k b (by simp [si])) a
 |sl b s n=>exact K.sl (k b (by simp [si])) a
 |mp b=>exact K.mp (k b (by simp [si])) a
 |undef=>exact .unk x
 |agg cs=>simp [okC] at j
 |tup cs=>simp [okC] at j
theorem jI.fz [Frame] (K:jI μ h bs μ' h') (H:bB μ h w) {v:V} {x:Value} (d:v.cell=true\/v= .undef) (j:aY μ h w v x):aY μ' h' w (fzC h bs v) x:=by
 cases v with
 |lit y=>exact K.cl j rfl
 |imm e r=>exact K.cl j rfl
 |iptr r o=>exact K.cl j rfl
 |undef=>exact .unk x
 |agg cs=>rcases d with d|d<;>simp [V.cell] at d
 |tup cs=>rcases d with d|d<;>simp [V.cell] at d
 |ptr b i o n=>
  simp only [fzC]
  split
  ·exact .unk x
  ·rename_i c;exact K.ptr c j
 |mp b=>
  simp only [fzC]
  split
  ·exact .unk x
  ·rename_i c;exact K.mp c j
 |sl b s n=>
  simp only [fzC]
  split
  ·rename_i c
   split
   ·rename_i v' bs' l
    simp only [pu] at l
    split at l
    ·rename_i k t
     split at l
     ·rename_i a
      cases l
      exact (Lu H t a.1 a.2.1 a.2.2 j h' (K.gone c) K.sub).cz
     ·cases l
    ·cases l
   ·exact .unk x
  ·rename_i c;exact K.sl c j
 |fn f cs=>
  simp only [fzC]
  split
  ·rename_i a
   simp only [aD,hS,sJ,aB] at a
   cases j with
   |fn _ _ xs u p=>
    refine .fn f cs xs u (fun i v hi=> ?_)
    m q:=an hi
    exact K.keep (a.1 v q) (fun b c=>by
     m:=a.2 b (List.mem_flatMap.2 ⟨v,q,c⟩)
     simpa using this) (p i v hi)
  ·exact .unk x
theorem jI.env [Frame] (K:jI μ h bs μ' h') (H:bB μ h w) {v:V} {x:Value} (a:aY μ h w v x):aY μ' h' w (fzA h bs v) x:=by
 cases v with
 |agg cs=>
  simp only [fzA]
  split
  ·rename_i d
   cases a with
   |agg _ xs k c l=>
    refine .agg _ xs (by simp [k]) (fun v a=>aB.1 d v a) (fun i v hi=> ?_)
    rw [aW] at hi
    cases j:cs[i]? with
    |none=>rw [j] at hi;cases hi
    |some u=>
     rw [j] at hi;cases hi
     exact K.fz H (.inl (c u (an j))) (l i u j)
  ·exact .unk x
 |tup vs=>exact .unk x
 |undef=>exact .unk x
 |lit y=>exact K.cl a rfl
 |ptr b i o n=>exact K.fz H (.inl rfl) a
 |sl b s n=>exact K.fz H (.inl rfl) a
 |imm e r=>exact K.fz H (.inl rfl) a
 |iptr r o=>exact K.fz H (.inl rfl) a
 |fn f cs=>exact K.fz H (.inl rfl) a
 |mp b=>exact K.fz H (.inl rfl) a
theorem jI.hrel [Frame] (K:jI μ h bs μ' h') (H:bB μ h w):bB μ' h' w:=by
 a inv: ∀b k',h' b=some k'->b∉bs/\ ∃k,h b=some k/\k'=fzB h bs k:=by
   intro b k' f
   rw [K.hq b] at f
   split at f
   ·cases f
   ·rename_i z
    cases q:h b with
    |none=>rw [q] at f;cases f
    |some k=>rw [q] at f;cases f;exact ⟨z,k,rfl,rfl⟩
 refine ⟨fun b b' c o r=>H.inj _ _ _ (K.sub _ _ o) (K.sub _ _ r),fun b c o=> ?_,fun b k' f=> ?_,fun b k' f=> ?_,fun b c o=>H.frame _ _ (K.sub _ _ o),H.frlt⟩
 ·rw [K.mq b] at o
  split at o
  ·rename_i k q
   split at o
   ·cases o
   ·rename_i hn
    refine ⟨k,q, ?_⟩
    unfold Blk.lies
    cases ho:k.op with
    |true=>exact .inr rfl
    |false=>exact .inl (Nat.pos_of_ne_zero (fun e=>hn ⟨e,ho⟩))
  ·cases o
 ·obtain ⟨z,k,q,rfl⟩:=inv b k' f
  a p:=K.mq b
  rw [f] at p
  simp only at p
  cases d:k.op with
  |false=>
   a e:fzB h bs k=k:=by unfold fzB;rw [d];rfl
   rw [e] at p ⊢
   rcases H.blk b k q with ⟨g1,y,g3⟩|⟨x,c,arr,t,lo,hi,gm,gh,gf,gl,gv⟩|⟨x,go,_⟩
   ·left
    refine ⟨g1,y, ?_⟩
    rw [p,g3]
    split<;>rfl
   rotate_left
   ·rw [d] at go;cases go
   ·right;left
    refine ⟨x,c,arr,t,lo,hi,by rw [p,aa (fun h=>by omega),gm],gh,gf,gl,fun i row j v o r=>K.cl (gv i row j v o r) ?_⟩
    exact ((H.rows b k q row (an o)).2 v (an r)).2 d
  |true=>
   by_cases l:(k.rows.map (·.map (fzC h bs))).all (·.all V.cell)=true
   ·a e:fzB h bs k={ k with rows:=k.rows.map (·.map (fzC h bs)) }:=by unfold fzB;rw [d,ae rfl,ae l]
    rw [e] at p ⊢
    rcases H.blk b k q with ⟨g1,y,g3⟩|⟨x,c,arr,t,lo,hi,gm,gh,gf,gl,gv⟩|⟨x,go,c,gm,gb⟩
    ·rw [d] at y;cases y
    rotate_left
    ·right;right
     refine ⟨x,go,c, ?_, ?_⟩
     ·simp only [d,Bool.true_eq_false,and_false,if_false] at p
      rw [p,gm]
     ·show rK w c (k.rows.map (·.map (fzC h bs)))
      rw [gb.map (fun n=>rfl)]
      exact gb
    ·right;left
     refine ⟨x,c,arr,t,lo,hi, ?_,gh,gf,by simpa using gl,fun i row j v o r=> ?_⟩
     ·simp only [d,Bool.true_eq_false,and_false,if_false] at p
      rw [p,gm]
     ·simp only [aW] at o
      cases u:k.rows[i]? with
      |none=>rw [u] at o;cases o
      |some row1=>
       rw [u] at o;cases o
       rw [aW] at r
       cases s:row1[j]? with
       |none=>rw [s] at r;cases r
       |some v1=>
        rw [s] at r;cases r
        exact K.fz H (.inl ((H.rows b k q row1 (an u)).2 v1 (an s)).1) (gv i row1 j v1 u s)
   ·a e:fzB h bs k=my:=by unfold fzB;rw [d,ae rfl,aa l]
    rw [e] at p ⊢
    exact .inl ⟨rfl,rfl,by rw [p];rfl⟩
 ·obtain ⟨z,k,q,rfl⟩:=inv b k' f
  a u:=H.rows b k q
  cases d:k.op with
  |false=>
   a e:fzB h bs k=k:=by unfold fzB;rw [d];rfl
   rw [e];exact u
  |true=>
   by_cases l:(k.rows.map (·.map (fzC h bs))).all (·.all V.cell)=true
   ·a e:fzB h bs k={ k with rows:=k.rows.map (·.map (fzC h bs)) }:=by unfold fzB;rw [d,ae rfl,ae l]
    rw [e]
    intro row m
    a hrow':=m
    simp only at m
    obtain ⟨row1,hm1,rfl⟩:=bq.1 m
    refine ⟨by simpa using (u row1 hm1).1,fun v hv=>⟨?_,fun h3=> ?_⟩⟩
    ·exact aB.1 (aB.1 l _ m) v hv
    ·simp only [d] at h3;cases h3
   ·a e:fzB h bs k=my:=by unfold fzB;rw [d,ae rfl,aa l]
    rw [e];intro row m;simp [my] at m
theorem a1q (ts:List Nat): ∀(e:List (Nat×V)) (t:Nat),(dP (Sl ts e) t).getD .undef=if t∈ts then .undef else (dP e t).getD .undef
 |[],t=>by simp [Sl,dP]
 | (j,v)::r,t=>by
   simp only [Sl,dP]
   by_cases e:j=t
   ·subst e;rw [ae rfl,ae rfl];by_cases h:j∈ts<;>simp [h]
   ·rw [aa e,aa e,a1q ts r t]
theorem Nf [Frame] {n:Nat} {st st':St} {g:eU} {μ0:Mu} {h0:b8} {w0:World} (l:dd st g=some st') (I:Inv n st.get st.heap μ a w) (S:l8 μ0 h0 w0 μ st.heap w):
 ∃μ',Inv n st'.get st'.heap μ' a w/\l8 μ0 h0 w0 μ' st'.heap w:=by
 induction g generalizing st st' μ with
 |drop ts=>
  simp only [dd] at l
  cases l
  refine ⟨μ,⟨I.H,fun t=> ?_,I.sz,I.df⟩,S⟩
  show aY μ st.heap w ((dP (Sl ts st.e) t).getD .undef) _
  rw [a1q]
  by_cases h:t∈ts
  ·rw [ae h];exact .unk _
  ·rw [aa h];exact I.E t
 |both g1 g2 ih1 ih2=>
  simp only [dd] at l
  split at l
  ·rename_i st1 y
   obtain ⟨μ1,I1,S1⟩:=ih1 y I S
   exact ih2 l I1 S1
  ·cases l
 |close bs=>
  simp only [dd] at l
  split at l
  ·rename_i hbs
   cases l
   let h':b8:=dP (fzM st.heap bs st.m)
   let μ':Mu:=fun b=>match h' b with
    |some k=>if k.esz=0/\k.op=false then none else μ b
    |none=>none
   d K:jI μ st.heap bs μ' h':=⟨fun b=>Sv st.heap bs st.m b,fun b=>rfl⟩
   refine ⟨μ',⟨K.hrel I.H,fun t=> ?_,I.sz,I.df⟩,⟨⟨S.C.ev.trans (n0.sub K.sub),fun b k hk=> ?_⟩,S.lo⟩⟩
   ·d:St.get { e:=Rx (fzA st.heap bs) st.e,m:=fzM st.heap bs st.m } t=fzA st.heap bs (st.get t):=by
     show (dP (Rx (fzA st.heap bs) st.e) t).getD .undef=fzA st.heap bs ((dP st.e t).getD .undef)
     rw [Vq]
     cases dP st.e t<;>rfl
    rw [this]
    exact K.env I.H (I.E t)
   ·obtain ⟨k1,s,hr⟩:=S.C.refs b k hk
    d hb:b∉bs:=by
      intro hm
      d y:=S.lo b k hk
      d u:=aB.1 hbs b hm
      simp at u
      omega
    obtain ⟨k',hk',_,h0|⟨y,ho,u,h3⟩⟩:=K.stay hb s
    ·exact ⟨k',hk',.inl h0⟩
    ·exact ⟨k',hk',by rw [y,ho,u,h3];exact hr⟩
  ·cases l
 |nilCell b o new esz=>
  simp only [dd] at l
  split at l
  ·rename_i k hk
   split at l
   ·rename_i hop
    split at l
    ·rename_i row q
     split at l
     ·rename_i ho
      split at l
      ·rename_i hc
       cases l
       d r:st.heap new=none:=by simpa using hc.1
       d hne:b≠new:=fun e=>by rw [e,r] at hk;cases hk
       obtain ⟨H1,C1⟩:=I.H.newNil (e:=esz) r
       d s:bT st.heap new ⟨esz,false,[]⟩ b=some k:=by unfold bT;rw [aa hne];exact hk
       d p:k.rows[0]? =some row:=by rw [q];rfl
       rcases H1.blk b k s with ⟨g1,_,_⟩|⟨g0,c,arr,t,lo,hi,gm,gh,gf,gl,gv⟩|⟨g0,go,c,gm,gb⟩
       ·rw [q] at g1;cases g1
       rotate_left
       ·exfalso
        obtain ⟨n,hn⟩:=gb.lit (row:=row) (v:= .lit (.slice none 0 0)) (an p) (an ho)
        cases hn
       ·d hrr:=H1.rows b k s row (an p)
        d x:=H1.put (w':=w) (c:=c) (k':={ k with rows:=[row.set o (.sl new 0 0)] }) s g0 (.inl gm) rfl rfl rfl (aw _) (aw _) (fun _ _ _=>rfl) gh gf rfl
          (by rw [q] at gl;simpa using gl)
          (fun row' hr'=>by
           simp at hr'
           subst hr'
           refine ⟨by simpa using hrr.1 g0,fun v hv=>⟨?_,fun h3=> ?_⟩⟩
           ·rcases dS hv with h4|h4
            ·exact (hrr.2 v h4).1
            ·subst h4;rfl
           ·simp only [hop] at h3;cases h3)
          (.inr ⟨by rw [q];rfl,gm,by unfold bsize;rw [gh]⟩)
          (fun i row' j v y u=>by
           cases i with
           |succ i=>simp at y
           |zero=>
            simp at y
            subst y
            rw [fB] at u
            by_cases e:o=j
            ·subst e
             rw [ae rfl] at u
             split at u
             ·cases u
              d z:=gv 0 row o _ p ho
              generalize hX:arr.getD (0*k.esz+o) undef=X at z
              cases z
              exact .sl new 0 0 _ ⟨esz,false,[]⟩ (by simp [bT]) (.inr (aw _)) ⟨_,_,rfl⟩ (fun _ _=>⟨none,0,rfl,.inl ⟨rfl,rfl⟩⟩)
             ·cases u
            ·rw [aa e] at u
             exact gv 0 row j v p u)
        d f:St.heap { st with m:=j9 new ⟨esz,false,[]⟩ (j9 b { k with rows:=[row.set o (.sl new 0 0)] } st.m) }=bT (bT st.heap new ⟨esz,false,[]⟩) b { k with rows:=[row.set o (.sl new 0 0)] }:=by
          funext b'
          show dP (j9 new _ (j9 b _ st.m)) b'=_
          rw [xW,xW]
          unfold bT
          by_cases e1:b'=new
          ·subst e1;rw [ae rfl,aa (fun e=>hne e.symm),ae rfl]
          ·rw [aa e1]
           by_cases e2:b'=b
           ·rw [ae e2,ae e2]
           ·rw [aa e2,aa e2,aa e1];rfl
        refine ⟨cE μ b (some c),⟨by rw [f];exact x.1,fun t=> ?_,I.sz,I.df⟩,⟨?_,S.lo⟩⟩
        ·rw [f];exact ((I.E t).chg C1).chg x.2
        ·rw [f];exact (S.C.trans C1).trans x.2
      ·cases l;exact ⟨μ,I,S⟩
     ·cases l;exact ⟨μ,I,S⟩
    ·cases l;exact ⟨μ,I,S⟩
   ·cases l;exact ⟨μ,I,S⟩
  ·cases l;exact ⟨μ,I,S⟩
 |nilTmp t new esz=>
  simp only [dd] at l
  split at l
  ·rename_i ht
   split at l
   ·rename_i hc
    cases l
    d r:st.heap new=none:=by simpa using hc.1
    obtain ⟨H1,C1⟩:=I.H.newNil (e:=esz) r
    d f:St.heap { e:=j9 t (.sl new 0 0) st.e,m:=j9 new ⟨esz,false,[]⟩ st.m }=bT st.heap new ⟨esz,false,[]⟩:=by
      funext b'
      show dP (j9 new _ st.m) b'=_
      rw [xW];rfl
    refine ⟨μ,⟨by rw [f];exact H1,fun t'=> ?_,I.sz,I.df⟩,⟨by rw [f];exact S.C.trans C1,S.lo⟩⟩
    rw [f]
    d l:St.get { e:=j9 t (.sl new 0 0) st.e,m:=j9 new ⟨esz,false,[]⟩ st.m } t'=if t=t' then .sl new 0 0 else st.get t':=by
      show (dP (j9 t (V.sl new 0 0) st.e) t').getD .undef=_
      rw [xW]
      by_cases e:t=t'
      ·simp [e]
      ·rw [aa e,aa (Ne.symm e)];rfl
    rw [l]
    split
    ·rename_i e
     subst e
     d hE:=I.E t
     rw [ht] at hE
     generalize hX:a.tmps.getD t undef=X at hE
     cases hE
     exact .sl new 0 0 _ ⟨esz,false,[]⟩ (by simp [bT]) (.inr (aw _)) ⟨_,_,rfl⟩ (fun _ _=>⟨none,0,rfl,.inl ⟨rfl,rfl⟩⟩)
    ·exact (I.E t').chg C1
   ·cases l;exact ⟨μ,I,S⟩
  ·cases l;exact ⟨μ,I,S⟩
end
end Go.AI
