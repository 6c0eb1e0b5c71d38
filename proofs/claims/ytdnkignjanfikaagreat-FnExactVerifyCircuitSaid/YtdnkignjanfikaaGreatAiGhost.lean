/- What the abstract machine does on its own: blocks are closed, slices without memory get blocks. -/
import Derived.Test.YtdnkignjanfikaaGreatAiCall3
set_option linter.unusedVariables false
set_option linter.unusedSimpArgs false
namespace Go.AI
theorem Xa (g:V->V): ∀(e:List (Nat×V)) (t:Nat),dO (SG g e) t=(dO e t).map g
 |[],t=>rfl
 | (k,v)::r,t=>by
   simp only [SG,dO]
   by_cases h:k=t
   ·simp [h]
   ·rw [aa h,aa h,Xa g r t]
def fzB (h:aZ) (bs:List Nat) (k:Blk):Blk:=if k.op then (if (k.rows.map (·.map (fzC h bs))).all (·.all V.cell) then { k with rows:=k.rows.map (·.map (fzC h bs)) } else nG) else k
theorem Td (h:aZ) (bs:List Nat): ∀(m:List (Nat×Blk)) (b:Nat),dO (fzM h bs m) b=if b∈bs then none else (dO m b).map (fzB h bs)
 |[],b=>by simp [fzM,dO]
 | (j,k)::r,b=>by
   simp only [fzM]
   by_cases hj:j∈bs
   ·rw [ae hj,Td h bs r b]
    simp only [dO]
    by_cases e:j=b
    ·subst e;simp [hj]
    ·rw [aa e]
   ·rw [aa hj]
    simp only [dO]
    by_cases e:j=b
    ·subst e;rw [ae rfl,aa hj,ae rfl];rfl
    ·rw [aa e,aa e,Td h bs r b]
section
variable {P:Program} {μ:Mu} {h:aZ} {w:World} {a:Act}
structure jK (μ:Mu) (h:aZ) (bs:List Nat) (μ':Mu) (h':aZ):Prop where
 hq: ∀b,h' b=if b∈bs then none else (h b).map (fzB h bs)
 mq: ∀b,μ' b=match h' b with
  |some k=>if k.esz=0/\k.op=false then none else μ b
  |none=>none
variable {bs:List Nat} {μ':Mu} {h':aZ}
theorem jK.sub (K:jK μ h bs μ' h'): ∀b c,μ' b=some c->μ b=some c:=by
 intro b c hm
 rw [K.mq b] at hm
 split at hm
 ·split at hm
  ·cases hm
  ·exact hm
 ·cases hm
theorem jK.gone (K:jK μ h bs μ' h') {b:Nat} (hb:b∈bs):μ' b=none:=by
 rw [K.mq b,K.hq b,ae hb]
theorem jK.stay (K:jK μ h bs μ' h') {b:Nat} {k:Blk} (hb:b∉bs) (hk:h b=some k): ∃k',h' b=some k'/\k'=fzB h bs k/\((k'.esz=0/\k'.op=false)\/(k'.esz=k.esz/\k'.op=k.op/\k'.rows.length=k.rows.length/\μ' b=μ b)):=by
 have h1:=K.hq b
 rw [aa hb,hk] at h1
 refine ⟨fzB h bs k,h1,rfl, ?_⟩
 have hm:=K.mq b
 rw [h1] at hm
 simp only [ej] at hm
 by_cases h0:(fzB h bs k).esz=0/\(fzB h bs k).op=false
 ·exact .inl h0
 ·rw [aa h0] at hm
  refine .inr ⟨?_, ?_, ?_,hm⟩
  ·revert h0
   unfold fzB
   split
   ·split
    ·intro _;rfl
    ·intro h2;exact absurd ⟨rfl,rfl⟩ h2
   ·intro _;rfl
  ·revert h0
   unfold fzB
   split
   ·split
    ·intro _;rfl
    ·intro h2;exact absurd ⟨rfl,rfl⟩ h2
   ·intro _;rfl
  ·revert h0
   unfold fzB
   split
   ·split
    ·intro _;simp
    ·intro h2;exact absurd ⟨rfl,rfl⟩ h2
   ·intro _;rfl
theorem jK.ptr [Frame] (K:jK μ h bs μ' h') {b i o n:Nat} {x:Value} (hb:b∉bs) (hv:aX μ h w (.ptr b i o n) x):aX μ' h' w (.ptr b i o n) x:=by
 cases hv with
 |ptr _ _ _ _ _ k hk hn hx hp hd=>
  obtain ⟨k',hk',_,h0|⟨h1,ho,h2,h3⟩⟩:=K.stay hb hk
  ·exact .ptr b i o n x k' hk' (.inl h0.1) hx (fun g=>absurd h0.1 g) (fun _=>h0.2)
  ·exact .ptr b i o n x k' hk' (by rw [h1,h2];exact hn) hx (fun g1 g2 g3=>by
    rw [h1] at g1 ⊢;rw [h2] at g2;rw [h3];exact hp g1 g2 g3) (fun g=>by rw [ho];exact hd (by rw [<-h1];exact g))
theorem jK.mp [Frame] (K:jK μ h bs μ' h') {b:Nat} {x:Value} (hb:b∉bs) (hv:aX μ h w (.mp b) x):aX μ' h' w (.mp b) x:=by
 cases hv with
 |mp _ _ k hk hx hm=>
  obtain ⟨k',hk',_,h0|⟨h1,ho,h2,h3⟩⟩:=K.stay hb hk
  ·exact .mp b x k' hk' hx (fun _ g2=>by rw [h0.2] at g2;cases g2)
  ·exact .mp b x k' hk' hx (fun g1 g2=>by rw [h3];exact hm (h1▸g1) (ho▸g2))
theorem jK.sl [Frame] (K:jK μ h bs μ' h') {b s n:Nat} {x:Value} (hb:b∉bs) (hv:aX μ h w (.sl b s n) x):aX μ' h' w (.sl b s n) x:=by
 cases hv with
 |sl _ _ _ _ k hk hn hx hp=>
  obtain ⟨k',hk',_,h0|⟨h1,ho,h2,h3⟩⟩:=K.stay hb hk
  ·exact .sl b s n x k' hk' (.inl h0.1) hx (fun g=>absurd h0.1 g)
  ·exact .sl b s n x k' hk' (by rw [h1,h2];exact hn) hx (fun g1 g2=>by
    rw [h1] at g1 ⊢;rw [h2] at g2;rw [h3];exact hp g1 g2)
theorem jK.cl [Frame] (K:jK μ h bs μ' h') {v:V} {x:Value} (hv:aX μ h w v x) (hc:v.cl=true):aX μ' h' w v x:=hv.closed h' (nv.sub K.sub) hc
theorem jK.keep [Frame] (K:jK μ h bs μ' h') {v:V} {x:Value} (ho:okC v=true) (hr: ∀b∈Bb v,b∉bs) (hv:aX μ h w v x):aX μ' h' w v x:=by
 cases v with
 |lit y=>exact K.cl hv rfl
 |imm e r=>exact K.cl hv rfl
 |iptr r o=>exact K.cl hv rfl
 |fn f cs=>
  cases cs with
  |nil=>exact K.cl hv rfl
  |cons c d=>simp [okC] at ho
 |ptr b i o n=>exact K.ptr (hr b (by simp [Bb])) hv
 |sl b s n=>exact K.sl (hr b (by simp [Bb])) hv
 |mp b=>exact K.mp (hr b (by simp [Bb])) hv
 |undef=>exact .unk x
 |agg cs=>simp [okC] at ho
 |tup cs=>simp [okC] at ho
theorem jK.fz [Frame] (K:jK μ h bs μ' h') (H:bD μ h w) {v:V} {x:Value} (hc:v.cell=true\/v= .undef) (hv:aX μ h w v x):aX μ' h' w (fzC h bs v) x:=by
 cases v with
 |lit y=>exact K.cl hv rfl
 |imm e r=>exact K.cl hv rfl
 |iptr r o=>exact K.cl hv rfl
 |undef=>exact .unk x
 |agg cs=>rcases hc with hc|hc<;>simp [V.cell] at hc
 |tup cs=>rcases hc with hc|hc<;>simp [V.cell] at hc
 |ptr b i o n=>
  simp only [fzC]
  split
  ·exact .unk x
  ·rename_i hb;exact K.ptr hb hv
 |mp b=>
  simp only [fzC]
  split
  ·exact .unk x
  ·rename_i hb;exact K.mp hb hv
 |sl b s n=>
  simp only [fzC]
  split
  ·rename_i hb
   split
   ·rename_i v' bs' hs
    simp only [rZ] at hs
    split at hs
    ·rename_i k hk
     split at hs
     ·rename_i hcond
      cases hs
      exact (M3 H hk hcond.1 hcond.2.1 hcond.2.2 hv h' (K.gone hb) K.sub).cz
     ·cases hs
    ·cases hs
   ·exact .unk x
  ·rename_i hb;exact K.sl hb hv
 |fn f cs=>
  simp only [fzC]
  split
  ·rename_i hcond
   simp only [aC,ic,tn,aB] at hcond
   cases hv with
   |fn _ _ xs hl hcs=>
    refine .fn f cs xs hl (fun i v hi=> ?_)
    have hm:=an hi
    exact K.keep (hcond.1 v hm) (fun b hb=>by
     have:=hcond.2 b (List.mem_flatMap.2 ⟨v,hm,hb⟩)
     simpa using this) (hcs i v hi)
  ·exact .unk x
theorem jK.env [Frame] (K:jK μ h bs μ' h') (H:bD μ h w) {v:V} {x:Value} (hv:aX μ h w v x):aX μ' h' w (fzA h bs v) x:=by
 cases v with
 |agg cs=>
  simp only [fzA]
  split
  ·rename_i hall
   cases hv with
   |agg _ xs hl hcell hc=>
    refine .agg _ xs (by simp [hl]) (fun v hv=>aB.1 hall v hv) (fun i v hi=> ?_)
    rw [aV] at hi
    cases hu:cs[i]? with
    |none=>rw [hu] at hi;cases hi
    |some u=>
     rw [hu] at hi;cases hi
     exact K.fz H (.inl (hcell u (an hu))) (hc i u hu)
  ·exact .unk x
 |tup vs=>exact .unk x
 |undef=>exact .unk x
 |lit y=>exact K.cl hv rfl
 |ptr b i o n=>exact K.fz H (.inl rfl) hv
 |sl b s n=>exact K.fz H (.inl rfl) hv
 |imm e r=>exact K.fz H (.inl rfl) hv
 |iptr r o=>exact K.fz H (.inl rfl) hv
 |fn f cs=>exact K.fz H (.inl rfl) hv
 |mp b=>exact K.fz H (.inl rfl) hv
theorem jK.hrel [Frame] (K:jK μ h bs μ' h') (H:bD μ h w):bD μ' h' w:=by
 have inv: ∀b k',h' b=some k'->b∉bs/\ ∃k,h b=some k/\k'=fzB h bs k:=by
  intro b k' hk'
  rw [K.hq b] at hk'
  split at hk'
  ·cases hk'
  ·rename_i hb
   cases hk:h b with
   |none=>rw [hk] at hk';cases hk'
   |some k=>rw [hk] at hk';cases hk';exact ⟨hb,k,rfl,rfl⟩
 refine ⟨fun b b' c h1 h2=>H.inj _ _ _ (K.sub _ _ h1) (K.sub _ _ h2),fun b c h1=> ?_,fun b k' hk'=> ?_,fun b k' hk'=> ?_,fun b c h1=>H.frame _ _ (K.sub _ _ h1),H.frlt⟩
 ·rw [K.mq b] at h1
  split at h1
  ·rename_i k hk
   split at h1
   ·cases h1
   ·rename_i hn
    refine ⟨k,hk, ?_⟩
    unfold Blk.lies
    cases ho:k.op with
    |true=>exact .inr rfl
    |false=>exact .inl (Nat.pos_of_ne_zero (fun e=>hn ⟨e,ho⟩))
  ·cases h1
 ·obtain ⟨hb,k,hk,rfl⟩:=inv b k' hk'
  have hm:=K.mq b
  rw [hk'] at hm
  simp only at hm
  cases hop:k.op with
  |false=>
   have e:fzB h bs k=k:=by unfold fzB;rw [hop];rfl
   rw [e] at hm ⊢
   rcases H.blk b k hk with ⟨g1,g2,g3⟩|⟨g0,c,arr,t,lo,hi,gm,gh,gf,gl,gv⟩|⟨g0,go,_⟩
   ·left
    refine ⟨g1,g2, ?_⟩
    rw [hm,g3]
    split<;>rfl
   rotate_left
   ·rw [hop] at go;cases go
   ·right;left
    refine ⟨g0,c,arr,t,lo,hi,by rw [hm,aa (fun h=>by omega),gm],gh,gf,gl,fun i row j v h1 h2=>K.cl (gv i row j v h1 h2) ?_⟩
    exact ((H.rows b k hk row (an h1)).2 v (an h2)).2 hop
  |true=>
   by_cases hall:(k.rows.map (·.map (fzC h bs))).all (·.all V.cell)=true
   ·have e:fzB h bs k={ k with rows:=k.rows.map (·.map (fzC h bs)) }:=by unfold fzB;rw [hop,ae rfl,ae hall]
    rw [e] at hm ⊢
    rcases H.blk b k hk with ⟨g1,g2,g3⟩|⟨g0,c,arr,t,lo,hi,gm,gh,gf,gl,gv⟩|⟨g0,go,c,gm,gb⟩
    ·rw [hop] at g2;cases g2
    rotate_left
    ·right;right
     refine ⟨g0,go,c, ?_, ?_⟩
     ·simp only [hop,Bool.true_eq_false,and_false,if_false] at hm
      rw [hm,gm]
     ·show sx w c (k.rows.map (·.map (fzC h bs)))
      rw [gb.map (fun n=>rfl)]
      exact gb
    ·right;left
     refine ⟨g0,c,arr,t,lo,hi, ?_,gh,gf,by simpa using gl,fun i row j v h1 h2=> ?_⟩
     ·simp only [hop,Bool.true_eq_false,and_false,if_false] at hm
      rw [hm,gm]
     ·simp only [aV] at h1
      cases hr:k.rows[i]? with
      |none=>rw [hr] at h1;cases h1
      |some row1=>
       rw [hr] at h1;cases h1
       rw [aV] at h2
       cases hv1:row1[j]? with
       |none=>rw [hv1] at h2;cases h2
       |some v1=>
        rw [hv1] at h2;cases h2
        exact K.fz H (.inl ((H.rows b k hk row1 (an hr)).2 v1 (an hv1)).1) (gv i row1 j v1 hr hv1)
   ·have e:fzB h bs k=nG:=by unfold fzB;rw [hop,ae rfl,aa hall]
    rw [e] at hm ⊢
    exact .inl ⟨rfl,rfl,by rw [hm];rfl⟩
 ·obtain ⟨hb,k,hk,rfl⟩:=inv b k' hk'
  have hr:=H.rows b k hk
  cases hop:k.op with
  |false=>
   have e:fzB h bs k=k:=by unfold fzB;rw [hop];rfl
   rw [e];exact hr
  |true=>
   by_cases hall:(k.rows.map (·.map (fzC h bs))).all (·.all V.cell)=true
   ·have e:fzB h bs k={ k with rows:=k.rows.map (·.map (fzC h bs)) }:=by unfold fzB;rw [hop,ae rfl,ae hall]
    rw [e]
    intro row hrow
    have hrow':=hrow
    simp only at hrow
    obtain ⟨row1,hm1,rfl⟩:=bu.1 hrow
    refine ⟨by simpa using (hr row1 hm1).1,fun v hv=>⟨?_,fun h3=> ?_⟩⟩
    ·exact aB.1 (aB.1 hall _ hrow) v hv
    ·simp only [hop] at h3;cases h3
   ·have e:fzB h bs k=nG:=by unfold fzB;rw [hop,ae rfl,aa hall]
    rw [e];intro row hrow;simp [nG] at hrow
theorem a4w (ts:List Nat): ∀(e:List (Nat×V)) (t:Nat),(dO (Tg ts e) t).getD .undef=if t∈ts then .undef else (dO e t).getD .undef
 |[],t=>by simp [Tg,dO]
 | (j,v)::r,t=>by
   simp only [Tg,dO]
   by_cases e:j=t
   ·subst e;rw [ae rfl,ae rfl];by_cases h:j∈ts<;>simp [h]
   ·rw [aa e,aa e,a4w ts r t]
theorem O2 [Frame] {n:Nat} {st st':St} {g:eZ} {μ0:Mu} {h0:aZ} {w0:World} (hg:dg st g=some st') (I:Inv n st.get st.heap μ a w) (S:lr μ0 h0 w0 μ st.heap w):
 ∃μ',Inv n st'.get st'.heap μ' a w/\lr μ0 h0 w0 μ' st'.heap w:=by
 induction g generalizing st st' μ with
 |drop ts=>
  simp only [dg] at hg
  cases hg
  refine ⟨μ,⟨I.H,fun t=> ?_,I.sz,I.df⟩,S⟩
  show aX μ st.heap w ((dO (Tg ts st.e) t).getD .undef) _
  rw [a4w]
  by_cases h:t∈ts
  ·rw [ae h];exact .unk _
  ·rw [aa h];exact I.E t
 |both g1 g2 ih1 ih2=>
  simp only [dg] at hg
  split at hg
  ·rename_i st1 h1
   obtain ⟨μ1,I1,S1⟩:=ih1 h1 I S
   exact ih2 hg I1 S1
  ·cases hg
 |close bs=>
  simp only [dg] at hg
  split at hg
  ·rename_i hbs
   cases hg
   let h':aZ:=dO (fzM st.heap bs st.m)
   let μ':Mu:=fun b=>match h' b with
    |some k=>if k.esz=0/\k.op=false then none else μ b
    |none=>none
   have K:jK μ st.heap bs μ' h':=⟨fun b=>Td st.heap bs st.m b,fun b=>rfl⟩
   refine ⟨μ',⟨K.hrel I.H,fun t=> ?_,I.sz,I.df⟩,⟨⟨S.C.ev.trans (nv.sub K.sub),fun b k hk=> ?_⟩,S.lo⟩⟩
   ·have:St.get { e:=SG (fzA st.heap bs) st.e,m:=fzM st.heap bs st.m } t=fzA st.heap bs (st.get t):=by
     show (dO (SG (fzA st.heap bs) st.e) t).getD .undef=fzA st.heap bs ((dO st.e t).getD .undef)
     rw [Xa]
     cases dO st.e t<;>rfl
    rw [this]
    exact K.env I.H (I.E t)
   ·obtain ⟨k1,hk1,hr⟩:=S.C.refs b k hk
    have hb:b∉bs:=by
     intro hm
     have h1:=S.lo b k hk
     have h2:=aB.1 hbs b hm
     simp at h2
     omega
    obtain ⟨k',hk',_,h0|⟨h1,ho,h2,h3⟩⟩:=K.stay hb hk1
    ·exact ⟨k',hk',.inl h0⟩
    ·exact ⟨k',hk',by rw [h1,ho,h2,h3];exact hr⟩
  ·cases hg
 |nilCell b o new esz=>
  simp only [dg] at hg
  split at hg
  ·rename_i k hk
   split at hg
   ·rename_i hop
    split at hg
    ·rename_i row hrow
     split at hg
     ·rename_i ho
      split at hg
      ·rename_i hc
       cases hg
       have hnew:st.heap new=none:=by simpa using hc.1
       have hne:b≠new:=fun e=>by rw [e,hnew] at hk;cases hk
       obtain ⟨H1,C1⟩:=I.H.newNil (e:=esz) hnew
       have hk1:bV st.heap new ⟨esz,false,[]⟩ b=some k:=by unfold bV;rw [aa hne];exact hk
       have h0row:k.rows[0]? =some row:=by rw [hrow];rfl
       rcases H1.blk b k hk1 with ⟨g1,_,_⟩|⟨g0,c,arr,t,lo,hi,gm,gh,gf,gl,gv⟩|⟨g0,go,c,gm,gb⟩
       ·rw [hrow] at g1;cases g1
       rotate_left
       ·exfalso
        obtain ⟨n,hn⟩:=gb.lit (row:=row) (v:= .lit (.slice none 0 0)) (an h0row) (an ho)
        cases hn
       ·have hrr:=H1.rows b k hk1 row (an h0row)
        have hput:=H1.put (w':=w) (c:=c) (k':={ k with rows:=[row.set o (.sl new 0 0)] }) hk1 g0 (.inl gm) rfl rfl rfl (aw _) (aw _) (fun _ _ _=>rfl) gh gf rfl
         (by rw [hrow] at gl;simpa using gl)
         (fun row' hr'=>by
          simp at hr'
          subst hr'
          refine ⟨by simpa using hrr.1 g0,fun v hv=>⟨?_,fun h3=> ?_⟩⟩
          ·rcases dQ hv with h4|h4
           ·exact (hrr.2 v h4).1
           ·subst h4;rfl
          ·simp only [hop] at h3;cases h3)
         (.inr ⟨by rw [hrow];rfl,gm,by unfold bsize;rw [gh]⟩)
         (fun i row' j v h1 h2=>by
          cases i with
          |succ i=>simp at h1
          |zero=>
           simp at h1
           subst h1
           rw [fC] at h2
           by_cases e:o=j
           ·subst e
            rw [ae rfl] at h2
            split at h2
            ·cases h2
             have hold:=gv 0 row o _ h0row ho
             generalize hX:arr.getD (0*k.esz+o) undef=X at hold
             cases hold
             exact .sl new 0 0 _ ⟨esz,false,[]⟩ (by simp [bV]) (.inr (aw _)) ⟨_,_,rfl⟩ (fun _ _=>⟨none,0,rfl,.inl ⟨rfl,rfl⟩⟩)
            ·cases h2
           ·rw [aa e] at h2
            exact gv 0 row j v h0row h2)
        have hheap:St.heap { st with m:=jf new ⟨esz,false,[]⟩ (jf b { k with rows:=[row.set o (.sl new 0 0)] } st.m) }=bV (bV st.heap new ⟨esz,false,[]⟩) b { k with rows:=[row.set o (.sl new 0 0)] }:=by
         funext b'
         show dO (jf new _ (jf b _ st.m)) b'=_
         rw [yb,yb]
         unfold bV
         by_cases e1:b'=new
         ·subst e1;rw [ae rfl,aa (fun e=>hne e.symm),ae rfl]
         ·rw [aa e1]
          by_cases e2:b'=b
          ·rw [ae e2,ae e2]
          ·rw [aa e2,aa e2,aa e1];rfl
        refine ⟨cE μ b (some c),⟨by rw [hheap];exact hput.1,fun t=> ?_,I.sz,I.df⟩,⟨?_,S.lo⟩⟩
        ·rw [hheap];exact ((I.E t).chg C1).chg hput.2
        ·rw [hheap];exact (S.C.trans C1).trans hput.2
      ·cases hg;exact ⟨μ,I,S⟩
     ·cases hg;exact ⟨μ,I,S⟩
    ·cases hg;exact ⟨μ,I,S⟩
   ·cases hg;exact ⟨μ,I,S⟩
  ·cases hg;exact ⟨μ,I,S⟩
 |nilTmp t new esz=>
  simp only [dg] at hg
  split at hg
  ·rename_i ht
   split at hg
   ·rename_i hc
    cases hg
    have hnew:st.heap new=none:=by simpa using hc.1
    obtain ⟨H1,C1⟩:=I.H.newNil (e:=esz) hnew
    have hheap:St.heap { e:=jf t (.sl new 0 0) st.e,m:=jf new ⟨esz,false,[]⟩ st.m }=bV st.heap new ⟨esz,false,[]⟩:=by
     funext b'
     show dO (jf new _ st.m) b'=_
     rw [yb];rfl
    refine ⟨μ,⟨by rw [hheap];exact H1,fun t'=> ?_,I.sz,I.df⟩,⟨by rw [hheap];exact S.C.trans C1,S.lo⟩⟩
    rw [hheap]
    have hg:St.get { e:=jf t (.sl new 0 0) st.e,m:=jf new ⟨esz,false,[]⟩ st.m } t'=if t=t' then .sl new 0 0 else st.get t':=by
     show (dO (jf t (V.sl new 0 0) st.e) t').getD .undef=_
     rw [yb]
     by_cases e:t=t'
     ·simp [e]
     ·rw [aa e,aa (Ne.symm e)];rfl
    rw [hg]
    split
    ·rename_i e
     subst e
     have hE:=I.E t
     rw [ht] at hE
     generalize hX:a.tmps.getD t undef=X at hE
     cases hE
     exact .sl new 0 0 _ ⟨esz,false,[]⟩ (by simp [bV]) (.inr (aw _)) ⟨_,_,rfl⟩ (fun _ _=>⟨none,0,rfl,.inl ⟨rfl,rfl⟩⟩)
    ·exact (I.E t').chg C1
   ·cases hg;exact ⟨μ,I,S⟩
  ·cases hg;exact ⟨μ,I,S⟩
end
end Go.AI
