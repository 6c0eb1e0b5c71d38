/- The operations of the abstract machine and the model's. Ninth part: copies, slices that are laid, arrays out of slices. -/
import Derived.Test.YtdnkignjanfikaaGreatAiOps7
set_option linter.unusedVariables false
set_option linter.unusedSimpArgs false
namespace Go.AI
section
variable {P:Program} {μ:Mu} {h:aZ} {w:World} {f:Nat->V} {a:Act}
theorem b0k [Frame] (H:bD μ h w) (E:gj μ h w f a) {o:Oper} {t e:TypeId} {n:Nat} {x:Operand} {x':Opd} (hop:o.op= .sliceToArrayPointer t x) (hx:bC x=some x')
 (hu:P.underlying t=some (.array n e)) {C:cg} {ow:FuncId->List Nat} {new:Nat} {v:V} {u:Upd} (hs:aN C ow (.arrOf n x') (Opd.ev f) h new=some (v,u)):iC P o a μ h w v u:=by
 have hvx:=bP E hx
 simp only [aN] at hs
 split at hs
 ·rename_i e' rows bs hsn
  split at hs
  ·rename_i hle
   cases hs
   have hdom:=(QL H hsn hvx (μ':=fun _=>none) h (fun b _=>rfl) (fun b c e=>by cases e)).2.2.2
   obtain ⟨μ1,H1,C1,hk1,hsub,hoth⟩:=b4t bs hdom H
   obtain ⟨q1,q2,q3,_⟩:=QL H hsn hvx (fX h (jo bs)) hk1 hsub
   by_cases h0:rows=[]
   ·rw [h0] at hle;simp at hle;omega
   ·generalize hX:a.eval x=X at q1
    cases q1 with
    |emp=>exact absurd rfl h0
    |imm0=>exact absurd rfl h0
    |imm _ _ c off cap ys he0 hr hcp hc hs hrow hcell hv=>
     refine ⟨.pointer (some ⟨c,off,none⟩),w,μ1,.inl ?_,H1,C1, ?_⟩
     ·simp [execOp,hop,Instr.arrayAt,run_underlying hu,hX,Nat.not_lt.2 hle.2]
     ·have hfl: ∀(rs:List (List V)),(∀row∈rs,row.length=e')->rs.flatten.length=rs.length*e'/\ ∀k,rs.flatten[k]? =(rs[k/e']?).bind (fun row=>row[k%e']?):=by
       intro rs
       induction rs with
       |nil=>intro _;exact ⟨by simp,fun k=>by simp⟩
       |cons row rs ih=>
        intro hrs
        obtain ⟨i1,i2⟩:=ih (fun r hr=>hrs r (by simp [hr]))
        have hl:=hrs row (by simp)
        refine ⟨by simp [i1,hl,Nat.add_mul];omega,fun k=> ?_⟩
        rw [List.flatten_cons]
        by_cases hk:k<e'
        ·rw [bI (by omega),Nat.div_eq_of_lt hk,o0 hk]
         rfl
        ·rw [bS (by omega),i2,hl]
         have h1:k/e'=(k-e')/e'+1:=by rw [<-Nat.add_div_right _ he0];congr 1;omega
         have h2:k%e'=(k-e')%e':=by rw [<-Nat.add_mod_right (k-e')];congr 1;omega
         rw [h1,h2]
         rfl
      obtain ⟨f1,f2⟩:=hfl rows (fun row hr=>(hrow row hr).1)
      have:=aX.iptr (μ:=μ1) (h:=fX h (jo bs)) (w:=w) rows.flatten 0 c off (fun k=>ys (k/e') (k%e')) hc hs
       (fun v hv=>by obtain ⟨row,hr,hvr⟩:=List.mem_flatten.1 hv;exact (hrow row hr).2 v hvr)
       (fun j hj=>by
        rw [f1] at hj
        have h1:j/e'<rows.length:=(ke he0).2 hj
        have:=hcell (j/e') (j%e') h1 (gG _ he0)
        rwa [pm,pB] at this)
       (fun j v hj=>by
        rw [f2] at hj
        cases hrw:rows[j/e']? with
        |none=>rw [hrw] at hj;cases hj
        |some row=>
         rw [hrw] at hj
         exact hv (j/e') row (j%e') v hrw hj)
      simpa using this
  ·cases hs
 ·cases hs
theorem b2Z [Frame] (H:bD μ h w) (E:gj μ h w f a) {o:Oper} {c:Call} {t e:TypeId} {s0:Nat} {x y:Operand} {x' y':Opd} (hop:o.op= .call c) (hca:c.callee= .builtin .copy) (hargs:c.args.toList=[x,y])
 (hx:bC x=some x') (hy:bC y=some y') (ht:c.argTypes[0]? =some t) (he:P.underlying t=some (.slice e)) (hsz:jI P e=some s0)
 {C:cg} {ow:FuncId->List Nat} {new:Nat} {v:V} {u:Upd} (hs:aN C ow (.copy s0 x' y') (Opd.ev f) h new=some (v,u)):iC P o a μ h w v u:=by
 have hvx:=bP E hx
 have hvy:=bP E hy
 have ha:c.args= #[x,y]:=by rw [<-hargs]
 simp only [aN] at hs
 split at hs
 ·rename_i rows b s n hrows hbx
  split at hs
  ·rename_i k hk
   split at hs
   ·rename_i hc
    cases hs
    obtain ⟨c1,c2,c3,c4,c5⟩:=hc
    have h0:0<s0:=by omega
    obtain ⟨news,S⟩:=a5t (P:=P) H h0 hrows hvy
    rw [hbx] at hvx
    generalize hX:a.eval x=X at hvx
    cases hvx with
    |sl _ _ _ _ k' hk' hn' hx' hp=>
     rw [hk] at hk';cases hk'
     obtain ⟨ad,cap,rfl,hok⟩:=hp (by omega) c4
     let m:=min rows.length n
     have hmle:m<=rows.length:=Nat.min_le_left _ _
     have hmn:m<=n:=Nat.min_le_right _ _
     have hfirst:=S.first m hmle w rfl
     have hcells:(news.extract 0 (m*s0)).size=m*s0:=by
      have:m*s0<=rows.length*s0:=bt _ hmle
      have hmm:min (m*s0) (rows.length*s0)=m*s0:=gK this
      simp only [Array.size_extract,S.size,oM,hmm]
     have hrun: ∀w',((match ad with|some a=>storeCells a (news.extract 0 (m*s0)).toList|none=>pure ():Sem Unit).run P w= .ok () w')->(execOp a.eval o).run P w= .ok (.value (.int .i64 m)) w':=by
      intro w' hst
      have hmin:Nat.min rows.length n=m:=rfl
      cases ad with
      |none=>
       simp only [Sem.run_pure] at hst
       cases hst
       simp only [execOp,hop,resolve,hca,ha,Sem.run_bind,Sem.run_pure,Result.andThen_ok,invoke,builtin,oy,aS,ee,Builtin.copy_,ht,run_underlying he,hX,S.len,fD hsz,hmin,hfirst,goInt]
       simp [ht,run_underlying he,hX,S.len,fD hsz,hmin,hfirst,goInt]
      |some ad=>
       simp only [Array.toList_extract,List.extract_eq_take_drop,oM,io] at hst
       simp only [execOp,hop,resolve,hca,ha,Sem.run_bind,Sem.run_pure,Result.andThen_ok,invoke,builtin,oy,aS,ee,Builtin.copy_]
       simp [ht,run_underlying he,hX,S.len,fD hsz,hmin,hfirst,goInt,hst]
     have hlit: ∀μ h w,aX μ h w (.lit (.int .i64 (min (rows.length:Int) n))) (.int .i64 (m:Nat)):=by
      intro μ h w
      have:((m:Nat):Int)=min (rows.length:Int) n:=by show ((min rows.length n:Nat):Int)=_;omega
      rw [this]
      exact .lit _
     have hsplen:k.rows.length=(k.rows.take s++(rows.take m++k.rows.drop (s+m))).length:=by simp;omega
     have htake:(rows.take m).length=m:=by simp;omega
     rcases hok with ⟨g1,g2⟩|⟨cb,hcb,rfl,hcap,hnc⟩
     ·have hm0:m=0:=by omega
      have hkk:({ k with rows:=k.rows.take s++(rows.take m++k.rows.drop (s+m)) }:Blk)=k:=by
       have e1:rows.take m=[]:=by rw [hm0];rfl
       have e2:s+m=s:=by rw [hm0];rfl
       rw [e1,e2,bj,pq]
      have hhh:bV h b k=h:=by
       funext b'
       unfold bV
       by_cases e:b'=b
       ·rw [ae e,e,hk]
       ·rw [aa e]
      refine ⟨.int .i64 m,w,μ,.inl (hrun w ?_), ?_, ?_,hlit _ _ _⟩
      ·rw [hm0]
       have:news.extract 0 (0*s0)= #[]:=by rw [lR];exact Array.extract_zero
       rw [this]
       cases ad<;>rfl
      ·show bD μ (bV h b _) w;rw [hkk,hhh];exact H
      ·show Chg μ h w μ (bV h b _) w;rw [hkk,hhh];exact Chg.refl _ _ _
     ·rcases H.blk b k hk with ⟨h1,_,hmnn⟩|⟨_,c',arr,tt,lo,hi',hm',hh,hf,hl,hv⟩|⟨h0',_⟩
      ·rw [hcb] at hmnn;cases hmnn
      rotate_left
      ·omega
      ·rw [hcb] at hm';cases hm'
       have hrw:=H.rows b k hk
       have hle:(s+m)*k.esz<=k.rows.length*k.esz:=bt _ (by omega)
       rw [Nat.add_mul] at hle
       obtain ⟨arr',hst,hsz',hval⟩:=mM (P:=P) (o:=s*k.esz) (news.extract 0 (m*s0)).toList 0 arr w hh hf.at (by rw [Array.length_toList,hcells, <-c3];omega)
        (fun v hv=>by
         obtain ⟨q,hq,rfl⟩:=bq hv
         rw [Array.length_toList,hcells] at hq
         have hqn:q<news.size:=by have:m*s0<=rows.length*s0:=bt _ hmle
                                  rw [S.size];omega
         have:=S.one h0 q hqn
         simpa [Array.getD_eq_getD_getElem?,hqn] using this)
       have hlt:=ot hh
       have hbs:bsize w cb=arr.size:=by unfold bsize;rw [hh]
       have hput:=H.put (w':=hO w cb arr' tt (lo,hi')) (c:=cb) (k':={ k with rows:=k.rows.take s++(rows.take m++k.rows.drop (s+m)) }) hk c2 (.inl hcb)
        rfl rfl rfl (by rw [vD];exact aw _) (aw _) (fun c' _ hne=>Cp hne) (rF hlt) (by rw [hsz'];exact hf) rfl
        (by rw [hsz'];simp only;rw [<-hsplen];exact hl)
        (fun row hrow=>by
         simp only at hrow ⊢
         rcases aW.1 hrow with h1|h1
         ·exact ⟨(hrw row (cp h1)).1 c2,(hrw row (cp h1)).2⟩
         ·rcases aW.1 h1 with h2|h2
          ·have:=S.row row (cp h2)
           exact ⟨by rw [c3];exact this.1,fun v hv=>⟨(this.2 v hv).1,fun _=>(this.2 v hv).2⟩⟩
          ·exact ⟨(hrw row (cc h2)).1 c2,(hrw row (cc h2)).2⟩)
        (.inr ⟨hsplen.symm,hcb,by rw [hsz',hbs]⟩)
        (fun i2 row2 j v h2 h3=>by
         simp only at h2 ⊢
         rw [hval]
         simp only [cQ,Array.length_toList,hcells]
         have hgs:=wM k.rows (rows.take m) s (by omega) i2
         rw [htake] at hgs
         rw [hgs] at h2
         by_cases hin:s<=i2/\i2<s+m
         ·rw [ae hin] at h2
          rw [j8,ae (by omega)] at h2
          have h4:=zf (fun row hr=>(S.row row hr).1) h2 h3
          have hjl:j<s0:=by have:=cS h3;rw [(S.row _ (an h2)).1] at this;exact this
          have h5:i2*s0=s*s0+(i2-s)*s0:=by rw [<-Nat.add_mul];congr 1;omega
          have h6:(i2-s+1)*s0<=m*s0:=bt _ (by omega)
          rw [Nat.add_mul,cB] at h6
          rw [c3,ae (by omega)]
          have:=S.rel (i2-s) row2 j v h2 h3
          rw [show i2*s0+j-s*s0=(i2-s)*s0+j by omega]
          have hlt3:(i2-s)*s0+j<m*s0:=by omega
          have hlt4:(i2-s)*s0+j<news.size:=by rw [S.size];exact h4
          simpa [bp,Array.getD_eq_getD_getElem?,hlt3,hlt4] using this
         ·rw [aa hin] at h2
          have hjl:j<k.esz:=by have:=cS h3;rw [(hrw _ (an h2)).1 c2] at this;exact this
          rw [aa (by
           intro hcon
           rw [c3] at hcon hjl
           apply hin
           constructor
           ·have h7:s*s0<(i2+1)*s0:=by rw [Nat.add_mul,cB];omega
            have:=dL h7
            omega
           ·have h7:i2*s0<(s+m)*s0:=by rw [Nat.add_mul];omega
            exact dL h7)]
          exact hv i2 row2 j v h2 h3)
       exact ⟨.int .i64 m,_,_,.inl (hrun _ hst),hput.1,hput.2,hlit _ _ _⟩
   ·cases hs
  ·cases hs
 ·cases hs
theorem B9 [Frame] (H:bD μ h w) (E:gj μ h w f a) {μ':Mu} (h':aZ) (hsub: ∀b c,μ' b=some c->μ b=some c): ∀{ps:List (Nat×Operand)} {qs:List (Nat×Opd)} {rs:List (Nat×V)} {bs:List Nat},pj ps=some qs->
 eD h (Opd.ev f) qs=some (rs,bs)->(∀b∈bs,μ' b=none)->
 rs.length=ps.length/\(∀(j:Nat) (p:Nat×Operand) (r:Nat×V),ps[j]? =some p->rs[j]? =some r->r.1=p.1/\(∀u∈r.2.cells,u.cl=true/\u.cell=true)/\
   (a.eval p.2).cells.size=r.2.cells.length/\ ∀(i:Nat) (u:V),r.2.cells[i]? =some u->aX μ' h' w u ((a.eval p.2).cells.getD i undef))/\ ∀b∈bs, ∃k,h b=some k
 |[],qs,rs,bs,hq,hs,hm=>by
  simp [pj] at hq
  subst hq
  simp [eD] at hs
  obtain ⟨rfl,rfl⟩:=hs
  exact ⟨rfl,(fun j p r hp=>by simp at hp),(fun b hb=>by simp at hb)⟩
 | (i,x)::ps,qs,rs,bs,hq,hs,hm=>by
   simp only [pj] at hq
   split at hq
   ·rename_i y r' hy hr'
    cases hq
    simp only [eD] at hs
    split at hs
    ·rename_i cs bs1 rs2 bs2 h1 h2
     cases hs
     obtain ⟨i1,i2,i3⟩:=B9 H E h' hsub hr' h2 (fun b hb=>hm b (by simp [hb]))
     have hall:(y.ev f).cells.all V.cell=true:=by
      rw [aB]
      intro v hv
      exact Xl.snaps_cell h1 v hv
     obtain ⟨g1,g2⟩:=(bP E hy).cellsRel hall
     obtain ⟨q1,q2,q3,q4⟩:=HI H h' hsub (fun j=>(a.eval x).cells.getD j undef) h1 g2 (fun b hb=>hm b (by simp [hb]))
     refine ⟨by simp [i1],fun j p r hp hr=> ?_,fun b hb=> ?_⟩
     ·cases j with
      |zero=>
       simp at hp hr
       subst hp hr
       exact ⟨rfl,fun u hu=>q3 u hu,by show _=cs.length;rw [g1,q1],fun i u hu=>q2 i u hu⟩
      |succ j=>exact i2 j p r (by simpa using hp) (by simpa using hr)
     ·rcases aW.1 hb with hb|hb
      ·exact q4 b hb
      ·exact i3 b hb
    ·cases hs
   ·cases hq
def Q4 [Frame] (μ:Mu) (h:aZ) (w:World) (esz:Nat) (rows:List (List V)) (arr:Array Value):Prop:=
 arr.size=rows.length*esz/\(∀row∈rows,row.length=esz/\ ∀v∈row,v.cell=true/\v.cl=true)/\ ∀i row j v,rows[i]? =some row->row[j]? =some v->aX μ h w v (arr.getD (i*esz+j) undef)
theorem WY [Frame] {esz:Nat} (h0:0<esz): ∀(ps:List (Nat×Value)) (rs:List (Nat×V)) (rows rows':List (List V)) (arr:Array Value),Q4 μ h w esz rows arr->Qr esz rows rs=some rows'->ps.length=rs.length->
 (∀(j:Nat) (p:Nat×Value) (r:Nat×V),ps[j]? =some p->rs[j]? =some r->r.1=p.1/\(∀u∈r.2.cells,u.cl=true/\u.cell=true)/\p.2.cells.size=r.2.cells.length/\ ∀(i:Nat) (u:V),r.2.cells[i]? =some u->aX μ h w u (p.2.cells.getD i undef))->
 ∃arr',Instr.fill (fun i=>some (i*esz,esz)) arr ps=some arr'/\Q4 μ h w esz rows' arr'/\rows'.length=rows.length
 |[],[],rows,rows',arr,hr,hf,_,_=>by simp [Qr] at hf;subst hf;exact ⟨arr,rfl,hr,rfl⟩
 |[],_::_,_,_,_,_,_,hl,_=>by simp at hl
 |_::_,[],_,_,_,_,_,hl,_=>by simp at hl
 |p::ps,r::rs,rows,rows',arr,hr,hf,hl,hrel=>by
  obtain ⟨i,x⟩:=p
  obtain ⟨i',v⟩:=r
  obtain ⟨e1,e2,e3,e4⟩:=hrel 0 (i,x) (i',v) rfl rfl
  dsimp only at e1 e2 e3 e4
  subst e1
  simp only [Qr] at hf
  split at hf
  ·rename_i hcond
   obtain ⟨c1,c2,c3⟩:=hcond
   obtain ⟨a1,a2,a3⟩:=hr
   have hle:(i'+1)*esz<=rows.length*esz:=bt _ c2
   rw [Nat.add_mul,cB] at hle
   obtain ⟨s1,s2⟩:=Mn x.cells (i'*esz) arr (by omega)
   have hnew:Q4 μ h w esz (rows.set i' v.cells) (x.cells.zipIdx.foldl (fun cs (p:Value×Nat)=>cs.setIfInBounds (i'*esz+p.2) p.1) arr):=by
    refine ⟨by rw [s1,a1,bg],fun row hrow=> ?_,fun i2 row2 j u h2 h3=> ?_⟩
    ·rcases dQ hrow with h4|h4
     ·exact a2 row h4
     ·subst h4;exact ⟨c1,fun u hu=>⟨(e2 u hu).2,(e2 u hu).1⟩⟩
    ·rw [s2]
     rw [fC] at h2
     by_cases e:i'=i2
     ·subst e
      rw [ae rfl,ae c2] at h2
      cases h2
      have hj:=cS h3
      rw [ae (by omega)]
      have:=e4 j u h3
      rwa [show i'*esz+j-i'*esz=j by omega]
     ·rw [aa e] at h2
      have hjl:j<esz:=by have:=cS h3;rw [(a2 _ (an h2)).1] at this;exact this
      rw [aa (by
       intro hcon
       have hr1:i'*esz<(i2+1)*esz:=by rw [Nat.add_mul,cB];omega
       have hr2:i2*esz<(i'+1)*esz:=by rw [Nat.add_mul,cB];omega
       have:=dL hr1
       have:=dL hr2
       omega)]
      exact a3 i2 row2 j u h2 h3
   obtain ⟨arr',hfill,hrel',hlen⟩:=WY h0 ps rs _ rows' _ hnew hf (by simpa using hl) (fun j p r hp hr=>hrel (j+1) p r (by simpa using hp) (by simpa using hr))
   refine ⟨arr', ?_,hrel',by rw [hlen,bg]⟩
   simp only [Instr.fill]
   rw [aa (by
    intro hcon
    simp only [da,aG,ne_eq,gt_iff_lt] at hcon
    rcases hcon with h1|h1<;>omega)]
   exact hfill
  ·cases hf
theorem GW [Frame] (H:bD μ h w) (E:gj μ h w f a) {o:Oper} {t e:TypeId} {len s0:Nat} {z:List Value} {ps:Array (Nat×Operand)} {qs:List (Nat×Opd)} (hop:o.op= .buildSlice t len ps) (he:P.underlying t=some (.slice e)) (hsz:jI P e=some s0) (hz:Cl P e=some z) (hqs:pj ps.toList=some qs)
 {C:cg} {ow:FuncId->List Nat} {new:Nat} {v:V} {u:Upd} (hs:aN C ow (.buildSlice s0 z len qs) (Opd.ev f) h new=some (v,u)):iC P o a μ h w v u:=by
 simp only [aN] at hs
 split at hs
 ·rename_i rs bs hps
  split at hs
  ·rename_i rows hfill
   split at hs
   ·rename_i hc
    obtain ⟨c1,c2,c3,c4⟩:=hc
    split at hs
    ·rename_i v1 u1 hfr
     cases hs
     obtain ⟨hn,h0,hr⟩:=rI hfr
     cases hr
     dsimp only at h0
     obtain ⟨i,zv,hi,hzv,hcs,hzr⟩:=rP hz
     have hdom:=(B9 H E (μ':=fun _=>none) h (fun b c e=>by cases e) hqs hps (fun b _=>rfl)).2.2
     obtain ⟨μ1,H1,C1,hk1,hsub,hoth⟩:=b4t bs hdom H
     obtain ⟨p1,p2,_⟩:=B9 H E (fX h (jo bs)) hsub hqs hps hk1
     have hzs:zv.cells.size=s0:=by rw [<-c1, <-hcs];simp
     let arr0:Array Value:=(Array.range (len*s0)).map (zv.cells[· %zv.cells.size]!)
     have hR0:Q4 μ1 (fX h (jo bs)) w s0 (List.replicate len (z.map zc)) arr0:=by
      refine ⟨by simp [arr0],fun row hrow=> ?_,fun i2 row j v hi2 hj=> ?_⟩
      ·obtain ⟨_,rfl⟩:=gy.1 hrow
       exact ⟨by simpa using c1,fun v hv=>by obtain ⟨y,hy,rfl⟩:=bu.1 hv;exact ⟨a1c (aB.1 c2 y hy),b36 y⟩⟩
      ·obtain ⟨_,y,hy,rfl,hjl,hrl⟩:=QV hcs c1 h0 hi2 hj
       have hlt:i2*s0+j<len*s0:=by
        have:(i2+1)*s0<=len*s0:=bt _ hrl
        rw [Nat.add_mul,cB] at this;omega
       have:=Iq (z:=zv.cells) hlt (by omega)
       show aX _ _ _ _ ((madeCells zv.cells (len*s0)).getD _ undef)
       rw [this,hzs,jp,lV,o0 hjl]
       simp only [Array.getD_eq_getD_getElem?,hy,du]
       exact .zc _
     obtain ⟨arr',hf',hR',hlen'⟩:=WY h0 (ps.toList.map fun p=>(p.1,a.eval p.2)) rs _ rows arr0 hR0 hfill (by simp [p1]) (fun j p r hp hr=>by
      rw [aV] at hp
      cases hpj:ps.toList[j]? with
      |none=>rw [hpj] at hp;cases hp
      |some p0=>rw [hpj] at hp;cases hp;exact p2 j p0 r hpj hr)
     have hlen:rows.length=len:=by rw [hlen'];simp
     have hnb:fX h (jo bs) new=none:=by rw [(hoth new c4).2];exact hn
     obtain ⟨μ',q1,q2,q3⟩:=La H1 (md w (.cells arr' e)) (new:=new) hnb (esz:=s0) (rows:=rows) (lo:=0) (hi:=0) (cap:=len) (qf w _) (.inl rfl) h0 (by omega) (by rw [hR'.1,hlen];exact aw _) hR'.2.1 hR'.2.2
     rw [hlen] at q3
     refine ⟨_,_,μ',.inl ?_,by rw [rQ];exact q1,by rw [rQ];exact C1.trans q2,by rw [rQ];exact q3⟩
     simp only [execOp,hop,Instr.buildSlice]
     by_cases hz0:len*s0=0
     ·have:arr0=(Array.range 0).map ((#[]:Array Value)[· %(#[]:Array Value).size]!):=by
       show (Array.range (len*s0)).map _=_
       rw [hz0];apply eO;simp
      rw [this] at hf'
      simp [run_underlying he,fD hsz,hz0,newRow,mV]
      simp at hf'
      rw [hf']
      rfl
     ·simp [run_underlying he,fD hsz,hz0,Nat.not_lt.2 c3,hzr,newRow,mV]
      have hf2:=hf'
      simp only [arr0] at hf2
      rw [hf2]
      rfl
    ·cases hs
   ·cases hs
  ·cases hs
 ·cases hs
theorem a9l {ps:Array (Nat×Operand)} {x y:Opd} (h:pj ps.toList=some [(0,x),(1,y)]): ∃X Y,ps.toList=[(0,X),(1,Y)]/\bC X=some x/\bC Y=some y:=by
 generalize ps.toList=l at h
 have step: ∀{i:Nat} {z:Opd} {l:List (Nat×Operand)} {r:List (Nat×Opd)},pj l=some ((i,z)::r)-> ∃Z l',l=(i,Z)::l'/\bC Z=some z/\pj l'=some r:=by
  intro i z l r h
  cases l with
  |nil=>simp [pj] at h
  |cons p l=>
   obtain ⟨j,Z⟩:=p
   simp only [pj] at h
   split at h
   ·rename_i h1 h2;cases h;exact ⟨Z,l,rfl,h1,h2⟩
   ·cases h
 obtain ⟨X,l1,rfl,hx,h⟩:=step h
 obtain ⟨Y,l2,rfl,hy,h⟩:=step h
 cases l2 with
 |nil=>exact ⟨X,Y,rfl,hx,hy⟩
 |cons p l=>
  obtain ⟨j,Z⟩:=p
  simp only [pj] at h
  split at h<;>cases h
theorem c61 {A:Array Value} (hA:A.size=2) (p q:Value):(A.setIfInBounds 0 p).setIfInBounds 1 q= #[p,q]:=by
 apply Array.ext
 ·simp [hA]
 ·intro i h1 h2
  have h3:i<2:=by simpa using h2
  rcases (by omega:i=0\/i=1) with rfl|rfl
  ·simp [hA]
  ·simp [hA]
theorem D6 {v:V} (h:v.cell=true):v.cells=[v]:=by
 cases v<;>first|rfl|cases h
theorem Zs [Frame] (H:bD μ h w) (E:gj μ h w f a) {o:Oper} {t e:TypeId} {ps:Array (Nat×Operand)} {x y:Opd} {z:List Value} (hop:o.op= .buildSlice t 2 ps) (he:P.underlying t=some (.slice e)) (hsz:jI P e=some 1) (hz:Cl P e=some z) (hqs:pj ps.toList=some [(0,x),(1,y)])
 {new:Nat} {v:V} {u:Upd} (hs:(if (x.ev f).cell=true/\(y.ev f).cell=true then ng h new ⟨1,true,[[x.ev f],[y.ev f]]⟩ (.sl new 0 2) else none)=some (v,u)):iC P o a μ h w v u:=by
 split at hs
 ·rename_i hc
  obtain ⟨c1,c2⟩:=hc
  obtain ⟨hn,h0,hr⟩:=rI hs
  cases hr
  obtain ⟨X,Y,hps,hx,hy⟩:=a9l hqs
  have hX:=bP E hx
  have hY:=bP E hy
  obtain ⟨i,zv,hi,hzv,hcs,hzr⟩:=rP hz
  obtain ⟨x1,x2⟩:=hX.cellsRel (by rw [D6 c1];simp [c1])
  obtain ⟨y1,y2⟩:=hY.cellsRel (by rw [D6 c2];simp [c2])
  rw [D6 c1] at x1 x2
  rw [D6 c2] at y1 y2
  have rx:=x2 0 _ rfl
  have ry:=y2 0 _ rfl
  let arr:Array Value:= #[(a.eval X).cells.getD 0 undef,(a.eval Y).cells.getD 0 undef]
  have hnew:=H.new (md w (.cells arr e)) (b:=new) (c:=w.heap.size) (k:=⟨1,true,[[x.ev f],[y.ev f]]⟩) (lo:=0) (hi:=0) hn (aw _) (qf w _) (.inl rfl) (by simp) (by simp [arr]) (fun row hrow=>by
   simp only [bc,List.mem_nil_iff,or_false] at hrow
   rcases hrow with rfl|rfl
   ·exact ⟨rfl,fun v hv=>by simp only [dT] at hv;subst hv;exact ⟨c1,fun h=>by cases h⟩⟩
   ·exact ⟨rfl,fun v hv=>by simp only [dT] at hv;subst hv;exact ⟨c2,fun h=>by cases h⟩⟩) (fun i row j v hi hj=>by
   match i,hi with
   |0,hi=>cases hi;match j,hj with
    |0,hj=>cases hj;exact rx
   |1,hi=>cases hi;match j,hj with
    |0,hj=>cases hj;exact ry)
  refine ⟨.slice (some ⟨w.heap.size,0,none⟩) 2 2,mV w (.cells arr e),_,.inl ?_,hnew.1,hnew.2,.sl new 0 2 _ ⟨1,true,[[x.ev f],[y.ev f]]⟩ (by simp [fX,bV]) (.inr (by simp)) ⟨_,_,rfl⟩ (fun _ _=>⟨_,_,rfl,.inr ⟨w.heap.size,by simp [cE],by simp, ?_,by simp⟩⟩)⟩
  ·simp only [execOp,hop,Instr.buildSlice]
   have e1:(a.eval X).cells= #[(a.eval X).cells.getD 0 undef]:=by
    apply eO
    match hl:(a.eval X).cells.toList,x1 with
    |[q],_=>simp [Array.getD_eq_getD_getElem?, <-Array.getElem?_toList,hl]
    |[],h=>simp [<-Array.length_toList,hl] at h
    |_::_::_,h=>simp [<-Array.length_toList,hl] at h
   have e2:(a.eval Y).cells= #[(a.eval Y).cells.getD 0 undef]:=by
    apply eO
    match hl:(a.eval Y).cells.toList,y1 with
    |[q],_=>simp [Array.getD_eq_getD_getElem?, <-Array.getElem?_toList,hl]
    |[],h=>simp [<-Array.length_toList,hl] at h
    |_::_::_,h=>simp [<-Array.length_toList,hl] at h
   have hf:Instr.fill (fun i=>some (i*1,1)) ((Array.range (2*1)).map (zv.cells[· %zv.cells.size]!)) (ps.map fun p=>(p.1,a.eval p.2)).toList=some arr:=by
    rw [Array.toList_map,hps]
    simp only [aS,ee,Instr.fill]
    rw [e1,e2]
    have hs:((Array.range (2*1)).map (zv.cells[· %zv.cells.size]!)).size=2:=by simp
    generalize (Array.range (2*1)).map (zv.cells[· %zv.cells.size]!)=A at hs
    have:=c61 hs ((a.eval X).cells.getD 0 undef) ((a.eval Y).cells.getD 0 undef)
    simp only [Array.getD_eq_getD_getElem?] at this
    simp [arr,hs,this]
   simp [run_underlying he,fD hsz,hzr,newRow,mV]
   simp only [qE,Array.toList_map] at hf
   rw [hf]
   rfl
  ·simp [bsize,qf,arr]
 ·cases hs
end
end Go.AI
