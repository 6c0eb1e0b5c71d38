/- Part. -/
import Derived.Test.YtdnkignjanfikaaGreatAiOps7
set_option linter.unusedVariables false
set_option linter.unusedSimpArgs false
namespace Go.AI
section
variable {P:Program} {μ:Mu} {h:ba} {w:World} {f:Nat->V} {a:Act}
theorem a8j [Frame] (H:bG μ h w) (E:ic μ h w f a) {o:Oper} {t e:TypeId} {n:Nat} {x:Operand} {x':Opd} (hop:o.op= .sliceToArrayPointer t x) (hx:bF x=some x')
 (hu:P.underlying t=some (.array n e)) {C:cr} {ow:FuncId->List Nat} {new:Nat} {v:V} {u:Upd} (d:aK C ow (.arrOf n x') (Opd.ev f) h new=some (v,u)):jv P o a μ h w v u:=by
 have z:=bX E hx
 simp only [aK] at d
 split at d
 ·rename_i e' rows bs hsn
  split at d
  ·rename_i m
   cases d
   have hdom:=(Qc H hsn z (μ':=fun _=>none) h (fun b _=>rfl) (fun b c e=>by cases e)).2.2.2
   obtain ⟨μ1,H1,C1,hk1,hsub,hoth⟩:=b5o bs hdom H
   obtain ⟨q1,q2,q3,_⟩:=Qc H hsn z (hU h (ka bs)) hk1 hsub
   by_cases h0:rows=[]
   ·rw [h0] at m;simp at m;omega
   ·generalize hX:a.eval x=X at q1
    cases q1 with
    |emp=>exact absurd rfl h0
    |imm0=>exact absurd rfl h0
    |imm _ _ c off cap ys p y hcp hc d i q hv=>
     refine ⟨.pointer (some ⟨c,off,none⟩),w,μ1,.inl ?_,H1,C1, ?_⟩
     ·simp [execOp,hop,Instr.arrayAt,run_underlying hu,hX,Nat.not_lt.2 m.2]
     ·have hfl: ∀(rs:List (List V)),(∀row∈rs,row.length=e')->rs.flatten.length=rs.length*e'/\ ∀k,rs.flatten[k]? =(rs[k/e']?).bind (fun row=>row[k%e']?):=by
       intro rs
       induction rs with
       |nil=>intro _;exact ⟨by simp,fun k=>by simp⟩
       |cons row rs ih=>
        intro hrs
        obtain ⟨i1,i2⟩:=ih (fun r y=>hrs r (by simp [y]))
        have hl:=hrs row sm
        refine ⟨by simp [i1,hl,Nat.add_mul];omega,fun k=> ?_⟩
        rw [pH]
        by_cases hk:k<e'
        ·rw [bc om,Nat.div_eq_of_lt hk,js hk]
         rfl
        ·rw [bt om,i2,hl]
         have h1:k/e'=(k-e')/e'+1:=by rw [<-Nat.add_div_right _ p];congr 1;omega
         have h2:k%e'=(k-e')%e':=by rw [<-Nat.add_mod_right (k-e')];congr 1;omega
         rw [h1,h2]
         rfl
      obtain ⟨f1,f2⟩:=hfl rows (fun row y=>(i row y).1)
      have:=b7.iptr (μ:=μ1) (h:=hU h (ka bs)) (w:=w) rows.flatten 0 c off (fun k=>ys (k/e') (k%e')) hc d
       (fun v hv=>by obtain ⟨row,y,hvr⟩:=List.mem_flatten.1 hv;exact (i row y).2 v hvr)
       (fun j l=>by
        rw [f1] at l
        have h1:j/e'<rows.length:=(j2 p).2 l
        have:=q (j/e') (j%e') h1 (fN _ p)
        rwa [eo,sY] at this)
       (fun j v l=>by
        rw [f2] at l
        cases s:rows[j/e']? with
        |none=>rw [s] at l;cases l
        |some row=>
         rw [s] at l
         exact hv (j/e') row (j%e') v s l)
      simpa using this
  ·cases d
 ·cases d
theorem b0I [Frame] (H:bG μ h w) (E:ic μ h w f a) {o:Oper} {c:Call} {t e:TypeId} {d:Nat} {x y:Operand} {x' y':Opd} (hop:o.op= .call c) (hca:c.callee= .builtin .copy) (hargs:c.args.toList=[x,y])
 (hx:bF x=some x') (hy:bF y=some y') (ht:c.argTypes[0]? =some t) (he:P.underlying t=some (.slice e)) (hsz:lj P e=some d)
 {C:cr} {ow:FuncId->List Nat} {new:Nat} {v:V} {u:Upd} (hs:aK C ow (.copy d x' y') (Opd.ev f) h new=some (v,u)):jv P o a μ h w v u:=by
 have hvx:=bX E hx
 have hvy:=bX E hy
 have ha:c.args= #[x,y]:=by rw [<-hargs]
 simp only [aK] at hs
 split at hs
 ·rename_i rows b s n hrows hbx
  split at hs
  ·rename_i k hk
   split at hs
   ·rename_i hc
    cases hs
    obtain ⟨c1,c2,c3,c4,c5⟩:=hc
    have h0:0<d:=by omega
    obtain ⟨news,S⟩:=a2S (P:=P) H h0 hrows hvy
    rw [hbx] at hvx
    generalize hX:a.eval x=X at hvx
    cases hvx with
    |sl _ _ _ _ k' hk' hn' hx' hp=>
     rw [hk] at hk';cases hk'
     obtain ⟨ad,cap,rfl,hok⟩:=hp om c4
     let m:=min rows.length n
     have hmle:m<=rows.length:=Nat.min_le_left _ _
     have hmn:m<=n:=Nat.min_le_right _ _
     have i:=S.first m hmle w rfl
     have l:(news.extract 0 (m*d)).size=m*d:=by
      have:m*d<=rows.length*d:=bg _ hmle
      have hmm:min (m*d) (rows.length*d)=m*d:=dp this
      simp only [Array.size_extract,S.size,nv,hmm]
     have hrun: ∀w',((match ad with|some a=>storeCells a (news.extract 0 (m*d)).toList|none=>pure ():Sem Unit).run P w= .ok () w')->(execOp a.eval o).run P w= .ok (.value (.int .i64 m)) w':=by
      intro w' hst
      have hmin:Nat.min rows.length n=m:=rfl
      cases ad with
      |none=>
       simp only [Sem.run_pure] at hst
       cases hst
       simp only [execOp,hop,resolve,hca,ha,Sem.run_bind,Sem.run_pure,Result.andThen_ok,invoke,builtin,qK,aM,eu,Builtin.copy_,ht,run_underlying he,hX,S.len,gx hsz,hmin,i,goInt]
       simp [ht,run_underlying he,hX,S.len,gx hsz,hmin,i,goInt]
      |some ad=>
       simp only [Array.toList_extract,List.extract_eq_take_drop,nv,hK] at hst
       simp only [execOp,hop,resolve,hca,ha,Sem.run_bind,Sem.run_pure,Result.andThen_ok,invoke,builtin,qK,aM,eu,Builtin.copy_]
       simp [ht,run_underlying he,hX,S.len,gx hsz,hmin,i,goInt,hst]
     have hlit: ∀μ h w,b7 μ h w (.lit (.int .i64 (min (rows.length:Int) n))) (.int .i64 (m:Nat)):=by
      intro μ h w
      have:((m:Nat):Int)=min (rows.length:Int) n:=by show ((min rows.length n:Nat):Int)=_;omega
      rw [this]
      exact .lit _
     have r:k.rows.length=(k.rows.take s++(rows.take m++k.rows.drop (s+m))).length:=by simp;omega
     have htake:(rows.take m).length=m:=by simp;omega
     rcases hok with ⟨g1,g2⟩|⟨cb,hcb,rfl,hcap,hnc⟩
     ·have hm0:m=0:=by omega
      have hkk:({ k with rows:=k.rows.take s++(rows.take m++k.rows.drop (s+m)) }:Blk)=k:=by
       have e1:rows.take m=[]:=by rw [hm0];rfl
       have e2:s+m=s:=by rw [hm0];rfl
       rw [e1,e2,bA,j0]
      have hhh:ci h b k=h:=by
       funext b'
       unfold ci
       by_cases e:b'=b
       ·rw [aa e,e,hk]
       ·rw [a7 e]
      refine ⟨.int .i64 m,w,μ,.inl (hrun w ?_), ?_, ?_,hlit _ _ _⟩
      ·rw [hm0]
       have:news.extract 0 (0*d)= #[]:=by rw [nW];exact Array.extract_zero
       rw [this]
       cases ad<;>rfl
      ·show bG μ (ci h b _) w;rw [hkk,hhh];exact H
      ·show Chg μ h w μ (ci h b _) w;rw [hkk,hhh];exact Chg.refl _ _ _
     ·rcases H.blk b k hk with ⟨h1,_,hmnn⟩|⟨_,c',arr,tt,lo,hi',hm',hh,hf,hl,hv⟩|⟨h0',_⟩
      ·rw [hcb] at hmnn;cases hmnn
      rotate_left
      ·omega
      ·rw [hcb] at hm';cases hm'
       have hrw:=H.rows b k hk
       have hle:(s+m)*k.esz<=k.rows.length*k.esz:=bg _ om
       rw [Nat.add_mul] at hle
       obtain ⟨arr',hst,hsz',hval⟩:=oe (P:=P) (o:=s*k.esz) (news.extract 0 (m*d)).toList 0 arr w hh hf.at (by rw [Array.length_toList,l, <-c3];omega)
        (fun v hv=>by
         obtain ⟨q,hq,rfl⟩:=bp hv
         rw [Array.length_toList,l] at hq
         have hqn:q<news.size:=by have:m*d<=rows.length*d:=bg _ hmle
                                  rw [S.size];omega
         have:=S.one h0 q hqn
         simpa [Array.getD_eq_getD_getElem?,hqn] using this)
       have hlt:=rq hh
       have hbs:bsize w cb=arr.size:=by unfold bsize;rw [hh]
       have hput:=H.put (w':=iT w cb arr' tt (lo,hi')) (c:=cb) (k':={ k with rows:=k.rows.take s++(rows.take m++k.rows.drop (s+m)) }) hk c2 (.inl hcb)
        rfl rfl rfl (by rw [yj];exact am _) (am _) (fun c' _ hne=>Dc hne) (uz hlt) (by rw [hsz'];exact hf) rfl
        (by rw [hsz'];simp only;rw [<-r];exact hl)
        (fun row hrow=>by
         simp only at hrow ⊢
         rcases aJ.1 hrow with h1|h1
         ·exact ⟨(hrw row (cm h1)).1 c2,(hrw row (cm h1)).2⟩
         ·rcases aJ.1 h1 with p|p
          ·have:=S.row row (cm p)
           exact ⟨by rw [c3];exact this.1,fun v hv=>⟨(this.2 v hv).1,fun _=>(this.2 v hv).2⟩⟩
          ·exact ⟨(hrw row (bZ p)).1 c2,(hrw row (bZ p)).2⟩)
        (.inr ⟨r.symm,hcb,by rw [hsz',hbs]⟩)
        (fun z row2 j v p h3=>by
         simp only at p ⊢
         rw [hval]
         simp only [cH,Array.length_toList,l]
         have hgs:=yw k.rows (rows.take m) s om z
         rw [htake] at hgs
         rw [hgs] at p
         by_cases hin:s<=z/\z<s+m
         ·rw [aa hin] at p
          rw [kw,aa om] at p
          have h4:=AP (fun row hr=>(S.row row hr).1) p h3
          have hjl:j<d:=by have:=dg h3;rw [(S.row _ (al p)).1] at this;exact this
          have h5:z*d=s*d+(z-s)*d:=by rw [<-Nat.add_mul];congr 1;omega
          have h6:(z-s+1)*d<=m*d:=bg _ om
          rw [Nat.add_mul,cK] at h6
          rw [c3,aa om]
          have:=S.rel (z-s) row2 j v p h3
          rw [show z*d+j-s*d=(z-s)*d+j by omega]
          have hlt3:(z-s)*d+j<m*d:=by omega
          have hlt4:(z-s)*d+j<news.size:=by rw [S.size];exact h4
          simpa [List.getD_eq_getElem?_getD,Array.getD_eq_getD_getElem?,hlt3,hlt4] using this
         ·rw [a7 hin] at p
          have hjl:j<k.esz:=by have:=dg h3;rw [(hrw _ (al p)).1 c2] at this;exact this
          rw [a7 (by
           intro hcon
           rw [c3] at hcon hjl
           apply hin
           constructor
           ·have h7:s*d<(z+1)*d:=by rw [Nat.add_mul,cK];omega
            have:=ey h7
            omega
           ·have h7:z*d<(s+m)*d:=by rw [Nat.add_mul];omega
            exact ey h7)]
          exact hv z row2 j v p h3)
       exact ⟨.int .i64 m,_,_,.inl (hrun _ hst),hput.1,hput.2,hlit _ _ _⟩
   ·cases hs
  ·cases hs
 ·cases hs
theorem Cy [Frame] (H:bG μ h w) (E:ic μ h w f a) {μ':Mu} (h':ba) (e: ∀b c,μ' b=some c->μ b=some c): ∀{ps:List (Nat×Operand)} {qs:List (Nat×Opd)} {rs:List (Nat×V)} {bs:List Nat},sn ps=some qs->
 fA h (Opd.ev f) qs=some (rs,bs)->(∀b∈bs,μ' b=none)->
 rs.length=ps.length/\(∀(j:Nat) (p:Nat×Operand) (r:Nat×V),ps[j]? =some p->rs[j]? =some r->r.1=p.1/\(∀u∈r.2.cells,u.cl=true/\u.cell=true)/\
   (a.eval p.2).cells.size=r.2.cells.length/\ ∀(i:Nat) (u:V),r.2.cells[i]? =some u->b7 μ' h' w u ((a.eval p.2).cells.getD i undef))/\ ∀b∈bs, ∃k,h b=some k
 |[],qs,rs,bs,l,m,q=>by
  simp [sn] at l
  subst l
  simp [fA] at m
  obtain ⟨rfl,rfl⟩:=m
  exact ⟨rfl,(fun j p r n=>by simp at n),(fun b d=>by simp at d)⟩
 | (i,x)::ps,qs,rs,bs,l,m,q=>by
   simp only [sn] at l
   split at l
   ·rename_i y r' hy s
    cases l
    simp only [fA] at m
    split at m
    ·rename_i cs bs1 rs2 bs2 h1 h2
     cases m
     obtain ⟨i1,i2,i3⟩:=Cy H E h' e s h2 (fun b d=>q b (by simp [d]))
     have o:(y.ev f).cells.all V.cell=true:=by
      rw [an]
      intro v hv
      exact Vp.snaps_cell h1 v hv
     obtain ⟨g1,g2⟩:=(bX E hy).cellsRel o
     obtain ⟨q1,q2,q3,q4⟩:=Hv H h' e (fun j=>(a.eval x).cells.getD j undef) h1 g2 (fun b d=>q b (by simp [d]))
     refine ⟨by simp [i1],fun j p r n t=> ?_,fun b d=> ?_⟩
     ·cases j with
      |zero=>
       simp at n t
       subst n t
       exact ⟨rfl,fun u z=>q3 u z,by show _=cs.length;rw [g1,q1],fun i u z=>q2 i u z⟩
      |succ j=>exact i2 j p r (by simpa using n) (by simpa using t)
     ·rcases aJ.1 d with d|d
      ·exact q4 b d
      ·exact i3 b d
    ·cases m
   ·cases l
def PJ [Frame] (μ:Mu) (h:ba) (w:World) (esz:Nat) (rows:List (List V)) (arr:Array Value):Prop:=
 arr.size=rows.length*esz/\(∀row∈rows,row.length=esz/\ ∀v∈row,v.cell=true/\v.cl=true)/\ ∀i row j v,rows[i]? =some row->row[j]? =some v->b7 μ h w v (arr.getD (i*esz+j) undef)
theorem V0 [Frame] {esz:Nat} (h0:0<esz): ∀(ps:List (Nat×Value)) (rs:List (Nat×V)) (rows rows':List (List V)) (arr:Array Value),PJ μ h w esz rows arr->T4 esz rows rs=some rows'->ps.length=rs.length->
 (∀(j:Nat) (p:Nat×Value) (r:Nat×V),ps[j]? =some p->rs[j]? =some r->r.1=p.1/\(∀u∈r.2.cells,u.cl=true/\u.cell=true)/\p.2.cells.size=r.2.cells.length/\ ∀(i:Nat) (u:V),r.2.cells[i]? =some u->b7 μ h w u (p.2.cells.getD i undef))->
 ∃arr',Instr.fill (fun i=>some (i*esz,esz)) arr ps=some arr'/\PJ μ h w esz rows' arr'/\rows'.length=rows.length
 |[],[],rows,rows',arr,m,c,_,_=>by simp [T4] at c;subst c;exact ⟨arr,rfl,m,rfl⟩
 |[],_::_,_,_,_,_,_,n,_=>by simp at n
 |_::_,[],_,_,_,_,_,n,_=>by simp at n
 |p::ps,r::rs,rows,rows',arr,m,c,n,b=>by
  obtain ⟨i,x⟩:=p
  obtain ⟨i',v⟩:=r
  obtain ⟨e1,e2,e3,e4⟩:=b 0 (i,x) (i',v) rfl rfl
  dsimp only at e1 e2 e3 e4
  subst e1
  simp only [T4] at c
  split at c
  ·rename_i d
   obtain ⟨c1,c2,c3⟩:=d
   obtain ⟨a1,a2,a3⟩:=m
   have z:(i'+1)*esz<=rows.length*esz:=bg _ c2
   rw [Nat.add_mul,cK] at z
   obtain ⟨s1,s2⟩:=Lh x.cells (i'*esz) arr om
   have o:PJ μ h w esz (rows.set i' v.cells) (x.cells.zipIdx.foldl (fun cs (p:Value×Nat)=>cs.setIfInBounds (i'*esz+p.2) p.1) arr):=by
    refine ⟨by rw [s1,a1,aO],fun row q=> ?_,fun t row2 j u l y=> ?_⟩
    ·rcases dC q with h4|h4
     ·exact a2 row h4
     ·subst h4;exact ⟨c1,fun u hu=>⟨(e2 u hu).2,(e2 u hu).1⟩⟩
    ·rw [s2]
     rw [dW] at l
     by_cases e:i'=t
     ·subst e
      rw [aa rfl,aa c2] at l
      cases l
      have hj:=dg y
      rw [aa om]
      have:=e4 j u y
      rwa [show i'*esz+j-i'*esz=j by omega]
     ·rw [a7 e] at l
      have hjl:j<esz:=by have:=dg y;rw [(a2 _ (al l)).1] at this;exact this
      rw [a7 (by
       intro a
       have hr1:i'*esz<(t+1)*esz:=by rw [Nat.add_mul,cK];omega
       have hr2:t*esz<(i'+1)*esz:=by rw [Nat.add_mul,cK];omega
       have:=ey hr1
       have:=ey hr2
       omega)]
      exact a3 t row2 j u l y
   obtain ⟨arr',f,k,s⟩:=V0 h0 ps rs _ rows' _ o c (by simpa using n) (fun j p r hp m=>b (j+1) p r (by simpa using hp) (by simpa using m))
   refine ⟨arr', ?_,k,by rw [s,aO]⟩
   simp only [Instr.fill]
   rw [a7 (by
    intro a
    simp only [dZ,aA,ne_eq,gt_iff_lt] at a
    rcases a with h1|h1<;>omega)]
   exact f
  ·cases c
theorem Gm [Frame] (H:bG μ h w) (E:ic μ h w f a) {o:Oper} {t e:TypeId} {len d:Nat} {z:List Value} {ps:Array (Nat×Operand)} {qs:List (Nat×Opd)} (hop:o.op= .buildSlice t len ps) (he:P.underlying t=some (.slice e)) (hsz:lj P e=some d) (hz:Dr P e=some z) (hqs:sn ps.toList=some qs)
 {C:cr} {ow:FuncId->List Nat} {new:Nat} {v:V} {u:Upd} (k:aK C ow (.buildSlice d z len qs) (Opd.ev f) h new=some (v,u)):jv P o a μ h w v u:=by
 simp only [aK] at k
 split at k
 ·rename_i rs bs hps
  split at k
  ·rename_i rows n
   split at k
   ·rename_i hc
    obtain ⟨c1,c2,c3,c4⟩:=hc
    split at k
    ·rename_i v1 u1 hfr
     cases k
     obtain ⟨hn,h0,hr⟩:=uw hfr
     cases hr
     dsimp only at h0
     obtain ⟨i,zv,hi,hzv,hcs,hzr⟩:=uH hz
     have hdom:=(Cy H E (μ':=fun _=>none) h (fun b c e=>by cases e) hqs hps (fun b _=>rfl)).2.2
     obtain ⟨μ1,H1,C1,hk1,hsub,hoth⟩:=b5o bs hdom H
     obtain ⟨p1,p2,_⟩:=Cy H E (hU h (ka bs)) hsub hqs hps hk1
     have hzs:zv.cells.size=d:=by rw [<-c1, <-hcs];simp
     let arr0:Array Value:=(Array.range (len*d)).map (zv.cells[· %zv.cells.size]!)
     have hR0:PJ μ1 (hU h (ka bs)) w d (List.replicate len (z.map zc)) arr0:=by
      refine ⟨by simp [arr0],fun row hrow=> ?_,fun i2 row j v hi2 hj=> ?_⟩
      ·obtain ⟨_,rfl⟩:=io.1 hrow
       exact ⟨by simpa using c1,fun v hv=>by obtain ⟨y,hy,rfl⟩:=bf.1 hv;exact ⟨Wm (an.1 c2 y hy),b2u y⟩⟩
      ·obtain ⟨_,y,hy,rfl,hjl,hrl⟩:=Qb hcs c1 h0 hi2 hj
       have hlt:i2*d+j<len*d:=by
        have:(i2+1)*d<=len*d:=bg _ hrl
        rw [Nat.add_mul,cK] at this;omega
       have:=IC (z:=zv.cells) hlt om
       show b7 _ _ _ _ ((madeCells zv.cells (len*d)).getD _ undef)
       rw [this,hzs,jd,nw,js hjl]
       simp only [Array.getD_eq_getD_getElem?,hy,dL]
       exact .zc _
     obtain ⟨arr',l,q,s⟩:=V0 h0 (ps.toList.map fun p=>(p.1,a.eval p.2)) rs _ rows arr0 hR0 n (by simp [p1]) (fun j p r hp hr=>by
      rw [b6] at hp
      cases x:ps.toList[j]? with
      |none=>rw [x] at hp;cases hp
      |some p0=>rw [x] at hp;cases hp;exact p2 j p0 r x hr)
     have m:rows.length=len:=by rw [s];simp
     have hnb:hU h (ka bs) new=none:=by rw [(hoth new c4).2];exact hn
     obtain ⟨μ',q1,q2,q3⟩:=Lw H1 (o7 w (.cells arr' e)) (new:=new) hnb (esz:=d) (rows:=rows) (lo:=0) (hi:=0) (cap:=len) (ti w _) (.inl rfl) h0 om (by rw [q.1,m];exact am _) q.2.1 q.2.2
     rw [m] at q3
     refine ⟨_,_,μ',.inl ?_,by rw [uK];exact q1,by rw [uK];exact C1.trans q2,by rw [uK];exact q3⟩
     simp only [execOp,hop,Instr.buildSlice]
     by_cases hz0:len*d=0
     ·have:arr0=(Array.range 0).map ((#[]:Array Value)[· %(#[]:Array Value).size]!):=by
       show (Array.range (len*d)).map _=_
       rw [hz0];apply fL;simp
      rw [this] at l
      simp [run_underlying he,gx hsz,hz0,newRow,p8]
      simp at l
      rw [l]
      rfl
     ·simp [run_underlying he,gx hsz,hz0,Nat.not_lt.2 c3,hzr,newRow,p8]
      have hf2:=l
      simp only [arr0] at hf2
      rw [hf2]
      rfl
    ·cases k
   ·cases k
  ·cases k
 ·cases k
theorem a7o {ps:Array (Nat×Operand)} {x y:Opd} (h:sn ps.toList=some [(0,x),(1,y)]): ∃X Y,ps.toList=[(0,X),(1,Y)]/\bF X=some x/\bF Y=some y:=by
 generalize ps.toList=l at h
 have step: ∀{i:Nat} {z:Opd} {l:List (Nat×Operand)} {r:List (Nat×Opd)},sn l=some ((i,z)::r)-> ∃Z l',l=(i,Z)::l'/\bF Z=some z/\sn l'=some r:=by
  intro i z l r h
  cases l with
  |nil=>simp [sn] at h
  |cons p l=>
   obtain ⟨j,Z⟩:=p
   simp only [sn] at h
   split at h
   ·rename_i a b;cases h;exact ⟨Z,l,rfl,a,b⟩
   ·cases h
 obtain ⟨X,e,rfl,c,h⟩:=step h
 obtain ⟨Y,l2,rfl,d,h⟩:=step h
 cases l2 with
 |nil=>exact ⟨X,Y,rfl,c,d⟩
 |cons p l=>
  obtain ⟨j,Z⟩:=p
  simp only [sn] at h
  split at h<;>cases h
theorem c6P {A:Array Value} (a:A.size=2) (p q:Value):(A.setIfInBounds 0 p).setIfInBounds 1 q= #[p,q]:=by
 apply Array.ext
 ·simp [a]
 ·intro i c b
  have d:i<2:=by simpa using b
  rcases (by omega:i=0\/i=1) with rfl|rfl
  ·simp [a]
  ·simp [a]
theorem EK {v:V} (h:v.cell=true):v.cells=[v]:=by
 cases v<;>first|rfl|cases h
theorem Xl [Frame] (H:bG μ h w) (E:ic μ h w f a) {o:Oper} {t e:TypeId} {ps:Array (Nat×Operand)} {x y:Opd} {z:List Value} (hop:o.op= .buildSlice t 2 ps) (he:P.underlying t=some (.slice e)) (hsz:lj P e=some 1) (hz:Dr P e=some z) (hqs:sn ps.toList=some [(0,x),(1,y)])
 {new:Nat} {v:V} {u:Upd} (m:(if (x.ev f).cell=true/\(y.ev f).cell=true then pc h new ⟨1,true,[[x.ev f],[y.ev f]]⟩ (.sl new 0 2) else none)=some (v,u)):jv P o a μ h w v u:=by
 split at m
 ·rename_i hc
  obtain ⟨c1,c2⟩:=hc
  obtain ⟨hn,h0,hr⟩:=uw m
  cases hr
  obtain ⟨X,Y,hps,hx,hy⟩:=a7o hqs
  have hX:=bX E hx
  have hY:=bX E hy
  obtain ⟨i,zv,hi,hzv,hcs,hzr⟩:=uH hz
  obtain ⟨x1,x2⟩:=hX.cellsRel (by rw [EK c1];simp [c1])
  obtain ⟨y1,y2⟩:=hY.cellsRel (by rw [EK c2];simp [c2])
  rw [EK c1] at x1 x2
  rw [EK c2] at y1 y2
  have rx:=x2 0 _ rfl
  have ry:=y2 0 _ rfl
  let arr:Array Value:= #[(a.eval X).cells.getD 0 undef,(a.eval Y).cells.getD 0 undef]
  have d:=H.new (o7 w (.cells arr e)) (b:=new) (c:=w.heap.size) (k:=⟨1,true,[[x.ev f],[y.ev f]]⟩) (lo:=0) (hi:=0) hn (am _) (ti w _) (.inl rfl) sm (by simp [arr]) (fun row l=>by
   simp only [aW,List.mem_nil_iff,or_false] at l
   rcases l with rfl|rfl
   ·exact ⟨rfl,fun v s=>by simp only [bI] at s;subst s;exact ⟨c1,fun h=>by cases h⟩⟩
   ·exact ⟨rfl,fun v s=>by simp only [bI] at s;subst s;exact ⟨c2,fun h=>by cases h⟩⟩) (fun i row j v hi r=>by
   match i,hi with
   |0,hi=>cases hi;match j,r with
    |0,r=>cases r;exact rx
   |1,hi=>cases hi;match j,r with
    |0,r=>cases r;exact ry)
  refine ⟨.slice (some ⟨w.heap.size,0,none⟩) 2 2,p8 w (.cells arr e),_,.inl ?_,d.1,d.2,.sl new 0 2 _ ⟨1,true,[[x.ev f],[y.ev f]]⟩ (by simp [hU,ci]) (.inr sm) ⟨_,_,rfl⟩ (fun _ _=>⟨_,_,rfl,.inr ⟨w.heap.size,by simp [cM],by simp, ?_,by simp⟩⟩)⟩
  ·simp only [execOp,hop,Instr.buildSlice]
   have e1:(a.eval X).cells= #[(a.eval X).cells.getD 0 undef]:=by
    apply fL
    match n:(a.eval X).cells.toList,x1 with
    |[q],_=>simp [Array.getD_eq_getD_getElem?, <-Array.getElem?_toList,n]
    |[],h=>simp [<-Array.length_toList,n] at h
    |_::_::_,h=>simp [<-Array.length_toList,n] at h
   have e2:(a.eval Y).cells= #[(a.eval Y).cells.getD 0 undef]:=by
    apply fL
    match n:(a.eval Y).cells.toList,y1 with
    |[q],_=>simp [Array.getD_eq_getD_getElem?, <-Array.getElem?_toList,n]
    |[],h=>simp [<-Array.length_toList,n] at h
    |_::_::_,h=>simp [<-Array.length_toList,n] at h
   have hf:Instr.fill (fun i=>some (i*1,1)) ((Array.range (2*1)).map (zv.cells[· %zv.cells.size]!)) (ps.map fun p=>(p.1,a.eval p.2)).toList=some arr:=by
    rw [Array.toList_map,hps]
    simp only [aM,eu,Instr.fill]
    rw [e1,e2]
    have m:((Array.range (2*1)).map (zv.cells[· %zv.cells.size]!)).size=2:=by simp
    generalize (Array.range (2*1)).map (zv.cells[· %zv.cells.size]!)=A at m
    have:=c6P m ((a.eval X).cells.getD 0 undef) ((a.eval Y).cells.getD 0 undef)
    simp only [Array.getD_eq_getD_getElem?] at this
    simp [arr,m,this]
   simp [run_underlying he,gx hsz,hzr,newRow,p8]
   simp only [tR,Array.toList_map] at hf
   rw [hf]
   rfl
  ·simp [bsize,ti,arr]
 ·cases m
end
end Go.AI
