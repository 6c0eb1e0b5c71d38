/- Part. -/
import Derived.Test.YtdnkignjanfikaaGreatAiOps7
set_option linter.unusedVariables false
set_option linter.unusedSimpArgs false
namespace Go.AI
section
variable {P:Program} {μ:Mu} {h:b8} {w:World} {f:Nat->V} {a:Act}
theorem a9j [Frame] (H:bB μ h w) (E:gg μ h w f a) {o:Oper} {t e:TypeId} {n:Nat} {x:Operand} {x':Opd} (hop:o.op= .sliceToArrayPointer t x) (hx:bA x=some x')
 (hu:P.underlying t=some (.array n e)) {C:ce} {ow:FuncId->List Nat} {new:Nat} {v:V} {u:Upd} (d:aM C ow (.arrOf n x') (Opd.ev f) h new=some (v,u)):ix P o a μ h w v u:=by
 have z:=bM E hx
 simp only [aM] at d
 split at d
 ·rename_i e' rows bs hsn
  split at d
  ·rename_i m
   cases d
   have hdom:=(Qp H hsn z (μ':=fun _=>none) h (fun b _=>rfl) (fun b c e=>by cases e)).2.2.2
   obtain ⟨μ1,H1,C1,hk1,hsub,hoth⟩:=b3F bs hdom H
   obtain ⟨q1,q2,q3,_⟩:=Qp H hsn z (g9 h (iZ bs)) hk1 hsub
   by_cases h0:rows=[]
   ·rw [h0] at m;simp at m;omega
   ·generalize hX:a.eval x=X at q1
    cases q1 with
    |emp=>exact absurd rfl h0
    |imm0=>exact absurd rfl h0
    |imm _ _ c off cap ys p y hcp hc d i q hv=>
     refine ⟨.pointer (some ⟨c,off,none⟩),w,μ1,.inl ?_,H1,C1, ?_⟩
     ·simp [execOp,hop,Instr.arrayAt,run_underlying hu,hX,Nat.not_lt.2 m.2]
     ·have hfl: ∀(rs:List (List V)),(∀row∈rs,row.length=e')->rs.flatten.length=rs.length*e'/\ ∀k,rs.flatten[k]? =(rs[k/e']?).bind (fun row=>row[k%e']?):=by
       intro rs
       induction rs with
       |nil=>intro _;exact ⟨by simp,fun k=>by simp⟩
       |cons row rs ih=>
        intro hrs
        obtain ⟨i1,i2⟩:=ih (fun r y=>hrs r (by simp [y]))
        have hl:=hrs row (by simp)
        refine ⟨by simp [i1,hl,Nat.add_mul];omega,fun k=> ?_⟩
        rw [n5]
        by_cases hk:k<e'
        ·rw [bG (by omega),Nat.div_eq_of_lt hk,o7 hk]
         rfl
        ·rw [bQ (by omega),i2,hl]
         have h1:k/e'=(k-e')/e'+1:=by rw [<-Nat.add_div_right _ p];congr 1;omega
         have h2:k%e'=(k-e')%e':=by rw [<-Nat.add_mod_right (k-e')];congr 1;omega
         rw [h1,h2]
         rfl
      obtain ⟨f1,f2⟩:=hfl rows (fun row y=>(i row y).1)
      have:=aY.iptr (μ:=μ1) (h:=g9 h (iZ bs)) (w:=w) rows.flatten 0 c off (fun k=>ys (k/e') (k%e')) hc d
       (fun v hv=>by obtain ⟨row,y,hvr⟩:=List.mem_flatten.1 hv;exact (i row y).2 v hvr)
       (fun j l=>by
        rw [f1] at l
        have h1:j/e'<rows.length:=(jX p).2 l
        have:=q (j/e') (j%e') h1 (gt _ p)
        rwa [oI,pu] at this)
       (fun j v l=>by
        rw [f2] at l
        cases s:rows[j/e']? with
        |none=>rw [s] at l;cases l
        |some row=>
         rw [s] at l
         exact hv (j/e') row (j%e') v s l)
      simpa using this
  ·cases d
 ·cases d
theorem b5Z [Frame] (H:bB μ h w) (E:gg μ h w f a) {o:Oper} {c:Call} {t e:TypeId} {d:Nat} {x y:Operand} {x' y':Opd} (hop:o.op= .call c) (hca:c.callee= .builtin .copy) (hargs:c.args.toList=[x,y])
 (hx:bA x=some x') (hy:bA y=some y') (ht:c.argTypes[0]? =some t) (he:P.underlying t=some (.slice e)) (hsz:jI P e=some d)
 {C:ce} {ow:FuncId->List Nat} {new:Nat} {v:V} {u:Upd} (hs:aM C ow (.copy d x' y') (Opd.ev f) h new=some (v,u)):ix P o a μ h w v u:=by
 have hvx:=bM E hx
 have hvy:=bM E hy
 have ha:c.args= #[x,y]:=by rw [<-hargs]
 simp only [aM] at hs
 split at hs
 ·rename_i rows b s n hrows hbx
  split at hs
  ·rename_i k hk
   split at hs
   ·rename_i hc
    cases hs
    obtain ⟨c1,c2,c3,c4,c5⟩:=hc
    have h0:0<d:=by omega
    obtain ⟨news,S⟩:=a4U (P:=P) H h0 hrows hvy
    rw [hbx] at hvx
    generalize hX:a.eval x=X at hvx
    cases hvx with
    |sl _ _ _ _ k' hk' hn' hx' hp=>
     rw [hk] at hk';cases hk'
     obtain ⟨ad,cap,rfl,hok⟩:=hp (by omega) c4
     let m:=min rows.length n
     have hmle:m<=rows.length:=Nat.min_le_left _ _
     have hmn:m<=n:=Nat.min_le_right _ _
     have i:=S.first m hmle w rfl
     have l:(news.extract 0 (m*d)).size=m*d:=by
      have:m*d<=rows.length*d:=bj _ hmle
      have hmm:min (m*d) (rows.length*d)=m*d:=gB this
      simp only [Array.size_extract,S.size,oA,hmm]
     have hrun: ∀w',((match ad with|some a=>storeCells a (news.extract 0 (m*d)).toList|none=>pure ():Sem Unit).run P w= .ok () w')->(execOp a.eval o).run P w= .ok (.value (.int .i64 m)) w':=by
      intro w' hst
      have hmin:Nat.min rows.length n=m:=rfl
      cases ad with
      |none=>
       simp only [Sem.run_pure] at hst
       cases hst
       simp only [execOp,hop,resolve,hca,ha,Sem.run_bind,Sem.run_pure,Result.andThen_ok,invoke,builtin,nM,aP,dM,Builtin.copy_,ht,run_underlying he,hX,S.len,fC hsz,hmin,i,goInt]
       simp [ht,run_underlying he,hX,S.len,fC hsz,hmin,i,goInt]
      |some ad=>
       simp only [Array.toList_extract,List.extract_eq_take_drop,oA,fP] at hst
       simp only [execOp,hop,resolve,hca,ha,Sem.run_bind,Sem.run_pure,Result.andThen_ok,invoke,builtin,nM,aP,dM,Builtin.copy_]
       simp [ht,run_underlying he,hX,S.len,fC hsz,hmin,i,goInt,hst]
     have hlit: ∀μ h w,aY μ h w (.lit (.int .i64 (min (rows.length:Int) n))) (.int .i64 (m:Nat)):=by
      intro μ h w
      have:((m:Nat):Int)=min (rows.length:Int) n:=by show ((min rows.length n:Nat):Int)=_;omega
      rw [this]
      exact .lit _
     have r:k.rows.length=(k.rows.take s++(rows.take m++k.rows.drop (s+m))).length:=by simp;omega
     have htake:(rows.take m).length=m:=by simp;omega
     rcases hok with ⟨g1,g2⟩|⟨cb,hcb,rfl,hcap,hnc⟩
     ·have hm0:m=0:=by omega
      have hkk:({ k with rows:=k.rows.take s++(rows.take m++k.rows.drop (s+m)) }:Blk)=k:=by
       have e1:rows.take m=[]:=by rw [hm0];rfl
       have e2:s+m=s:=by rw [hm0];rfl
       rw [e1,e2,bg,oX]
      have hhh:bT h b k=h:=by
       funext b'
       unfold bT
       by_cases e:b'=b
       ·rw [ae e,e,hk]
       ·rw [aa e]
      refine ⟨.int .i64 m,w,μ,.inl (hrun w ?_), ?_, ?_,hlit _ _ _⟩
      ·rw [hm0]
       have:news.extract 0 (0*d)= #[]:=by rw [lJ];exact Array.extract_zero
       rw [this]
       cases ad<;>rfl
      ·show bB μ (bT h b _) w;rw [hkk,hhh];exact H
      ·show Chg μ h w μ (bT h b _) w;rw [hkk,hhh];exact Chg.refl _ _ _
     ·rcases H.blk b k hk with ⟨h1,_,hmnn⟩|⟨_,c',arr,tt,lo,hi',hm',hh,hf,hl,hv⟩|⟨h0',_⟩
      ·rw [hcb] at hmnn;cases hmnn
      rotate_left
      ·omega
      ·rw [hcb] at hm';cases hm'
       have hrw:=H.rows b k hk
       have hle:(s+m)*k.esz<=k.rows.length*k.esz:=bj _ (by omega)
       rw [Nat.add_mul] at hle
       obtain ⟨arr',hst,hsz',hval⟩:=mg (P:=P) (o:=s*k.esz) (news.extract 0 (m*d)).toList 0 arr w hh hf.at (by rw [Array.length_toList,l, <-c3];omega)
        (fun v hv=>by
         obtain ⟨q,hq,rfl⟩:=bp hv
         rw [Array.length_toList,l] at hq
         have hqn:q<news.size:=by have:m*d<=rows.length*d:=bj _ hmle
                                  rw [S.size];omega
         have:=S.one h0 q hqn
         simpa [Array.getD_eq_getD_getElem?,hqn] using this)
       have hlt:=o4 hh
       have hbs:bsize w cb=arr.size:=by unfold bsize;rw [hh]
       have hput:=H.put (w':=gY w cb arr' tt (lo,hi')) (c:=cb) (k':={ k with rows:=k.rows.take s++(rows.take m++k.rows.drop (s+m)) }) hk c2 (.inl hcb)
        rfl rfl rfl (by rw [vn];exact aw _) (aw _) (fun c' _ hne=>C5 hne) (rk hlt) (by rw [hsz'];exact hf) rfl
        (by rw [hsz'];simp only;rw [<-r];exact hl)
        (fun row hrow=>by
         simp only at hrow ⊢
         rcases aX.1 hrow with h1|h1
         ·exact ⟨(hrw row (cq h1)).1 c2,(hrw row (cq h1)).2⟩
         ·rcases aX.1 h1 with p|p
          ·have:=S.row row (cq p)
           exact ⟨by rw [c3];exact this.1,fun v hv=>⟨(this.2 v hv).1,fun _=>(this.2 v hv).2⟩⟩
          ·exact ⟨(hrw row (bZ p)).1 c2,(hrw row (bZ p)).2⟩)
        (.inr ⟨r.symm,hcb,by rw [hsz',hbs]⟩)
        (fun z row2 j v p h3=>by
         simp only at p ⊢
         rw [hval]
         simp only [cQ,Array.length_toList,l]
         have hgs:=wv k.rows (rows.take m) s (by omega) z
         rw [htake] at hgs
         rw [hgs] at p
         by_cases hin:s<=z/\z<s+m
         ·rw [ae hin] at p
          rw [j6,ae (by omega)] at p
          have h4:=yO (fun row hr=>(S.row row hr).1) p h3
          have hjl:j<d:=by have:=cS h3;rw [(S.row _ (an p)).1] at this;exact this
          have h5:z*d=s*d+(z-s)*d:=by rw [<-Nat.add_mul];congr 1;omega
          have h6:(z-s+1)*d<=m*d:=bj _ (by omega)
          rw [Nat.add_mul,cB] at h6
          rw [c3,ae (by omega)]
          have:=S.rel (z-s) row2 j v p h3
          rw [show z*d+j-s*d=(z-s)*d+j by omega]
          have hlt3:(z-s)*d+j<m*d:=by omega
          have hlt4:(z-s)*d+j<news.size:=by rw [S.size];exact h4
          simpa [bo,Array.getD_eq_getD_getElem?,hlt3,hlt4] using this
         ·rw [aa hin] at p
          have hjl:j<k.esz:=by have:=cS h3;rw [(hrw _ (an p)).1 c2] at this;exact this
          rw [aa (by
           intro hcon
           rw [c3] at hcon hjl
           apply hin
           constructor
           ·have h7:s*d<(z+1)*d:=by rw [Nat.add_mul,cB];omega
            have:=dJ h7
            omega
           ·have h7:z*d<(s+m)*d:=by rw [Nat.add_mul];omega
            exact dJ h7)]
          exact hv z row2 j v p h3)
       exact ⟨.int .i64 m,_,_,.inl (hrun _ hst),hput.1,hput.2,hlit _ _ _⟩
   ·cases hs
  ·cases hs
 ·cases hs
theorem AH [Frame] (H:bB μ h w) (E:gg μ h w f a) {μ':Mu} (h':b8) (e: ∀b c,μ' b=some c->μ b=some c): ∀{ps:List (Nat×Operand)} {qs:List (Nat×Opd)} {rs:List (Nat×V)} {bs:List Nat},oG ps=some qs->
 eo h (Opd.ev f) qs=some (rs,bs)->(∀b∈bs,μ' b=none)->
 rs.length=ps.length/\(∀(j:Nat) (p:Nat×Operand) (r:Nat×V),ps[j]? =some p->rs[j]? =some r->r.1=p.1/\(∀u∈r.2.cells,u.cl=true/\u.cell=true)/\
   (a.eval p.2).cells.size=r.2.cells.length/\ ∀(i:Nat) (u:V),r.2.cells[i]? =some u->aY μ' h' w u ((a.eval p.2).cells.getD i undef))/\ ∀b∈bs, ∃k,h b=some k
 |[],qs,rs,bs,l,m,q=>by
  simp [oG] at l
  subst l
  simp [eo] at m
  obtain ⟨rfl,rfl⟩:=m
  exact ⟨rfl,(fun j p r n=>by simp at n),(fun b d=>by simp at d)⟩
 | (i,x)::ps,qs,rs,bs,l,m,q=>by
   simp only [oG] at l
   split at l
   ·rename_i y r' hy s
    cases l
    simp only [eo] at m
    split at m
    ·rename_i cs bs1 rs2 bs2 h1 h2
     cases m
     obtain ⟨i1,i2,i3⟩:=AH H E h' e s h2 (fun b d=>q b (by simp [d]))
     have o:(y.ev f).cells.all V.cell=true:=by
      rw [aB]
      intro v hv
      exact VX.snaps_cell h1 v hv
     obtain ⟨g1,g2⟩:=(bM E hy).cellsRel o
     obtain ⟨q1,q2,q3,q4⟩:=Hn H h' e (fun j=>(a.eval x).cells.getD j undef) h1 g2 (fun b d=>q b (by simp [d]))
     refine ⟨by simp [i1],fun j p r n t=> ?_,fun b d=> ?_⟩
     ·cases j with
      |zero=>
       simp at n t
       subst n t
       exact ⟨rfl,fun u z=>q3 u z,by show _=cs.length;rw [g1,q1],fun i u z=>q2 i u z⟩
      |succ j=>exact i2 j p r (by simpa using n) (by simpa using t)
     ·rcases aX.1 d with d|d
      ·exact q4 b d
      ·exact i3 b d
    ·cases m
   ·cases l
def Pf [Frame] (μ:Mu) (h:b8) (w:World) (esz:Nat) (rows:List (List V)) (arr:Array Value):Prop:=
 arr.size=rows.length*esz/\(∀row∈rows,row.length=esz/\ ∀v∈row,v.cell=true/\v.cl=true)/\ ∀i row j v,rows[i]? =some row->row[j]? =some v->aY μ h w v (arr.getD (i*esz+j) undef)
theorem VN [Frame] {esz:Nat} (h0:0<esz): ∀(ps:List (Nat×Value)) (rs:List (Nat×V)) (rows rows':List (List V)) (arr:Array Value),Pf μ h w esz rows arr->PV esz rows rs=some rows'->ps.length=rs.length->
 (∀(j:Nat) (p:Nat×Value) (r:Nat×V),ps[j]? =some p->rs[j]? =some r->r.1=p.1/\(∀u∈r.2.cells,u.cl=true/\u.cell=true)/\p.2.cells.size=r.2.cells.length/\ ∀(i:Nat) (u:V),r.2.cells[i]? =some u->aY μ h w u (p.2.cells.getD i undef))->
 ∃arr',Instr.fill (fun i=>some (i*esz,esz)) arr ps=some arr'/\Pf μ h w esz rows' arr'/\rows'.length=rows.length
 |[],[],rows,rows',arr,m,c,_,_=>by simp [PV] at c;subst c;exact ⟨arr,rfl,m,rfl⟩
 |[],_::_,_,_,_,_,_,n,_=>by simp at n
 |_::_,[],_,_,_,_,_,n,_=>by simp at n
 |p::ps,r::rs,rows,rows',arr,m,c,n,b=>by
  obtain ⟨i,x⟩:=p
  obtain ⟨i',v⟩:=r
  obtain ⟨e1,e2,e3,e4⟩:=b 0 (i,x) (i',v) rfl rfl
  dsimp only at e1 e2 e3 e4
  subst e1
  simp only [PV] at c
  split at c
  ·rename_i d
   obtain ⟨c1,c2,c3⟩:=d
   obtain ⟨a1,a2,a3⟩:=m
   have z:(i'+1)*esz<=rows.length*esz:=bj _ c2
   rw [Nat.add_mul,cB] at z
   obtain ⟨s1,s2⟩:=K7 x.cells (i'*esz) arr (by omega)
   have o:Pf μ h w esz (rows.set i' v.cells) (x.cells.zipIdx.foldl (fun cs (p:Value×Nat)=>cs.setIfInBounds (i'*esz+p.2) p.1) arr):=by
    refine ⟨by rw [s1,a1,bf],fun row q=> ?_,fun t row2 j u l y=> ?_⟩
    ·rcases dS q with h4|h4
     ·exact a2 row h4
     ·subst h4;exact ⟨c1,fun u hu=>⟨(e2 u hu).2,(e2 u hu).1⟩⟩
    ·rw [s2]
     rw [fA] at l
     by_cases e:i'=t
     ·subst e
      rw [ae rfl,ae c2] at l
      cases l
      have hj:=cS y
      rw [ae (by omega)]
      have:=e4 j u y
      rwa [show i'*esz+j-i'*esz=j by omega]
     ·rw [aa e] at l
      have hjl:j<esz:=by have:=cS y;rw [(a2 _ (an l)).1] at this;exact this
      rw [aa (by
       intro a
       have hr1:i'*esz<(t+1)*esz:=by rw [Nat.add_mul,cB];omega
       have hr2:t*esz<(i'+1)*esz:=by rw [Nat.add_mul,cB];omega
       have:=dJ hr1
       have:=dJ hr2
       omega)]
      exact a3 t row2 j u l y
   obtain ⟨arr',f,k,s⟩:=VN h0 ps rs _ rows' _ o c (by simpa using n) (fun j p r hp m=>b (j+1) p r (by simpa using hp) (by simpa using m))
   refine ⟨arr', ?_,k,by rw [s,bf]⟩
   simp only [Instr.fill]
   rw [aa (by
    intro a
    simp only [cY,aC,ne_eq,gt_iff_lt] at a
    rcases a with h1|h1<;>omega)]
   exact f
  ·cases c
theorem G8 [Frame] (H:bB μ h w) (E:gg μ h w f a) {o:Oper} {t e:TypeId} {len d:Nat} {z:List Value} {ps:Array (Nat×Operand)} {qs:List (Nat×Opd)} (hop:o.op= .buildSlice t len ps) (he:P.underlying t=some (.slice e)) (hsz:jI P e=some d) (hz:Bk P e=some z) (hqs:oG ps.toList=some qs)
 {C:ce} {ow:FuncId->List Nat} {new:Nat} {v:V} {u:Upd} (k:aM C ow (.buildSlice d z len qs) (Opd.ev f) h new=some (v,u)):ix P o a μ h w v u:=by
 simp only [aM] at k
 split at k
 ·rename_i rs bs hps
  split at k
  ·rename_i rows n
   split at k
   ·rename_i hc
    obtain ⟨c1,c2,c3,c4⟩:=hc
    split at k
    ·rename_i v1 u1 hfr
     cases k
     obtain ⟨hn,h0,hr⟩:=ru hfr
     cases hr
     dsimp only at h0
     obtain ⟨i,zv,hi,hzv,hcs,hzr⟩:=rC hz
     have hdom:=(AH H E (μ':=fun _=>none) h (fun b c e=>by cases e) hqs hps (fun b _=>rfl)).2.2
     obtain ⟨μ1,H1,C1,hk1,hsub,hoth⟩:=b3F bs hdom H
     obtain ⟨p1,p2,_⟩:=AH H E (g9 h (iZ bs)) hsub hqs hps hk1
     have hzs:zv.cells.size=d:=by rw [<-c1, <-hcs];simp
     let arr0:Array Value:=(Array.range (len*d)).map (zv.cells[· %zv.cells.size]!)
     have hR0:Pf μ1 (g9 h (iZ bs)) w d (List.replicate len (z.map zc)) arr0:=by
      refine ⟨by simp [arr0],fun row hrow=> ?_,fun i2 row j v hi2 hj=> ?_⟩
      ·obtain ⟨_,rfl⟩:=gu.1 hrow
       exact ⟨by simpa using c1,fun v hv=>by obtain ⟨y,hy,rfl⟩:=bq.1 hv;exact ⟨Xq (aB.1 c2 y hy),b1I y⟩⟩
      ·obtain ⟨_,y,hy,rfl,hjl,hrl⟩:=QF hcs c1 h0 hi2 hj
       have hlt:i2*d+j<len*d:=by
        have:(i2+1)*d<=len*d:=bj _ hrl
        rw [Nat.add_mul,cB] at this;omega
       have:=IZ (z:=zv.cells) hlt (by omega)
       show aY _ _ _ _ ((madeCells zv.cells (len*d)).getD _ undef)
       rw [this,hzs,jk,lK,o7 hjl]
       simp only [Array.getD_eq_getD_getElem?,hy,dq]
       exact .zc _
     obtain ⟨arr',l,q,s⟩:=VN h0 (ps.toList.map fun p=>(p.1,a.eval p.2)) rs _ rows arr0 hR0 n (by simp [p1]) (fun j p r hp hr=>by
      rw [aW] at hp
      cases x:ps.toList[j]? with
      |none=>rw [x] at hp;cases hp
      |some p0=>rw [x] at hp;cases hp;exact p2 j p0 r x hr)
     have m:rows.length=len:=by rw [s];simp
     have hnb:g9 h (iZ bs) new=none:=by rw [(hoth new c4).2];exact hn
     obtain ⟨μ',q1,q2,q3⟩:=KF H1 (lZ w (.cells arr' e)) (new:=new) hnb (esz:=d) (rows:=rows) (lo:=0) (hi:=0) (cap:=len) (pE w _) (.inl rfl) h0 (by omega) (by rw [q.1,m];exact aw _) q.2.1 q.2.2
     rw [m] at q3
     refine ⟨_,_,μ',.inl ?_,by rw [rq];exact q1,by rw [rq];exact C1.trans q2,by rw [rq];exact q3⟩
     simp only [execOp,hop,Instr.buildSlice]
     by_cases hz0:len*d=0
     ·have:arr0=(Array.range 0).map ((#[]:Array Value)[· %(#[]:Array Value).size]!):=by
       show (Array.range (len*d)).map _=_
       rw [hz0];apply eD;simp
      rw [this] at l
      simp [run_underlying he,fC hsz,hz0,newRow,mw]
      simp at l
      rw [l]
      rfl
     ·simp [run_underlying he,fC hsz,hz0,Nat.not_lt.2 c3,hzr,newRow,mw]
      have hf2:=l
      simp only [arr0] at hf2
      rw [hf2]
      rfl
    ·cases k
   ·cases k
  ·cases k
 ·cases k
theorem a9s {ps:Array (Nat×Operand)} {x y:Opd} (h:oG ps.toList=some [(0,x),(1,y)]): ∃X Y,ps.toList=[(0,X),(1,Y)]/\bA X=some x/\bA Y=some y:=by
 generalize ps.toList=l at h
 have step: ∀{i:Nat} {z:Opd} {l:List (Nat×Operand)} {r:List (Nat×Opd)},oG l=some ((i,z)::r)-> ∃Z l',l=(i,Z)::l'/\bA Z=some z/\oG l'=some r:=by
  intro i z l r h
  cases l with
  |nil=>simp [oG] at h
  |cons p l=>
   obtain ⟨j,Z⟩:=p
   simp only [oG] at h
   split at h
   ·rename_i a b;cases h;exact ⟨Z,l,rfl,a,b⟩
   ·cases h
 obtain ⟨X,e,rfl,c,h⟩:=step h
 obtain ⟨Y,l2,rfl,d,h⟩:=step h
 cases l2 with
 |nil=>exact ⟨X,Y,rfl,c,d⟩
 |cons p l=>
  obtain ⟨j,Z⟩:=p
  simp only [oG] at h
  split at h<;>cases h
theorem c8H {A:Array Value} (a:A.size=2) (p q:Value):(A.setIfInBounds 0 p).setIfInBounds 1 q= #[p,q]:=by
 apply Array.ext
 ·simp [a]
 ·intro i c b
  have d:i<2:=by simpa using b
  rcases (by omega:i=0\/i=1) with rfl|rfl
  ·simp [a]
  ·simp [a]
theorem D5 {v:V} (h:v.cell=true):v.cells=[v]:=by
 cases v<;>first|rfl|cases h
theorem YV [Frame] (H:bB μ h w) (E:gg μ h w f a) {o:Oper} {t e:TypeId} {ps:Array (Nat×Operand)} {x y:Opd} {z:List Value} (hop:o.op= .buildSlice t 2 ps) (he:P.underlying t=some (.slice e)) (hsz:jI P e=some 1) (hz:Bk P e=some z) (hqs:oG ps.toList=some [(0,x),(1,y)])
 {new:Nat} {v:V} {u:Upd} (m:(if (x.ev f).cell=true/\(y.ev f).cell=true then mK h new ⟨1,true,[[x.ev f],[y.ev f]]⟩ (.sl new 0 2) else none)=some (v,u)):ix P o a μ h w v u:=by
 split at m
 ·rename_i hc
  obtain ⟨c1,c2⟩:=hc
  obtain ⟨hn,h0,hr⟩:=ru m
  cases hr
  obtain ⟨X,Y,hps,hx,hy⟩:=a9s hqs
  have hX:=bM E hx
  have hY:=bM E hy
  obtain ⟨i,zv,hi,hzv,hcs,hzr⟩:=rC hz
  obtain ⟨x1,x2⟩:=hX.cellsRel (by rw [D5 c1];simp [c1])
  obtain ⟨y1,y2⟩:=hY.cellsRel (by rw [D5 c2];simp [c2])
  rw [D5 c1] at x1 x2
  rw [D5 c2] at y1 y2
  have rx:=x2 0 _ rfl
  have ry:=y2 0 _ rfl
  let arr:Array Value:= #[(a.eval X).cells.getD 0 undef,(a.eval Y).cells.getD 0 undef]
  have d:=H.new (lZ w (.cells arr e)) (b:=new) (c:=w.heap.size) (k:=⟨1,true,[[x.ev f],[y.ev f]]⟩) (lo:=0) (hi:=0) hn (aw _) (pE w _) (.inl rfl) (by simp) (by simp [arr]) (fun row l=>by
   simp only [b9,List.mem_nil_iff,or_false] at l
   rcases l with rfl|rfl
   ·exact ⟨rfl,fun v s=>by simp only [dV] at s;subst s;exact ⟨c1,fun h=>by cases h⟩⟩
   ·exact ⟨rfl,fun v s=>by simp only [dV] at s;subst s;exact ⟨c2,fun h=>by cases h⟩⟩) (fun i row j v hi r=>by
   match i,hi with
   |0,hi=>cases hi;match j,r with
    |0,r=>cases r;exact rx
   |1,hi=>cases hi;match j,r with
    |0,r=>cases r;exact ry)
  refine ⟨.slice (some ⟨w.heap.size,0,none⟩) 2 2,mw w (.cells arr e),_,.inl ?_,d.1,d.2,.sl new 0 2 _ ⟨1,true,[[x.ev f],[y.ev f]]⟩ (by simp [g9,bT]) (.inr (by simp)) ⟨_,_,rfl⟩ (fun _ _=>⟨_,_,rfl,.inr ⟨w.heap.size,by simp [cE],by simp, ?_,by simp⟩⟩)⟩
  ·simp only [execOp,hop,Instr.buildSlice]
   have e1:(a.eval X).cells= #[(a.eval X).cells.getD 0 undef]:=by
    apply eD
    match n:(a.eval X).cells.toList,x1 with
    |[q],_=>simp [Array.getD_eq_getD_getElem?, <-Array.getElem?_toList,n]
    |[],h=>simp [<-Array.length_toList,n] at h
    |_::_::_,h=>simp [<-Array.length_toList,n] at h
   have e2:(a.eval Y).cells= #[(a.eval Y).cells.getD 0 undef]:=by
    apply eD
    match n:(a.eval Y).cells.toList,y1 with
    |[q],_=>simp [Array.getD_eq_getD_getElem?, <-Array.getElem?_toList,n]
    |[],h=>simp [<-Array.length_toList,n] at h
    |_::_::_,h=>simp [<-Array.length_toList,n] at h
   have hf:Instr.fill (fun i=>some (i*1,1)) ((Array.range (2*1)).map (zv.cells[· %zv.cells.size]!)) (ps.map fun p=>(p.1,a.eval p.2)).toList=some arr:=by
    rw [Array.toList_map,hps]
    simp only [aP,dM,Instr.fill]
    rw [e1,e2]
    have m:((Array.range (2*1)).map (zv.cells[· %zv.cells.size]!)).size=2:=by simp
    generalize (Array.range (2*1)).map (zv.cells[· %zv.cells.size]!)=A at m
    have:=c8H m ((a.eval X).cells.getD 0 undef) ((a.eval Y).cells.getD 0 undef)
    simp only [Array.getD_eq_getD_getElem?] at this
    simp [arr,m,this]
   simp [run_underlying he,fC hsz,hzr,newRow,mw]
   simp only [pT,Array.toList_map] at hf
   rw [hf]
   rfl
  ·simp [bsize,pE,arr]
 ·cases m
end
end Go.AI
