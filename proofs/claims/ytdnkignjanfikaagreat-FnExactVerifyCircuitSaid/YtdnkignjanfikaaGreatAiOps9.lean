/- Part. -/
import Derived.Test.YtdnkignjanfikaaGreatAiOps7
set_option linter.unusedVariables false
set_option linter.unusedSimpArgs false
namespace Go.AI
section
variable {P:Program} {μ:Mu} {h:b8} {w:World} {f:Nat->V} {a:Act}
theorem b0Q [Frame] (H:bB μ h w) (E:gi μ h w f a) {o:Oper} {t e:TypeId} {n:Nat} {x:Operand} {x':Opd} (hop:o.op= .sliceToArrayPointer t x) (hx:bA x=some x')
 (hu:P.underlying t=some (.array n e)) {C:ce} {ow:FuncId->List Nat} {new:Nat} {v:V} {u:Upd} (i:aM C ow (.arrOf n x') (Opd.ev f) h new=some (v,u)):ix P o a μ h w v u:=by
 d hvx:=bM E hx
 simp only [aM] at i
 split at i
 ·rename_i e' rows bs hsn
  split at i
  ·rename_i p
   cases i
   d hdom:=(Tf H hsn hvx (μ':=fun _=>none) h (fun b _=>rfl) (fun b c e=>by cases e)).2.2.2
   obtain ⟨μ1,H1,C1,hk1,hsub,hoth⟩:=b4c bs hdom H
   obtain ⟨q1,q2,q3,_⟩:=Tf H hsn hvx (fW h (iS bs)) hk1 hsub
   by_cases h0:rows=[]
   ·rw [h0] at p;simp at p;omega
   ·generalize hX:a.eval x=X at q1
    cases q1 with
    |emp=>exact absurd rfl h0
    |imm0=>exact absurd rfl h0
    |imm _ _ c off cap ys q z hcp hc i l s hv=>
     refine ⟨.pointer (some ⟨c,off,none⟩),w,μ1,.inl ?_,H1,C1, ?_⟩
     ·simp [execOp,hop,Instr.arrayAt,run_underlying hu,hX,Nat.not_lt.2 p.2]
     ·d hfl: ∀(rs:List (List V)),(∀row∈rs,row.length=e')->rs.flatten.length=rs.length*e'/\ ∀k,rs.flatten[k]? =(rs[k/e']?).bind (fun row=>row[k%e']?):=by
        intro rs
        induction rs with
        |nil=>intro _;exact ⟨by simp,fun k=>by simp⟩
        |cons row rs ih=>
         intro hrs
         obtain ⟨i1,i2⟩:=ih (fun r z=>hrs r (by simp [z]))
         d hl:=hrs row (by simp)
         refine ⟨by simp [i1,hl,Nat.add_mul];omega,fun k=> ?_⟩
         rw [n5]
         by_cases hk:k<e'
         ·rw [bG (by omega),Nat.div_eq_of_lt hk,od hk]
          rfl
         ·rw [bQ (by omega),i2,hl]
          d h1:k/e'=(k-e')/e'+1:=by rw [<-Nat.add_div_right _ q];congr 1;omega
          d h2:k%e'=(k-e')%e':=by rw [<-Nat.add_mod_right (k-e')];congr 1;omega
          rw [h1,h2]
          rfl
      obtain ⟨f1,f2⟩:=hfl rows (fun row z=>(l row z).1)
      d:=aY.iptr (μ:=μ1) (h:=fW h (iS bs)) (w:=w) rows.flatten 0 c off (fun k=>ys (k/e') (k%e')) hc i
       (fun v hv=>by obtain ⟨row,z,hvr⟩:=List.mem_flatten.1 hv;exact (l row z).2 v hvr)
       (fun j m=>by
        rw [f1] at m
        d h1:j/e'<rows.length:=(jU q).2 m
        d:=s (j/e') (j%e') h1 (gq _ q)
        rwa [oA,pk] at this)
       (fun j v m=>by
        rw [f2] at m
        cases y:rows[j/e']? with
        |none=>rw [y] at m;cases m
        |some row=>
         rw [y] at m
         exact hv (j/e') row (j%e') v y m)
      simpa using this
  ·cases i
 ·cases i
theorem b1B [Frame] (H:bB μ h w) (E:gi μ h w f a) {o:Oper} {c:Call} {t e:TypeId} {i:Nat} {x y:Operand} {x' y':Opd} (hop:o.op= .call c) (hca:c.callee= .builtin .copy) (hargs:c.args.toList=[x,y])
 (hx:bA x=some x') (hy:bA y=some y') (ht:c.argTypes[0]? =some t) (he:P.underlying t=some (.slice e)) (hsz:jB P e=some i)
 {C:ce} {ow:FuncId->List Nat} {new:Nat} {v:V} {u:Upd} (hs:aM C ow (.copy i x' y') (Opd.ev f) h new=some (v,u)):ix P o a μ h w v u:=by
 d hvx:=bM E hx
 d hvy:=bM E hy
 d ha:c.args= #[x,y]:=by rw [<-hargs]
 simp only [aM] at hs
 split at hs
 ·rename_i rows b s n hrows hbx
  split at hs
  ·rename_i k hk
   split at hs
   ·rename_i hc
    cases hs
    obtain ⟨c1,c2,c3,c4,c5⟩:=hc
    d h0:0<i:=by omega
    obtain ⟨news,S⟩:=a65 (P:=P) H h0 hrows hvy
    rw [hbx] at hvx
    generalize hX:a.eval x=X at hvx
    cases hvx with
    |sl _ _ _ _ k' hk' hn' hx' hp=>
     rw [hk] at hk';cases hk'
     obtain ⟨ad,cap,rfl,hok⟩:=hp (by omega) c4
     let m:=min rows.length n
     d hmle:m<=rows.length:=Nat.min_le_left _ _
     d hmn:m<=n:=Nat.min_le_right _ _
     d l:=S.first m hmle w rfl
     d p:(news.extract 0 (m*i)).size=m*i:=by
       d:m*i<=rows.length*i:=bi _ hmle
       d hmm:min (m*i) (rows.length*i)=m*i:=gL this
       simp only [Array.size_extract,S.size,oF,hmm]
     d hrun: ∀w',((match ad with|some a=>storeCells a (news.extract 0 (m*i)).toList|none=>pure ():Sem Unit).run P w= .ok () w')->(execOp a.eval o).run P w= .ok (.value (.int .i64 m)) w':=by
       intro w' hst
       d hmin:Nat.min rows.length n=m:=rfl
       cases ad with
       |none=>
        simp only [Sem.run_pure] at hst
        cases hst
        simp only [execOp,hop,resolve,hca,ha,Sem.run_bind,Sem.run_pure,Result.andThen_ok,invoke,builtin,oc,aP,dL,Builtin.copy_,ht,run_underlying he,hX,S.len,fD hsz,hmin,l,goInt]
        simp [ht,run_underlying he,hX,S.len,fD hsz,hmin,l,goInt]
       |some ad=>
        simp only [Array.toList_extract,List.extract_eq_take_drop,oF,fR] at hst
        simp only [execOp,hop,resolve,hca,ha,Sem.run_bind,Sem.run_pure,Result.andThen_ok,invoke,builtin,oc,aP,dL,Builtin.copy_]
        simp [ht,run_underlying he,hX,S.len,fD hsz,hmin,l,goInt,hst]
     d hlit: ∀μ h w,aY μ h w (.lit (.int .i64 (min (rows.length:Int) n))) (.int .i64 (m:Nat)):=by
       intro μ h w
       d:((m:Nat):Int)=min (rows.length:Int) n:=by show ((min rows.length n:Nat):Int)=_;omega
       rw [this]
       exact .lit _
     d z:k.rows.length=(k.rows.take s++(rows.take m++k.rows.drop (s+m))).length:=by simp;omega
     d htake:(rows.take m).length=m:=by simp;omega
     rcases hok with ⟨g1,g2⟩|⟨cb,hcb,rfl,hcap,hnc⟩
     ·d hm0:m=0:=by omega
      d hkk:({ k with rows:=k.rows.take s++(rows.take m++k.rows.drop (s+m)) }:Blk)=k:=by
        d e1:rows.take m=[]:=by rw [hm0];rfl
        d e2:s+m=s:=by rw [hm0];rfl
        rw [e1,e2,bg,oV]
      d hhh:bT h b k=h:=by
        funext b'
        unfold bT
        by_cases e:b'=b
        ·rw [ae e,e,hk]
        ·rw [aa e]
      refine ⟨.int .i64 m,w,μ,.inl (hrun w ?_), ?_, ?_,hlit _ _ _⟩
      ·rw [hm0]
       d:news.extract 0 (0*i)= #[]:=by rw [lF];exact Array.extract_zero
       rw [this]
       cases ad<;>rfl
      ·show bB μ (bT h b _) w;rw [hkk,hhh];exact H
      ·show Chg μ h w μ (bT h b _) w;rw [hkk,hhh];exact Chg.refl _ _ _
     ·rcases H.blk b k hk with ⟨h1,_,hmnn⟩|⟨_,c',arr,tt,lo,hi',hm',hh,hf,hl,hv⟩|⟨h0',_⟩
      ·rw [hcb] at hmnn;cases hmnn
      rotate_left
      ·omega
      ·rw [hcb] at hm';cases hm'
       d hrw:=H.rows b k hk
       d hle:(s+m)*k.esz<=k.rows.length*k.esz:=bi _ (by omega)
       rw [Nat.add_mul] at hle
       obtain ⟨arr',hst,hsz',hval⟩:=mc (P:=P) (o:=s*k.esz) (news.extract 0 (m*i)).toList 0 arr w hh hf.at (by rw [Array.length_toList,p, <-c3];omega)
        (fun v hv=>by
         obtain ⟨q,hq,rfl⟩:=bp hv
         rw [Array.length_toList,p] at hq
         d hqn:q<news.size:=by d:m*i<=rows.length*i:=bi _ hmle
          rw [S.size];omega
         d:=S.one h0 q hqn
         simpa [Array.getD_eq_getD_getElem?,hqn] using this)
       d hlt:=o0 hh
       d hbs:bsize w cb=arr.size:=by unfold bsize;rw [hh]
       d hput:=H.put (w':=gZ w cb arr' tt (lo,hi')) (c:=cb) (k':={ k with rows:=k.rows.take s++(rows.take m++k.rows.drop (s+m)) }) hk c2 (.inl hcb)
         rfl rfl rfl (by rw [vK];exact aw _) (aw _) (fun c' _ hne=>BY hne) (rd hlt) (by rw [hsz'];exact hf) rfl
         (by rw [hsz'];simp only;rw [<-z];exact hl)
         (fun row hrow=>by
          simp only at hrow ⊢
          rcases aX.1 hrow with h1|h1
          ·exact ⟨(hrw row (cq h1)).1 c2,(hrw row (cq h1)).2⟩
          ·rcases aX.1 h1 with r|r
           ·d:=S.row row (cq r)
            exact ⟨by rw [c3];exact this.1,fun v hv=>⟨(this.2 v hv).1,fun _=>(this.2 v hv).2⟩⟩
           ·exact ⟨(hrw row (ca r)).1 c2,(hrw row (ca r)).2⟩)
         (.inr ⟨z.symm,hcb,by rw [hsz',hbs]⟩)
         (fun i2 row2 j v r h3=>by
          simp only at r ⊢
          rw [hval]
          simp only [cQ,Array.length_toList,p]
          d hgs:=wo k.rows (rows.take m) s (by omega) i2
          rw [htake] at hgs
          rw [hgs] at r
          by_cases hin:s<=i2/\i2<s+m
          ·rw [ae hin] at r
           rw [j3,ae (by omega)] at r
           d h4:=yn (fun row hr=>(S.row row hr).1) r h3
           d hjl:j<i:=by d:=cS h3;rw [(S.row _ (an r)).1] at this;exact this
           d h5:i2*i=s*i+(i2-s)*i:=by rw [<-Nat.add_mul];congr 1;omega
           d h6:(i2-s+1)*i<=m*i:=bi _ (by omega)
           rw [Nat.add_mul,cB] at h6
           rw [c3,ae (by omega)]
           d:=S.rel (i2-s) row2 j v r h3
           rw [show i2*i+j-s*i=(i2-s)*i+j by omega]
           d hlt3:(i2-s)*i+j<m*i:=by omega
           d hlt4:(i2-s)*i+j<news.size:=by rw [S.size];exact h4
           simpa [bo,Array.getD_eq_getD_getElem?,hlt3,hlt4] using this
          ·rw [aa hin] at r
           d hjl:j<k.esz:=by d:=cS h3;rw [(hrw _ (an r)).1 c2] at this;exact this
           rw [aa (by
            intro hcon
            rw [c3] at hcon hjl
            apply hin
            constructor
            ·d h7:s*i<(i2+1)*i:=by rw [Nat.add_mul,cB];omega
             d:=dK h7
             omega
            ·d h7:i2*i<(s+m)*i:=by rw [Nat.add_mul];omega
             exact dK h7)]
           exact hv i2 row2 j v r h3)
       exact ⟨.int .i64 m,_,_,.inl (hrun _ hst),hput.1,hput.2,hlit _ _ _⟩
   ·cases hs
  ·cases hs
 ·cases hs
theorem AD [Frame] (H:bB μ h w) (E:gi μ h w f a) {μ':Mu} (h':b8) (e: ∀b c,μ' b=some c->μ b=some c): ∀{ps:List (Nat×Operand)} {qs:List (Nat×Opd)} {rs:List (Nat×V)} {bs:List Nat},oh ps=some qs->
 ew h (Opd.ev f) qs=some (rs,bs)->(∀b∈bs,μ' b=none)->
 rs.length=ps.length/\(∀(j:Nat) (p:Nat×Operand) (r:Nat×V),ps[j]? =some p->rs[j]? =some r->r.1=p.1/\(∀u∈r.2.cells,u.cl=true/\u.cell=true)/\
   (a.eval p.2).cells.size=r.2.cells.length/\ ∀(i:Nat) (u:V),r.2.cells[i]? =some u->aY μ' h' w u ((a.eval p.2).cells.getD i undef))/\ ∀b∈bs, ∃k,h b=some k
 |[],qs,rs,bs,l,m,q=>by
  simp [oh] at l
  subst l
  simp [ew] at m
  obtain ⟨rfl,rfl⟩:=m
  exact ⟨rfl,(fun j p r n=>by simp at n),(fun b d=>by simp at d)⟩
 | (i,x)::ps,qs,rs,bs,l,m,q=>by
   simp only [oh] at l
   split at l
   ·rename_i y r' hy s
    cases l
    simp only [ew] at m
    split at m
    ·rename_i cs bs1 rs2 bs2 h1 h2
     cases m
     obtain ⟨i1,i2,i3⟩:=AD H E h' e s h2 (fun b d=>q b (by simp [d]))
     have o:(y.ev f).cells.all V.cell=true:=by
      rw [aB]
      intro v hv
      exact W2.snaps_cell h1 v hv
     obtain ⟨g1,g2⟩:=(bM E hy).cellsRel o
     obtain ⟨q1,q2,q3,q4⟩:=Hf H h' e (fun j=>(a.eval x).cells.getD j undef) h1 g2 (fun b d=>q b (by simp [d]))
     refine ⟨by simp [i1],fun j p r n t=> ?_,fun b d=> ?_⟩
     ·cases j with
      |zero=>
       simp at n t
       subst n t
       exact ⟨rfl,fun u z=>q3 u z,by show _=cs.length;rw [g1,q1],fun i u z=>q2 i u z⟩
      |succ j=>exact i2 j p r (by simpa using n) (by simpa using t)
     ·rcases aX.1 d with d|d
      ·exact q4 b d
      ·exact i3 b d
    ·cases m
   ·cases l
def Pl [Frame] (μ:Mu) (h:b8) (w:World) (esz:Nat) (rows:List (List V)) (arr:Array Value):Prop:=
 arr.size=rows.length*esz/\(∀row∈rows,row.length=esz/\ ∀v∈row,v.cell=true/\v.cl=true)/\ ∀i row j v,rows[i]? =some row->row[j]? =some v->aY μ h w v (arr.getD (i*esz+j) undef)
theorem VI [Frame] {esz:Nat} (h0:0<esz): ∀(ps:List (Nat×Value)) (rs:List (Nat×V)) (rows rows':List (List V)) (arr:Array Value),Pl μ h w esz rows arr->T7 esz rows rs=some rows'->ps.length=rs.length->
 (∀(j:Nat) (p:Nat×Value) (r:Nat×V),ps[j]? =some p->rs[j]? =some r->r.1=p.1/\(∀u∈r.2.cells,u.cl=true/\u.cell=true)/\p.2.cells.size=r.2.cells.length/\ ∀(i:Nat) (u:V),r.2.cells[i]? =some u->aY μ h w u (p.2.cells.getD i undef))->
 ∃arr',Instr.fill (fun i=>some (i*esz,esz)) arr ps=some arr'/\Pl μ h w esz rows' arr'/\rows'.length=rows.length
 |[],[],rows,rows',arr,n,d,_,_=>by simp [T7] at d;subst d;exact ⟨arr,rfl,n,rfl⟩
 |[],_::_,_,_,_,_,_,o,_=>by simp at o
 |_::_,[],_,_,_,_,_,o,_=>by simp at o
 |p::ps,r::rs,rows,rows',arr,n,d,o,c=>by
  obtain ⟨i,x⟩:=p
  obtain ⟨i',v⟩:=r
  obtain ⟨e1,e2,e3,e4⟩:=c 0 (i,x) (i',v) rfl rfl
  dsimp only at e1 e2 e3 e4
  subst e1
  simp only [T7] at d
  split at d
  ·rename_i f
   obtain ⟨c1,c2,c3⟩:=f
   obtain ⟨a1,a2,a3⟩:=n
   a hle:(i'+1)*esz<=rows.length*esz:=bi _ c2
   rw [Nat.add_mul,cB] at hle
   obtain ⟨s1,s2⟩:=Kf x.cells (i'*esz) arr (by omega)
   a q:Pl μ h w esz (rows.set i' v.cells) (x.cells.zipIdx.foldl (fun cs (p:Value×Nat)=>cs.setIfInBounds (i'*esz+p.2) p.1) arr):=by
     refine ⟨by rw [s1,a1,bf],fun row s=> ?_,fun y row2 j u m z=> ?_⟩
     ·rcases dS s with h4|h4
      ·exact a2 row h4
      ·subst h4;exact ⟨c1,fun u hu=>⟨(e2 u hu).2,(e2 u hu).1⟩⟩
     ·rw [s2]
      rw [fB] at m
      by_cases e:i'=y
      ·subst e
       rw [ae rfl,ae c2] at m
       cases m
       a hj:=cS z
       rw [ae (by omega)]
       a:=e4 j u z
       rwa [show i'*esz+j-i'*esz=j by omega]
      ·rw [aa e] at m
       a hjl:j<esz:=by a:=cS z;rw [(a2 _ (an m)).1] at this;exact this
       rw [aa (by
        intro b
        a hr1:i'*esz<(y+1)*esz:=by rw [Nat.add_mul,cB];omega
        a hr2:y*esz<(i'+1)*esz:=by rw [Nat.add_mul,cB];omega
        a:=dK hr1
        a:=dK hr2
        omega)]
       exact a3 y row2 j u m z
   obtain ⟨arr',k,l,t⟩:=VI h0 ps rs _ rows' _ q d (by simpa using o) (fun j p r hp n=>c (j+1) p r (by simpa using hp) (by simpa using n))
   refine ⟨arr', ?_,l,by rw [t,bf]⟩
   simp only [Instr.fill]
   rw [aa (by
    intro b
    simp only [da,aC,ne_eq,gt_iff_lt] at b
    rcases b with h1|h1<;>omega)]
   exact k
  ·cases d
theorem Fs [Frame] (H:bB μ h w) (E:gi μ h w f a) {o:Oper} {t e:TypeId} {len k:Nat} {z:List Value} {ps:Array (Nat×Operand)} {qs:List (Nat×Opd)} (hop:o.op= .buildSlice t len ps) (he:P.underlying t=some (.slice e)) (hsz:jB P e=some k) (hz:C6 P e=some z) (hqs:oh ps.toList=some qs)
 {C:ce} {ow:FuncId->List Nat} {new:Nat} {v:V} {u:Upd} (l:aM C ow (.buildSlice k z len qs) (Opd.ev f) h new=some (v,u)):ix P o a μ h w v u:=by
 simp only [aM] at l
 split at l
 ·rename_i rs bs hps
  split at l
  ·rename_i rows q
   split at l
   ·rename_i hc
    obtain ⟨c1,c2,c3,c4⟩:=hc
    split at l
    ·rename_i v1 u1 hfr
     cases l
     obtain ⟨hn,h0,hr⟩:=rb hfr
     cases hr
     dsimp only at h0
     obtain ⟨i,zv,hi,hzv,hcs,hzr⟩:=rD hz
     d hdom:=(AD H E (μ':=fun _=>none) h (fun b c e=>by cases e) hqs hps (fun b _=>rfl)).2.2
     obtain ⟨μ1,H1,C1,hk1,hsub,hoth⟩:=b4c bs hdom H
     obtain ⟨p1,p2,_⟩:=AD H E (fW h (iS bs)) hsub hqs hps hk1
     d hzs:zv.cells.size=k:=by rw [<-c1, <-hcs];simp
     let arr0:Array Value:=(Array.range (len*k)).map (zv.cells[· %zv.cells.size]!)
     d hR0:Pl μ1 (fW h (iS bs)) w k (List.replicate len (z.map zc)) arr0:=by
       refine ⟨by simp [arr0],fun row hrow=> ?_,fun i2 row j v hi2 hj=> ?_⟩
       ·obtain ⟨_,rfl⟩:=gr.1 hrow
        exact ⟨by simpa using c1,fun v hv=>by obtain ⟨y,hy,rfl⟩:=bq.1 hv;exact ⟨ZS (aB.1 c2 y hy),b3J y⟩⟩
       ·obtain ⟨_,y,hy,rfl,hjl,hrl⟩:=QK hcs c1 h0 hi2 hj
        d hlt:i2*k+j<len*k:=by
          d:(i2+1)*k<=len*k:=bi _ hrl
          rw [Nat.add_mul,cB] at this;omega
        d:=IN (z:=zv.cells) hlt (by omega)
        show aY _ _ _ _ ((madeCells zv.cells (len*k)).getD _ undef)
        rw [this,hzs,jh,lw,od hjl]
        simp only [Array.getD_eq_getD_getElem?,hy,dq]
        exact .zc _
     obtain ⟨arr',m,s,x⟩:=VI h0 (ps.toList.map fun p=>(p.1,a.eval p.2)) rs _ rows arr0 hR0 q (by simp [p1]) (fun j p r hp hr=>by
      rw [aW] at hp
      cases hpj:ps.toList[j]? with
      |none=>rw [hpj] at hp;cases hp
      |some p0=>rw [hpj] at hp;cases hp;exact p2 j p0 r hpj hr)
     d n:rows.length=len:=by rw [x];simp
     d hnb:fW h (iS bs) new=none:=by rw [(hoth new c4).2];exact hn
     obtain ⟨μ',q1,q2,q3⟩:=L9 H1 (lS w (.cells arr' e)) (new:=new) hnb (esz:=k) (rows:=rows) (lo:=0) (hi:=0) (cap:=len) (pJ w _) (.inl rfl) h0 (by omega) (by rw [s.1,n];exact aw _) s.2.1 s.2.2
     rw [n] at q3
     refine ⟨_,_,μ',.inl ?_,by rw [qZ];exact q1,by rw [qZ];exact C1.trans q2,by rw [qZ];exact q3⟩
     simp only [execOp,hop,Instr.buildSlice]
     by_cases hz0:len*k=0
     ·d:arr0=(Array.range 0).map ((#[]:Array Value)[· %(#[]:Array Value).size]!):=by
       show (Array.range (len*k)).map _=_
       rw [hz0];apply eV;simp
      rw [this] at m
      simp [run_underlying he,fD hsz,hz0,newRow,mK]
      simp at m
      rw [m]
      rfl
     ·simp [run_underlying he,fD hsz,hz0,Nat.not_lt.2 c3,hzr,newRow,mK]
      d hf2:=m
      simp only [arr0] at hf2
      rw [hf2]
      rfl
    ·cases l
   ·cases l
  ·cases l
 ·cases l
theorem b0r {ps:Array (Nat×Operand)} {x y:Opd} (h:oh ps.toList=some [(0,x),(1,y)]): ∃X Y,ps.toList=[(0,X),(1,Y)]/\bA X=some x/\bA Y=some y:=by
 generalize ps.toList=l at h
 a step: ∀{i:Nat} {z:Opd} {l:List (Nat×Operand)} {r:List (Nat×Opd)},oh l=some ((i,z)::r)-> ∃Z l',l=(i,Z)::l'/\bA Z=some z/\oh l'=some r:=by
   intro i z l r h
   cases l with
   |nil=>simp [oh] at h
   |cons p l=>
    obtain ⟨j,Z⟩:=p
    simp only [oh] at h
    split at h
    ·rename_i b c;cases h;exact ⟨Z,l,rfl,b,c⟩
    ·cases h
 obtain ⟨X,f,rfl,d,h⟩:=step h
 obtain ⟨Y,l2,rfl,e,h⟩:=step h
 cases l2 with
 |nil=>exact ⟨X,Y,rfl,d,e⟩
 |cons p l=>
  obtain ⟨j,Z⟩:=p
  simp only [oh] at h
  split at h<;>cases h
theorem c8n {A:Array Value} (a:A.size=2) (p q:Value):(A.setIfInBounds 0 p).setIfInBounds 1 q= #[p,q]:=by
 apply Array.ext
 ·simp [a]
 ·intro i d c
  b e:i<2:=by simpa using c
  rcases (by omega:i=0\/i=1) with rfl|rfl
  ·simp [a]
  ·simp [a]
theorem Ds {v:V} (h:v.cell=true):v.cells=[v]:=by
 cases v<;>first|rfl|cases h
theorem Ze [Frame] (H:bB μ h w) (E:gi μ h w f a) {o:Oper} {t e:TypeId} {ps:Array (Nat×Operand)} {x y:Opd} {z:List Value} (hop:o.op= .buildSlice t 2 ps) (he:P.underlying t=some (.slice e)) (hsz:jB P e=some 1) (hz:C6 P e=some z) (hqs:oh ps.toList=some [(0,x),(1,y)])
 {new:Nat} {v:V} {u:Upd} (n:(if (x.ev f).cell=true/\(y.ev f).cell=true then mJ h new ⟨1,true,[[x.ev f],[y.ev f]]⟩ (.sl new 0 2) else none)=some (v,u)):ix P o a μ h w v u:=by
 split at n
 ·rename_i hc
  obtain ⟨c1,c2⟩:=hc
  obtain ⟨hn,h0,hr⟩:=rb n
  cases hr
  obtain ⟨X,Y,hps,hx,hy⟩:=b0r hqs
  d hX:=bM E hx
  d hY:=bM E hy
  obtain ⟨i,zv,hi,hzv,hcs,hzr⟩:=rD hz
  obtain ⟨x1,x2⟩:=hX.cellsRel (by rw [Ds c1];simp [c1])
  obtain ⟨y1,y2⟩:=hY.cellsRel (by rw [Ds c2];simp [c2])
  rw [Ds c1] at x1 x2
  rw [Ds c2] at y1 y2
  d rx:=x2 0 _ rfl
  d ry:=y2 0 _ rfl
  let arr:Array Value:= #[(a.eval X).cells.getD 0 undef,(a.eval Y).cells.getD 0 undef]
  d l:=H.new (lS w (.cells arr e)) (b:=new) (c:=w.heap.size) (k:=⟨1,true,[[x.ev f],[y.ev f]]⟩) (lo:=0) (hi:=0) hn (aw _) (pJ w _) (.inl rfl) (by simp) (by simp [arr]) (fun row m=>by
    simp only [b9,List.mem_nil_iff,or_false] at m
    rcases m with rfl|rfl
    ·exact ⟨rfl,fun v hv=>by simp only [dV] at hv;subst hv;exact ⟨c1,fun h=>by cases h⟩⟩
    ·exact ⟨rfl,fun v hv=>by simp only [dV] at hv;subst hv;exact ⟨c2,fun h=>by cases h⟩⟩) (fun i row j v hi s=>by
    match i,hi with
    |0,hi=>cases hi;match j,s with
     |0,s=>cases s;exact rx
    |1,hi=>cases hi;match j,s with
     |0,s=>cases s;exact ry)
  refine ⟨.slice (some ⟨w.heap.size,0,none⟩) 2 2,mK w (.cells arr e),_,.inl ?_,l.1,l.2,.sl new 0 2 _ ⟨1,true,[[x.ev f],[y.ev f]]⟩ (by simp [fW,bT]) (.inr (by simp)) ⟨_,_,rfl⟩ (fun _ _=>⟨_,_,rfl,.inr ⟨w.heap.size,by simp [cE],by simp, ?_,by simp⟩⟩)⟩
  ·simp only [execOp,hop,Instr.buildSlice]
   d e1:(a.eval X).cells= #[(a.eval X).cells.getD 0 undef]:=by
     apply eV
     match r:(a.eval X).cells.toList,x1 with
     |[q],_=>simp [Array.getD_eq_getD_getElem?, <-Array.getElem?_toList,r]
     |[],h=>simp [<-Array.length_toList,r] at h
     |_::_::_,h=>simp [<-Array.length_toList,r] at h
   d e2:(a.eval Y).cells= #[(a.eval Y).cells.getD 0 undef]:=by
     apply eV
     match r:(a.eval Y).cells.toList,y1 with
     |[q],_=>simp [Array.getD_eq_getD_getElem?, <-Array.getElem?_toList,r]
     |[],h=>simp [<-Array.length_toList,r] at h
     |_::_::_,h=>simp [<-Array.length_toList,r] at h
   d hf:Instr.fill (fun i=>some (i*1,1)) ((Array.range (2*1)).map (zv.cells[· %zv.cells.size]!)) (ps.map fun p=>(p.1,a.eval p.2)).toList=some arr:=by
     rw [Array.toList_map,hps]
     simp only [aP,dL,Instr.fill]
     rw [e1,e2]
     d n:((Array.range (2*1)).map (zv.cells[· %zv.cells.size]!)).size=2:=by simp
     generalize (Array.range (2*1)).map (zv.cells[· %zv.cells.size]!)=A at n
     d:=c8n n ((a.eval X).cells.getD 0 undef) ((a.eval Y).cells.getD 0 undef)
     simp only [Array.getD_eq_getD_getElem?] at this
     simp [arr,n,this]
   simp [run_underlying he,fD hsz,hzr,newRow,mK]
   simp only [pQ,Array.toList_map] at hf
   rw [hf]
   rfl
  ·simp [bsize,pJ,arr]
 ·cases n
end
end Go.AI
