/- Part. -/
import Derived.Test.YtdnkignjanfikaaGreatAiOps6
set_option linter.unusedVariables false
set_option linter.unusedSimpArgs false
namespace Go.AI
section
section
variable {P:Program} {μ:Mu} {h:b8} {w:World} {f:Nat->V} {a:Act}
theorem b0f {w w':World} (a:w'.heap=w.heap) (ad:Addr):w'.cell? ad=w.cell? ad:=by simp [World.cell?,a]
structure Src [Frame] (P:Program) (μ:Mu) (h:b8) (w:World) (esz:Nat) (rows:List (List V)) (x:Value) (news:Array Value):Prop where
 len: ∀w',(Builtin.lenOf x).run P w'= .ok rows.length w'
 first: ∀m,m<=rows.length-> ∀w',w'.heap=w.heap->(Builtin.firstCells esz m x).run P w'= .ok (news.extract 0 (m*esz)) w'
 size:news.size=rows.length*esz
 rel: ∀i row j v,rows[i]? =some row->row[j]? =some v->aY μ h w v (news.getD (i*esz+j) undef)
 row: ∀row∈rows,row.length=esz/\ ∀v∈row,v.cell=true/\v.cl=true
theorem Src.one [Frame] {esz:Nat} {rows:List (List V)} {x:Value} {news:Array Value} (S:Src P μ h w esz rows x news) (h0:0<esz): ∀k,k<news.size->ci (news.getD k undef)=true:=by
 intro k b
 rw [S.size] at b
 have hi:k/esz<rows.length:=(jX h0).2 b
 have e:=gt k h0
 have a:=aZ hi
 have c:=(S.row _ a).1
 have d:=S.rel (k/esz) rows[k/esz] (k%esz) (rows[k/esz][k%esz]'(by omega)) (aq hi) (aq (by omega))
 rw [oI,pu] at d
 exact d.oneCell ((S.row _ a).2 _ (aZ _)).1
theorem N5 {α:Type} (x:Array α) (n:Nat) (h:x.size<=n):x.extract 0 n=x:=by
 apply eD
 simp [ca,h]
theorem a4U [Frame] (H:bB μ h w) {v:V} {x:Value} {esz:Nat} {rows:List (List V)} (h0:0<esz) (q:ed h esz v=some rows) (l:aY μ h w v x): ∃news,Src P μ h w esz rows x news:=by
 by_cases hs: ∃s,x= .string s
 ·obtain ⟨s,rfl⟩:=hs
  rcases a7o l with u|u
  ·subst u
   simp only [ed] at q
   split at q
   ·rename_i z
    subst z
    cases q
    refine ⟨s.data.map fun b=> .int .u8 b.toNat,fun w'=>by simp [Builtin.lenOf],fun m t w' n=> ?_,by simp,fun i row j v hi d=> ?_,fun row a=> ?_⟩
    ·simp only [Builtin.firstCells,Sem.run_pure]
     congr 1
     apply eD
     simp [ByteArray.extract,ByteArray.copySlice]
    ·rw [aW] at hi
     cases o:s.data.toList[i]? with
     |none=>rw [o] at hi;cases hi
     |some y=>
      rw [o] at hi;cases hi
      cases j with
      |zero=>
       simp at d;subst d
       simp only [pT,cQ,Array.getD_eq_getD_getElem?,a2z s i y o,dq]
       exact .lit _
      |succ j=>simp at d
    ·obtain ⟨y,r,rfl⟩:=bq.1 a
     exact ⟨rfl,fun v l=>by simp at l;subst l;exact ⟨rfl,rfl⟩⟩
   ·cases q
  ·subst u;simp [ed] at q
 ·obtain ⟨ad,cap,hX,hat⟩:=LK H h0 q l (fun s e=>hs ⟨s,e⟩)
  subst hX
  rcases hat with rfl|⟨c,off,rfl,R,_,_⟩
  ·refine ⟨#[],fun w'=>by simp [Builtin.lenOf],fun m t w' n=> ?_,by simp,fun i row j v hi=>by simp at hi,fun row a=>by simp at a⟩
   have:m=0:=by simpa using t
   subst this
   cases ad with
   |none=>simp [Builtin.firstCells]
   |some ad=>simp [Builtin.firstCells,loadCells,loadCellsFrom]
  ·let fn:Nat->Value:=fun k=>(w.cell? ⟨c,off+k,none⟩).getD undef
   have p: ∀k,k<rows.length*esz->w.cell? ⟨c,off+k,none⟩=some (fn k):=by
    intro k hk
    have hi:k/esz<rows.length:=(jX h0).2 hk
    have d:=gt k h0
    have hlen:=(R.row _ (aZ hi)).1
    obtain ⟨y,r,_⟩:=R.cell (k/esz) rows[k/esz] (k%esz) (rows[k/esz][k%esz]'(by omega)) (aq hi) (aq (by omega))
    rw [oI,pu] at r
    show _=some ((w.cell? ⟨c,off+k,none⟩).getD undef)
    rw [r];rfl
   refine ⟨(Array.range (rows.length*esz)).map fn,fun w'=>by simp [Builtin.lenOf],fun m t w' n=> ?_,by simp,fun i row j v hi d=> ?_,R.row⟩
   ·have hle:m*esz<=rows.length*esz:=bj _ t
    simp only [Builtin.firstCells]
    rw [si (w:=w') (f:=fn) (fun j d=>by rw [b0f n];exact p j (by omega))]
    congr 1
    apply eD
    simp [<-List.map_take,List.take_range,gB hle]
   ·obtain ⟨y,r,l⟩:=R.cell i row j v hi d
    have hlt:i*esz+j<rows.length*esz:=by
     have hil:=cS hi
     have hjl:=cS d
     rw [(R.row _ (an hi)).1] at hjl
     have:(i+1)*esz<=rows.length*esz:=bj _ hil
     rw [Nat.add_mul,cB] at this
     omega
    have z:fn (i*esz+j)=y:=by
     show (w.cell? ⟨c,off+(i*esz+j),none⟩).getD undef=y
     rw [r];rfl
    simp [hlt,z]
    exact l
set_option maxHeartbeats 4000000 in
theorem a2j {t u e ty:TypeId} {d:TypeDesc} {i:TypeInfo} {z:Value} {base:Option Addr} {sLen sCap m:Nat} {x:Value} {news old:Array Value} (l:P.underlying t=some (.slice e)) (n:P.underlying u=some d) (o: ∀k,d≠ .int k)
 (hi:P.info? e=some i) (p:i.zero=some z) (a: ∀w',(Builtin.lenOf x).run P w'= .ok m w') (b: ∀w',w'.heap=w.heap->(Builtin.firstCells i.size m x).run P w'= .ok news w')
 (c: ∀w',w'.heap=w.heap->(Builtin.firstCells i.size sLen (.slice base sLen sCap)).run P w'= .ok old w') (h:sCap<sLen+m) (q:(sLen+m)*i.bytes<=140737488355328) (r:sLen+m<=9223372036854775807):
 ∃nc,sLen+m<=nc/\(Builtin.append_ #[t,u] ty #[.slice base sLen sCap,x]).run P w=
  .ok (.slice (some ⟨w.heap.size,0,none⟩) (sLen+m) nc) (mw { w with drawn:=w.drawn+1 } (.cells (old++news++Builtin.zeroCells z.cells (nc-(sLen+m))) e)):=by
 refine ⟨(Question.appendCap (sLen+m) sCap e).cut (w.tape w.drawn (.appendCap (sLen+m) sCap e)),by simp only [Question.cut];omega, ?_⟩
 have j:=growslice_fits (need:=sLen+m) (old:=sCap) (bytes:=i.bytes) (by omega) q
 have hforced:(Question.appendCap (sLen+m) sCap e).forced=false:=rfl
 have s: ¬sLen+m<=sCap:=by omega
 have v: ¬(281474976710656<Builtin.nextslicecap (sLen+m) sCap*i.bytes):=by omega
 have y: ¬(9223372036854775807<(sLen:Int)+(m:Int)):=by omega
 have f:IntKind.i64.max=9223372036854775807:=rfl
 have ho:=c w.drew rfl
 have hn:=b w.drew rfl
 cases d<;>first
  | (exfalso;exact o _ rfl)
  | (simp [Builtin.append_,run_underlying l,run_underlying n,sizeOf,typeInfo,hi,a,s,v,y,hforced,f,ho,hn,zeroValue,p,newRow];rfl)
theorem Pc {x y:Array Value} (k:Nat):(x++y).getD k undef=if k<x.size then x.getD k undef else y.getD (k-x.size) undef:=by
 rw [Array.getD_eq_getD_getElem?,Array.getD_eq_getD_getElem?,Array.getD_eq_getD_getElem?,oW]
 split<;>rfl
set_option maxHeartbeats 4000000 in
theorem a0I {t u e ty:TypeId} {d:TypeDesc} {i:TypeInfo} {base:Option Addr} {sLen sCap m:Nat} {x:Value} {news:Array Value} (h:P.underlying t=some (.slice e)) (j:P.underlying u=some d) (l: ∀k,d≠ .int k)
 (hi:P.info? e=some i) (c:(Builtin.lenOf x).run P w= .ok m w) (f:(Builtin.firstCells i.size m x).run P w= .ok news w) (b:sLen+m<=sCap):
 (Builtin.append_ #[t,u] ty #[.slice base sLen sCap,x]).run P w=
  ((match base with|some a=>storeCells (a.add (sLen*i.size)) news.toList|none=>pure ():Sem Unit).run P w).andThen fun _ w'=> .ok (.slice base (sLen+m) sCap) w':=by
 cases d<;>first
  | (exfalso;exact l _ rfl)
  | (cases base<;>simp [Builtin.append_,run_underlying h,run_underlying j,sizeOf,typeInfo,hi,c,b,f])
theorem yO [Frame] {rows:List (List V)} {esz i j:Nat} {row:List V} {v:V} (a: ∀row∈rows,row.length=esz) (hi:rows[i]? =some row) (d:row[j]? =some v):i*esz+j<rows.length*esz:=by
 have b:=cS hi
 have c:=cS d
 rw [a _ (an hi)] at c
 have:(i+1)*esz<=rows.length*esz:=bj _ b
 rw [Nat.add_mul,cB] at this
 omega
theorem SE [Frame] {rows new_:List (List V)} {esz:Nat} {arr news rest:Array Value} (f:arr.size=rows.length*esz) (b: ∀row∈rows,row.length=esz)
 (k: ∀i row j v,rows[i]? =some row->row[j]? =some v->aY μ h w v (arr.getD (i*esz+j) undef))
 (l:news.size=new_.length*esz) (a: ∀row∈new_,row.length=esz) (d: ∀i row j v,new_[i]? =some row->row[j]? =some v->aY μ h w v (news.getD (i*esz+j) undef)):
 ∀i row j v,(rows++new_)[i]? =some row->row[j]? =some v->aY μ h w v ((arr++news++rest).getD (i*esz+j) undef):=by
 intro i row j v hi c
 by_cases e:i<rows.length
 ·rw [bG e] at hi
  have m:=yO b hi c
  rw [Pc,ae (by rw [mZ];omega),Pc,ae (by omega)]
  exact k i row j v hi c
 ·rw [bQ (by omega)] at hi
  have m:=yO a hi c
  have n:i*esz=rows.length*esz+(i-rows.length)*esz:=by rw [<-Nat.add_mul];congr 1;omega
  rw [Pc,ae (by rw [mZ];omega),Pc,aa (by omega)]
  have:=d (i-rows.length) row j v hi c
  rwa [show i*esz+j-arr.size=(i-rows.length)*esz+j by omega]
structure b50 [Frame] (μ:Mu) (h:b8) (w:World) (esz:Nat) (rows:List (List V)) (news:Array Value):Prop where
 size:news.size=rows.length*esz
 rel: ∀i row j v,rows[i]? =some row->row[j]? =some v->aY μ h w v (news.getD (i*esz+j) undef)
 row: ∀row∈rows,row.length=esz/\ ∀v∈row,v.cell=true/\v.cl=true
theorem Src.toR [Frame] {esz:Nat} {rows:List (List V)} {x:Value} {news:Array Value} (S:Src P μ h w esz rows x news):b50 μ h w esz rows news:=⟨S.size,S.rel,S.row⟩
theorem b50.one [Frame] {esz:Nat} {rows:List (List V)} {news:Array Value} (S:b50 μ h w esz rows news) (h0:0<esz): ∀k,k<news.size->ci (news.getD k undef)=true:=by
 intro k b
 rw [S.size] at b
 have hi:k/esz<rows.length:=(jX h0).2 b
 have e:=gt k h0
 have a:=aZ hi
 have c:=(S.row _ a).1
 have d:=S.rel (k/esz) rows[k/esz] (k%esz) (rows[k/esz][k%esz]'(by omega)) (aq hi) (aq (by omega))
 rw [oI,pu] at d
 exact d.oneCell ((S.row _ a).2 _ (aZ _)).1
set_option maxHeartbeats 1000000 in
theorem O6 [Frame] (H:bB μ h w) {e:TypeId} {i:TypeInfo} {z:List Value} {zv:Value} (hcs:zv.cells.toList=z) {x:Operand} {x':Opd} (m:aY μ h w (Opd.ev f x') (a.eval x)) {new_:List (List V)} {news:Array Value}
 (S:b50 μ h w i.size new_ news) {B:Value->Sem Value}
 (roomL: ∀base sLen sCap,sLen+new_.length<=sCap->(B (.slice base sLen sCap)).run P w=((match base with|some a=>storeCells (a.add (sLen*i.size)) news.toList|none=>pure ():Sem Unit).run P w).andThen fun _ w'=> .ok (.slice base (sLen+new_.length) sCap) w')
 (growL: ∀base sLen sCap (old:Array Value),(∀w':World,w'.heap=w.heap->(Builtin.firstCells i.size sLen (.slice base sLen sCap)).run P w'= .ok old w')->sCap<sLen+new_.length->(sLen+new_.length)*i.bytes<=140737488355328->sLen+new_.length<=9223372036854775807->
  ∃nc,sLen+new_.length<=nc/\(B (.slice base sLen sCap)).run P w= .ok (.slice (some ⟨w.heap.size,0,none⟩) (sLen+new_.length) nc) (mw { w with drawn:=w.drawn+1 } (.cells (old++news++Builtin.zeroCells zv.cells (nc-(sLen+new_.length))) e)))
 {sb:Nat->Bool} {o:Oper} (exec_eq: ∀r w',(B (a.eval x)).run P w= .ok r w'->(execOp a.eval o).run P w= .ok (.value r) w')
 {new:Nat} {v:V} {u:Upd} (hs:JB i.size i.bytes z (Opd.ev f x') sb h new new_=some (v,u)):ix P o a μ h w v u:=by
 unfold JB at hs
 split at hs
 ·rename_i hcond
  obtain ⟨c1,c2,c3,c4⟩:=hcond
  unfold cX at c3 c4
  have hm63:new_.length<=1099511627776:=by
   have:new_.length*1<=new_.length*i.size:=iA _ c2
   omega
  have empty: ∀(ad:Option Addr),a.eval x= .slice ad 0 0->h new=none-> ∀v u,(v,u)=(V.sl new 0 new_.length,[(new,(⟨i.size,false,new_⟩:Blk))])->ix P o a μ h w v u:=by
   intro ad hX hn v u hvu
   cases hvu
   by_cases hm:new_.length=0
   ·have hnil:new_=[]:=bS hm
    subst hnil
    obtain ⟨q1,q2⟩:=H.newNil (b:=new) (e:=i.size) hn
    refine ⟨.slice ad 0 0,w,μ,.inl (exec_eq _ _ ?_),q1,q2,.sl new 0 0 _ ⟨i.size,false,[]⟩ (by simp [g9,bT]) (.inr (by simp)) ⟨_,_,rfl⟩ (fun _ _=>⟨_,_,rfl,.inl ⟨rfl,rfl⟩⟩)⟩
    have hr0:=roomL ad 0 0 (by simp)
    simp only [ai] at hr0
    have hn0:news= #[]:=by have:=S.size;simp at this;exact this
    rw [hX,hr0,hn0]
    cases ad<;>rfl
   ·obtain ⟨nc,hnc,d⟩:=growL ad 0 0 #[]
     (fun w' _=>by cases ad<;>simp [Builtin.firstCells,loadCells,loadCellsFrom]) (by omega) (by rw [cy];omega) (by omega)
    rw [<-hX] at d
    simp only [cy] at d hnc
    have hsz:(#[]++news++Builtin.zeroCells zv.cells (nc-new_.length):Array Value).size=nc*i.size:=by
     have hzs:zv.cells.size=i.size:=by rw [<-c1, <-hcs];simp
     simp only [mZ,S.size,size_zeroCells,hzs]
     simp only [Array.size_empty,cy, <-Nat.add_mul]
     congr 1;omega
    obtain ⟨μ',q1,q2,q3⟩:=KF H (w':=mw { w with drawn:=w.drawn+1 } (.cells (#[]++news++Builtin.zeroCells zv.cells (nc-new_.length)) e)) (lZ { w with drawn:=w.drawn+1 } _).drew (new:=new) hn (esz:=i.size) (rows:=new_) (lo:=0) (hi:=0) (cap:=nc)
     (pE { w with drawn:=w.drawn+1 } _) (.inl rfl) c2 hnc (by rw [hsz];exact aw _) S.row
     (by
      have:=SE (μ:=μ) (h:=h) (w:=w) (rows:=[]) (new_:=new_) (esz:=i.size) (arr:= #[]) (news:=news) (rest:=Builtin.zeroCells zv.cells (nc-new_.length)) (by simp) (fun row p=>by simp at p) (fun i row j v hi=>by simp at hi) S.size (fun row p=>(S.row row p).1) S.rel
      simpa using this)
    exact ⟨_,_,μ',.inl (exec_eq _ _ d),q1,q2,q3⟩
  split at hs
  ·rename_i b n hbx
   split at hs
   ·rename_i k hk
    split at hs
    ·rename_i hc
     cases hs
     obtain ⟨k1,k2,k3,k4,k5,k6,k7⟩:=hc
     unfold cX at k5 k6
     rw [hbx] at m
     generalize hX:a.eval x=X at m
     cases m with
     |sl _ _ _ _ k' hk' hn' hx' hp=>
      rw [hk] at hk';cases hk'
      obtain ⟨ad,cap,rfl,hok⟩:=hp (by omega) (by omega)
      have hrw:=H.rows b k hk
      have hrow': ∀row∈k.rows++new_,row.length=k.esz/\ ∀v∈row,v.cell=true/\(k.op=false->v.cl=true):=by
       intro row hrow
       rcases aX.1 hrow with h1|h1
       ·exact ⟨(hrw row h1).1 (by omega),(hrw row h1).2⟩
       ·exact ⟨by rw [k3];exact (S.row row h1).1,fun v hv=>⟨((S.row row h1).2 v hv).1,fun _=>((S.row row h1).2 v hv).2⟩⟩
      by_cases l:n+new_.length<=cap
      ·
       rcases hok with ⟨g1,g2⟩|⟨cb,hcb,rfl,hcap,hnc⟩
       ·have hm0:new_=[]:=bS (by omega)
        have hn0:news= #[]:=by have:=S.size;rw [hm0] at this;simp at this;exact this
        have hr0:=roomL ad n cap l
        rw [hm0] at hr0
        simp only [ai,cQ] at hr0
        have hkk:({ k with rows:=k.rows++new_ }:Blk)=k:=by rw [hm0,bU]
        have hhh:bT h b k=h:=by funext b';unfold bT;split<;>simp_all
        refine ⟨.slice ad n cap,w,μ,.inl (exec_eq _ _ ?_), ?_, ?_, ?_⟩
        ·rw [hX,hr0,hn0]
         cases ad<;>rfl
        ·show bB μ (bT h b _) w;rw [hkk,hhh];exact H
        ·show Chg μ h w μ (bT h b _) w;rw [hkk,hhh];exact Chg.refl _ _ _
        ·show aY μ (bT h b _) w _ _
         rw [hkk,hhh,hm0]
         exact .sl b 0 _ _ k hk (.inr (by simp;omega)) ⟨_,_,rfl⟩ (fun _ _=>⟨_,_,rfl,.inl ⟨g1,g2⟩⟩)
       ·rcases H.blk b k hk with ⟨h1,_,hmn⟩|⟨_,c',arr,tt,lo,hi',hm',hh,hf,hl,hv⟩|⟨h0',_⟩
        ·rw [hcb] at hmn;cases hmn
        rotate_left
        ·omega
        ·rw [hcb] at hm';cases hm'
         have hbs:bsize w cb=arr.size:=by unfold bsize;rw [hh]
         have t:cap*i.size<=arr.size:=by rw [<-hbs, <-k3];simpa using hcap
         have hneed:(n+new_.length)*i.size<=arr.size:=e7 (bj _ l) t
         have hns:news.toList.length=new_.length*i.size:=by rw [Array.length_toList,S.size]
         obtain ⟨arr',hst,y,hval⟩:=mg (P:=P) (o:=n*i.size) news.toList 0 arr w hh hf.at (by rw [Nat.add_mul] at hneed;omega)
          (fun v hv=>by
           obtain ⟨q,hq,rfl⟩:=bp hv
           have:=S.one c2 q (by simpa using hq)
           simpa [Array.getD_eq_getD_getElem?,(show q<news.size by simpa using hq)] using this)
         have hlt:=o4 hh
         have s:=H.put (w':=gY w cb arr' tt (lo,hi')) (c:=cb) (k':={ k with rows:=k.rows++new_ }) hk k2 (.inl hcb)
          rfl rfl rfl (by rw [vn];exact aw _) (aw _) (fun c' _ hne=>C5 hne) (rk hlt) (by rw [y];exact hf) rfl
          (by rw [y,ab, <-k4,k3];exact hneed) hrow'
          (by
           by_cases hm:new_.length=0
           ·exact .inr ⟨by simp [hm],hcb,by rw [y,hbs]⟩
           ·exact .inl (by simp;omega))
          (fun i2 row2 j v h2 h3=>by
           simp only at h2 ⊢
           rw [hval]
           simp only [cQ,hns]
           by_cases hlt2:i2<k.rows.length
           ·rw [bG hlt2] at h2
            have h4:=yO (fun row p=>(hrw row p).1 (by omega)) h2 h3
            rw [aa (by rw [k4, <-k3];omega)]
            exact hv i2 row2 j v h2 h3
           ·rw [bQ (by omega)] at h2
            have h4:=yO (fun row p=>(S.row row p).1) h2 h3
            have h5:i2*i.size=k.rows.length*i.size+(i2-k.rows.length)*i.size:=by rw [<-Nat.add_mul];congr 1;omega
            rw [k3,ae (by rw [k4];omega)]
            have:=S.rel (i2-k.rows.length) row2 j v h2 h3
            rw [show i2*i.size+j-n*i.size=(i2-k.rows.length)*i.size+j by rw [k4];omega]
            simpa [bo,Array.getD_eq_getD_getElem?] using this)
         refine ⟨.slice (some ⟨cb,0*k.esz,none⟩) (n+new_.length) cap,_,_,.inl (exec_eq _ _ ?_),s.1,s.2, ?_⟩
         ·rw [hX]
          rw [lJ]
          have hadd:=uX cb 0 (n*i.size)
          rw [cy] at hadd
          rw [roomL _ _ _ l]
          simp only [hadd,hst,Result.andThen_ok]
         ·refine .sl b 0 _ _ { k with rows:=k.rows++new_ } (by simp [g9,bT]) (.inr (by simp;omega)) ⟨_,_,rfl⟩ (fun _ _=>⟨_,_,rfl,.inr ⟨cb,by simp [cE],rfl, ?_,l⟩⟩)
          unfold bsize
          rw [rk hlt]
          simp only [cy]
          rw [y,k3];exact t
      ·
       have hold: ∃old:Array Value,(∀w',w'.heap=w.heap->(Builtin.firstCells i.size n (.slice ad n cap)).run P w'= .ok old w')/\old.size=k.rows.length*i.size/\
        ∀i2 row j v,k.rows[i2]? =some row->row[j]? =some v->aY μ h w v (old.getD (i2*i.size+j) undef):=by
        have hr2:ed h i.size (.sl b 0 n)=some k.rows:=by simp [ed,hk,k1,k2,k3,k4];omega
        obtain ⟨old,S2⟩:=a4U (P:=P) H c2 hr2 (.sl b 0 n (.slice ad n cap) k hk hn' hx' hp)
        refine ⟨old,fun w' hw'=> ?_,S2.size,S2.rel⟩
        rw [S2.first n (by omega) w' hw',N5 _ _ (by rw [S2.size,k4];exact aw _)]
       obtain ⟨old,hold1,hold2,hold3⟩:=hold
       obtain ⟨nc,hnc,d⟩:=growL ad n cap old hold1 (by omega)
        (by omega) (by
         have:(n+new_.length)*1<=(n+new_.length)*i.size:=iA _ c2
         omega)
       rw [<-hX] at d
       have hsz:(old++news++Builtin.zeroCells zv.cells (nc-(n+new_.length)):Array Value).size=nc*i.size:=by
        have hzs:zv.cells.size=i.size:=by rw [<-c1, <-hcs];simp
        simp only [mZ,S.size,size_zeroCells,hzs,hold2, <-k4, <-Nat.add_mul]
        congr 1;omega
       have hat:=pE { w with drawn:=w.drawn+1 } (.cells (old++news++Builtin.zeroCells zv.cells (nc-(n+new_.length))) e)
       have hgr:=lZ { w with drawn:=w.drawn+1 } (.cells (old++news++Builtin.zeroCells zv.cells (nc-(n+new_.length))) e)
       by_cases hm:new_.length=0
       ·exfalso
        rcases hok with ⟨g1,g2⟩|⟨cb,hcb,_,hcap,hnc2⟩<;>omega
       ·have s:=H.put (w':=mw { w with drawn:=w.drawn+1 } (.cells (old++news++Builtin.zeroCells zv.cells (nc-(n+new_.length))) e)) (c:=w.heap.size) (k':={ k with rows:=k.rows++new_ }) hk k2 (.inr (aw _))
         rfl rfl rfl hgr.2.2.2.1 hgr.drew.2.2.2.2.2 (fun c' hc' _=>hgr.2.2.2.2.1 c' hc') hat (.inl rfl) rfl
         (by rw [hsz,ab, <-k4,k3];exact bj _ hnc) hrow' (.inl (by simp;omega))
         (by
          have:=SE (μ:=μ) (h:=h) (w:=w) (rest:=Builtin.zeroCells zv.cells (nc-(n+new_.length))) hold2 (fun row p=>by rw [(hrw row p).1 (by omega),k3]) hold3 S.size (fun row p=>(S.row row p).1) S.rel
          simpa [k3] using this)
        refine ⟨_,_,_,.inl (exec_eq _ _ d),s.1,s.2,.sl b 0 _ _ { k with rows:=k.rows++new_ } (by simp [g9,bT]) (.inr (by simp;omega)) ⟨_,_,rfl⟩ (fun _ _=>⟨_,_,rfl,.inr ⟨w.heap.size,by simp [cE],by simp, ?_,hnc⟩⟩)⟩
        unfold bsize
        rw [hat]
        simp only [cy]
        rw [hsz,k3];exact aw _
    ·cases hs
   ·cases hs
  ·rename_i hbx
   obtain ⟨hn,h0,p⟩:=ru hs
   rw [hbx] at m
   exact empty none (dd m) hn v u p
  ·rename_i hbx
   obtain ⟨hn,h0,p⟩:=ru hs
   rw [hbx] at m
   have: ∃ad,a.eval x= .slice ad 0 0:=by
    generalize a.eval x=X at m
    cases m with
    |emp ad=>exact ⟨ad,rfl⟩
    |imm0 _ ad cap he=>exact absurd rfl he
    |imm _ _ _ _ _ _ he p=>exact absurd rfl p
   obtain ⟨ad,hX⟩:=this
   exact empty ad hX hn v u p
  ·cases hs
 ·cases hs
set_option maxHeartbeats 1000000 in
theorem a43 [Frame] (H:bB μ h w) (E:gg μ h w f a) {o:Oper} {c:Call} {t u' e:TypeId} {d:TypeDesc} {i:TypeInfo} {z:List Value} {x y:Operand} {x' y':Opd} (hop:o.op= .call c) (hca:c.callee= .builtin .append) (l:c.args.toList=[x,y])
 (hx:bA x=some x') (hy:bA y=some y') (ht:c.argTypes[0]? =some t) (hu0:c.argTypes[1]? =some u') (hu:P.underlying u'=some d) (hd: ∀k,d≠ .int k) (he:P.underlying t=some (.slice e)) (hi:P.info? e=some i) (hz:Bk P e=some z)
 {C:ce} {ow:FuncId->List Nat} {new:Nat} {v:V} {u:Upd} (n:aM C ow (.append i.size i.bytes z x' y') (Opd.ev f) h new=some (v,u)):ix P o a μ h w v u:=by
 have hvx:=bM E hx
 have hvy:=bM E hy
 have ha:c.args= #[x,y]:=by rw [<-l]
 obtain ⟨i',zv,p,hzv,hcs,hzr⟩:=rC hz
 rw [hi] at p;cases p
 have exec_eq: ∀r w',(Builtin.append_ #[t,u'] o.type #[a.eval x,a.eval y]).run P w= .ok r w'->(execOp a.eval o).run P w= .ok (.value r) w':=by
  intro r w' hr
  have hat: ∀ty args,Builtin.append_ c.argTypes ty args=Builtin.append_ #[t,u'] ty args:=by
   intro ty args
   unfold Builtin.append_
   simp only [ht,hu0]
   rfl
  simp only [execOp,hop,resolve,hca,ha,Sem.run_bind,Sem.run_pure,Result.andThen_ok,invoke,builtin,hat,nM,aP,dM,hr]
 simp only [aM] at n
 split at n
 ·cases n
 ·rename_i new_ hnew_
  by_cases c2:0<i.size
  ·obtain ⟨news,S⟩:=a4U (P:=P) H c2 hnew_ hvy
   have j: ∀w',w'.heap=w.heap->(Builtin.firstCells i.size new_.length (a.eval y)).run P w'= .ok news w':=by
    intro w' hw'
    rw [S.first _ (aw _) w' hw',N5 _ _ (by rw [S.size];exact aw _)]
   exact O6 (B:=fun s=>Builtin.append_ #[t,u'] o.type #[s,a.eval y]) (sb:=fun b=>aM.selfOk b (Opd.ev f y')) H hcs hvx S.toR
    (fun base sLen sCap m=>a0I (w:=w) (t:=t) (u:=u') he hu hd hi (S.len w) (j w rfl) m)
    (fun base sLen sCap old q h1 h2 h3=>a2j (P:=P) (w:=w) (t:=t) (u:=u') (ty:=o.type) (base:=base) (sLen:=sLen) (sCap:=sCap) (old:=old) he hu hd hi hzv S.len j q h1 h2 h3)
    exec_eq n
  ·rw [aa (fun hc=>c2 hc.2.1)] at n;cases n
end
end
section
section
variable {P:Program} {μ:Mu} {h:b8} {w:World} {f:Nat->V} {a:Act}
theorem GU [Frame] {x:Operand} {y:Opd} (E:gg μ h w f a) (c:bA x=some y) {dflt most n:Nat} (b:dt (some (y.ev f)) dflt most=some n) (code:BoundsCode):
 n<=most/\(Instr.sliceBound (a.eval x) most code).run P w= .ok n w:=by
 simp only [dt] at b
 split at b
 ·rename_i i hi
  split at b
  ·rename_i hc
   cases b
   obtain ⟨k,d⟩:=wK hi (bM E c)
   exact ⟨by omega,by simp [Instr.sliceBound,d,asIntOf,hc]⟩
  ·cases b
 ·cases b
theorem tS [Frame] (E:gg μ h w f a) {isS:Bool} {len cap:Nat} {lo hi:Option Operand} {lo' e:Option Opd} (b:p9 lo=some lo') (c:p9 hi=some e) {p q most:Nat} (t:most<=cap) (l:len<=most)
 (d:dt (e.map (Opd.ev f)) len most=some q) (k:dt (lo'.map (Opd.ev f)) 0 q=some p):
 p<=q/\q<=most/\(Instr.sliceBounds isS len cap (lo.map a.eval) (hi.map a.eval) none).run P w= .ok (p,q,cap) w:=by
 have s:q<=most/\(∀x,hi=some x-> ∀code,(Instr.sliceBound (a.eval x) cap code).run P w= .ok q w)/\(hi=none->q=len):=by
  cases hi with
  |none=>
   simp [p9] at c;subst c
   simp [dt] at d;subst d
   exact ⟨l,(fun x h=>by cases h),(fun _=>rfl)⟩
  |some x=>
   simp only [p9] at c
   split at c
   ·rename_i y i
    cases c
    have m:dt (some (y.ev f)) len cap=some q:=by
     simp only [ea,dt] at d ⊢
     split at d
     ·split at d
      ·rename_i hc;rw [ae ⟨hc.1,by omega⟩];exact d
      ·cases d
     ·cases d
    have n:=(GU (P:=P) E i (show dt (some (y.ev f)) len most=some q from d) .sliceB).1
    exact ⟨n,fun x' h code=>by cases h;exact (GU E i m code).2,fun h=>by cases h⟩
   ·cases c
 obtain ⟨n,r,o⟩:=s
 have j:p<=q/\(∀x,lo=some x-> ∀code,(Instr.sliceBound (a.eval x) q code).run P w= .ok p w)/\(lo=none->p=0):=by
  cases lo with
  |none=>
   simp [p9] at b;subst b
   simp [dt] at k;subst k
   exact ⟨pV _,(fun x h=>by cases h),(fun _=>rfl)⟩
  |some x=>
   simp only [p9] at b
   split at b
   ·rename_i y i
    cases b
    exact ⟨(GU (P:=P) E i k .sliceB).1,fun x' h code=>by cases h;exact (GU E i k code).2,fun h=>by cases h⟩
   ·cases b
 refine ⟨j.1,n, ?_⟩
 cases hi with
 |none=>
  have:=o rfl
  subst this
  cases lo with
  |none=>have:=j.2.2 rfl;subst this;simp [Instr.sliceBounds]
  |some y=>simp [Instr.sliceBounds,j.2.1 y rfl]
 |some x=>
  cases lo with
  |none=>have:=j.2.2 rfl;subst this;cases isS<;>simp [Instr.sliceBounds,r x rfl]
  |some y=>cases isS<;>simp [Instr.sliceBounds,r x rfl,j.2.1 y rfl]
theorem Xv [Frame] (H:bB μ h w) (E:gg μ h w f a) {o:Oper} {t:TypeId} {x:Operand} {lo hi:Option Operand} {x':Opd} {lo' c:Option Opd} (e:o.op= .slice t x lo hi none) (k:bA x=some x') (i:p9 lo=some lo') (j:p9 hi=some c)
 (l:P.underlying t=some .string) {C:ce} {ow:FuncId->List Nat} {new:Nat} {v:V} {u:Upd} (b:aM C ow (.sliceStr x' lo' c) (Opd.ev f) h new=some (v,u)):ix P o a μ h w v u:=by
 have d:=bM E k
 simp only [aM] at b
 split at b
 ·rename_i s m
  split at b
  ·rename_i q n
   split at b
   ·rename_i p r
    cases b
    rw [m] at d
    obtain ⟨z,h2,y⟩:=tS (P:=P) E (isS:=false) i j (aw _) (aw _) n r
    refine .quiet H (x:= .string (s.extract p q)) ?_ (.lit _)
    simp [execOp,e,Instr.sliceAt,Instr.slice,run_underlying l,dd d,y]
   ·cases b
  ·cases b
 ·cases b
theorem a72 [Frame] {e p q cap':Nat} {rows:List (List V)} {c off cap:Nat} (r:aY μ h w (.imm e rows) (.slice (some ⟨c,off,none⟩) rows.length cap)) (s:rows≠[]) (t:p<=q) (hq:q<=rows.length) (u:q-p<=cap')
 {ad:Option Addr} (k:p<q->ad=some ⟨c,off+p*e,none⟩):aY μ h w (.imm e ((rows.take q).drop p)) (.slice ad (q-p) cap'):=by
 generalize x:(Value.slice (some ⟨c,off,none⟩) rows.length cap)=X at r
 cases r with
 |emp=>exact absurd rfl s
 |imm0=>exact absurd rfl s
 |imm _ _ c' off' cap'' ys y _ z hc hs f b l=>
  injection x with m h2 h3
  injection m with m
  injection m with h4 h5
  subst h4 h5
  have a:((rows.take q).drop p).length=q-p:=by simp;omega
  by_cases hz:p=q
  ·subst hz
   have:(rows.take p).drop p=[]:=bS (by omega)
   rw [this,Nat.sub_self]
   exact .imm0 _ _ _ (by omega)
  ·have n:p<q:=by omega
   rw [k n, <-a]
   have get: ∀i,i<q-p->((rows.take q).drop p)[i]? =rows[p+i]? :=by
    intro i hi
    rw [gq,j6,ae (by omega)]
   refine .imm e _ c (off+p*e) cap' (fun i j=>ys (p+i) j) y (by intro e0;rw [e0] at a;simp at a;omega) (by omega) hc hs
    (fun row d=>f row (cq (bZ d))) (fun i j hi o=> ?_) (fun i row j v hi o=> ?_)
   ·have:=b (p+i) j (by omega) o
    rw [<-this,Nat.add_mul]
    congr 2
    omega
   ·have hil:=cS hi
    rw [get i (by omega)] at hi
    exact l (p+i) row j v hi o
theorem a8H [Frame] (H:bB μ h w) (E:gg μ h w f a) {o:Oper} {t e:TypeId} {x:Operand} {lo hi mx:Option Operand} {x':Opd} {lo' hi' mx':Option Opd} {s0:Nat} (hop:o.op= .slice t x lo hi mx) (hx:bA x=some x') (l:p9 lo=some lo') (m:p9 hi=some hi') (hmx:p9 mx=some mx')
 (hu:P.underlying t=some (.slice e)) (hsz:jI P e=some s0) {C:ce} {ow:FuncId->List Nat} {new:Nat} {v:V} {u:Upd} (d:aM C ow (.slice s0 x' lo' hi' mx') (Opd.ev f) h new=some (v,u)):ix P o a μ h w v u:=by
 have i:=bM E hx
 have hmn:mx'=none->mx=none:=by
  intro h1
  cases mx with
  |none=>rfl
  |some y=>
   simp only [p9] at hmx
   split at hmx
   ·subst h1;cases hmx
   ·cases hmx
 have run: ∀ad n cap p q,a.eval x= .slice ad n cap->p<=q->mx=none->(Instr.sliceBounds true n cap (lo.map a.eval) (hi.map a.eval) none).run P w= .ok (p,q,cap) w->
  (execOp a.eval o).run P w= .ok (.value (.slice (if cap=p then ad else ad.map (·.add (p*s0))) (q-p) (cap-p))) w:=by
  intro ad n cap p q hX hpq hm hb
  subst hm
  simp [execOp,hop,Instr.sliceAt,Instr.slice,run_underlying hu,hX,hb,fC hsz]
 simp only [aM] at d
 split at d
 ·cases d
 ·have hm:=hmn rfl
  split at d
  ·rename_i hb
   split at d
   ·rename_i q hq
    split at d
    ·rename_i p hp
     cases d
     rw [hb] at i
     obtain ⟨h1,h2,h3⟩:=tS (P:=P) E (isS:=true) (cap:=0) l m (aw _) (aw _) hq hp
     have r:q=0:=by omega
     subst r
     have z:p=0:=by omega
     subst z
     exact .quiet H (run none 0 0 0 0 (dd i) (aw _) hm h3) (.lit _)
    ·cases d
   ·cases d
  ·rename_i b s n hb
   split at d
   ·rename_i k hk
    split at d
    ·rename_i hc
     obtain ⟨c1,c2,c3,c4⟩:=hc
     split at d
     ·rename_i q hq
      split at d
      ·rename_i p hp
       rw [hb] at i
       generalize hX:a.eval x=X at i
       have j:=i
       cases i with
       |sl _ _ _ _ k' hk' hn' hx' hp'=>
        rw [hk] at hk';cases hk'
        obtain ⟨ad,cap,rfl,hok⟩:=hp' (by omega) c4
        have hncap:n<=cap:=by rcases hok with ⟨g1,g2⟩|⟨_,_,_,_,g⟩<;>omega
        obtain ⟨h1,h2,h3⟩:=tS (P:=P) E (isS:=true) (cap:=cap) l m hncap (aw _) hq hp
        have hrun:=run ad n cap p q hX h1 hm h3
        split at d
        ·rename_i hqn
         subst hqn
         cases d
         refine .quiet H hrun (.sl _ _ _ _ k hk (.inr (by omega)) ⟨_,_,rfl⟩ (fun _ _=>⟨_,_,rfl, ?_⟩))
         rcases hok with ⟨g1,g2⟩|⟨c,hcm,rfl,hcap,hnc⟩
         ·exact .inl ⟨by omega,by omega⟩
         ·by_cases hcp:cap=p
          ·exact .inl ⟨by omega,by omega⟩
          ·refine .inr ⟨c,hcm, ?_, ?_,by omega⟩
           ·rw [aa hcp,ea,uX,Nat.add_mul,c3]
           ·have:s+p+(cap-p)=s+cap:=by omega
            rw [this];exact hcap
        ·rename_i hqn
         cases d
         obtain ⟨H1,C1⟩:=H.kill hk
         have himm:=K6 H hk c1 c2 c4 j (μ':=cE μ b none) (bT h b mO) (by simp [cE]) (fun b' c h5=>by unfold cE at h5;split at h5<;>first| (cases h5;done)|exact h5)
         refine ⟨_,w,cE μ b none,.inl hrun,H1,C1, ?_⟩
         have hlen:(k.rows.drop s).length=n:=by simp;omega
         rcases hok with ⟨g1,g2⟩|⟨c,hcm,rfl,hcap,hnc⟩
         ·omega
         ·have hne:k.rows.drop s≠[]:=by intro e0;rw [e0] at hlen;simp at hlen;omega
          have himm':aY (cE μ b none) (bT h b mO) w (.imm k.esz (k.rows.drop s)) (.slice (some ⟨c,s*k.esz,none⟩) (k.rows.drop s).length cap):=by rw [hlen];exact himm
          rw [<-c3]
          refine aY.cz (a72 himm' hne h1 (by omega) (by omega) (fun hpq=> ?_))
          rw [aa (by omega),ea,uX]
      ·cases d
     ·cases d
    ·cases d
   ·cases d
  ·rename_i e' rows hb
   split at d
   ·rename_i he
    split at d
    ·rename_i q hq
     split at d
     ·rename_i p hp
      cases d
      rw [hb] at i
      generalize hX:a.eval x=X at i
      have j:=i
      cases i with
      |emp ad=>
       obtain ⟨h1,h2,h3⟩:=tS (P:=P) E (isS:=true) (cap:=0) l m (aw _) (aw _) hq hp
       have h2:q<=0:=h2
       have r:q=0:=by omega
       subst r
       have z:p=0:=by omega
       subst z
       exact .quiet H (run ad 0 0 0 0 hX (aw _) hm h3) j.cz
      |imm0 _ ad cap he0=>
       obtain ⟨h1,h2,h3⟩:=tS (P:=P) E (isS:=true) (cap:=cap) l m (pV _) (aw _) hq hp
       have h2:q<=0:=h2
       have r:q=0:=by omega
       subst r
       have z:p=0:=by omega
       subst z
       refine .quiet H (run ad 0 cap 0 0 hX (aw _) hm h3) ?_
       have e9:(List.drop 0 (List.take 0 ([]:List (List V))))=[]:=rfl
       rw [e9]
       exact (aY.imm0 _ _ _ he0).cz
      |imm _ _ c off cap ys he0 hr hcp hc d hrow hcell hv=>
       obtain ⟨h1,h2,h3⟩:=tS (P:=P) E (isS:=true) (cap:=cap) l m hcp (aw _) hq hp
       have he:e'=s0:=by
        rcases he with he|he
        ·exact he
        ·exact absurd he hr
       subst he
       refine .quiet H (run _ _ cap p q hX h1 hm h3) (aY.cz (a72 j hr h1 h2 (by omega) (fun hpq=> ?_)))
       rw [aa (by omega),ea,uX]
     ·cases d
    ·cases d
   ·cases d
  ·cases d
end
end
end Go.AI
