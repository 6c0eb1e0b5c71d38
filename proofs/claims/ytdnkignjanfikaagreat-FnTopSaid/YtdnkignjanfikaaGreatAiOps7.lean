/- Part. -/
import Derived.Test.YtdnkignjanfikaaGreatAiOps6
set_option linter.unusedVariables false
set_option linter.unusedSimpArgs false
namespace Go.AI
section
section
variable {P:Program} {μ:Mu} {h:ba} {w:World} {f:Nat->V} {a:Act}
theorem a8s {w w':World} (a:w'.heap=w.heap) (ad:Addr):w'.cell? ad=w.cell? ad:=by simp [World.cell?,a]
structure Src [Frame] (P:Program) (μ:Mu) (h:ba) (w:World) (esz:Nat) (rows:List (List V)) (x:Value) (news:Array Value):Prop where
 len: ∀w',(Builtin.lenOf x).run P w'= .ok rows.length w'
 first: ∀m,m<=rows.length-> ∀w',w'.heap=w.heap->(Builtin.firstCells esz m x).run P w'= .ok (news.extract 0 (m*esz)) w'
 size:news.size=rows.length*esz
 rel: ∀i row j v,rows[i]? =some row->row[j]? =some v->b7 μ h w v (news.getD (i*esz+j) undef)
 row: ∀row∈rows,row.length=esz/\ ∀v∈row,v.cell=true/\v.cl=true
theorem Src.one [Frame] {esz:Nat} {rows:List (List V)} {x:Value} {news:Array Value} (S:Src P μ h w esz rows x news) (h0:0<esz): ∀k,k<news.size->cD (news.getD k undef)=true:=by
 intro k b
 rw [S.size] at b
 have hi:k/esz<rows.length:=(j2 h0).2 b
 have e:=fN k h0
 have a:=b9 hi
 have c:=(S.row _ a).1
 have d:=S.rel (k/esz) rows[k/esz] (k%esz) (rows[k/esz][k%esz]'om) (aq hi) (aq om)
 rw [eo,sY] at d
 exact d.oneCell ((S.row _ a).2 _ (b9 _)).1
theorem On {α:Type} (x:Array α) (n:Nat) (h:x.size<=n):x.extract 0 n=x:=by
 apply fL
 simp [aX,h]
theorem a2S [Frame] (H:bG μ h w) {v:V} {x:Value} {esz:Nat} {rows:List (List V)} (h0:0<esz) (q:fm h esz v=some rows) (l:b7 μ h w v x): ∃news,Src P μ h w esz rows x news:=by
 by_cases hs: ∃s,x= .string s
 ·obtain ⟨s,rfl⟩:=hs
  rcases a5f l with u|u
  ·subst u
   simp only [fm] at q
   split at q
   ·rename_i z
    subst z
    cases q
    refine ⟨s.data.map fun b=> .int .u8 b.toNat,fun w'=>by simp [Builtin.lenOf],fun m t w' n=> ?_,by simp,fun i row j v hi d=> ?_,fun row a=> ?_⟩
    ·simp only [Builtin.firstCells,Sem.run_pure]
     congr 1
     apply fL
     simp [ByteArray.extract,ByteArray.copySlice]
    ·rw [b6] at hi
     cases o:s.data.toList[i]? with
     |none=>rw [o] at hi;cases hi
     |some y=>
      rw [o] at hi;cases hi
      cases j with
      |zero=>
       simp at d;subst d
       simp only [tR,cH,Array.getD_eq_getD_getElem?,a0k s i y o,dL]
       exact .lit _
      |succ j=>simp at d
    ·obtain ⟨y,r,rfl⟩:=bf.1 a
     exact ⟨rfl,fun v l=>by simp at l;subst l;exact ⟨rfl,rfl⟩⟩
   ·cases q
  ·subst u;simp [fm] at q
 ·obtain ⟨ad,cap,hX,hat⟩:=La H h0 q l (fun s e=>hs ⟨s,e⟩)
  subst hX
  rcases hat with rfl|⟨c,off,rfl,R,_,_⟩
  ·refine ⟨#[],fun w'=>by simp [Builtin.lenOf],fun m t w' n=> ?_,by simp,fun i row j v hi=>by simp at hi,fun row a=>by simp at a⟩
   have:m=0:=by simpa using t
   subst this
   cases ad with
   |none=>simp [Builtin.firstCells]
   |some ad=>simp [Builtin.firstCells,loadCells,loadCellsFrom]
  ·let fn:Nat->Value:=fun k=>(w.cell? ⟨c,off+k,none⟩).getD undef
   have p: ∀k,k<rows.length*esz->w.cell? ⟨c,off+k,none⟩=some (fn k):=by
    intro k hk
    have hi:k/esz<rows.length:=(j2 h0).2 hk
    have d:=fN k h0
    have hlen:=(R.row _ (b9 hi)).1
    obtain ⟨y,r,_⟩:=R.cell (k/esz) rows[k/esz] (k%esz) (rows[k/esz][k%esz]'om) (aq hi) (aq om)
    rw [eo,sY] at r
    show _=some ((w.cell? ⟨c,off+k,none⟩).getD undef)
    rw [r];rfl
   refine ⟨(Array.range (rows.length*esz)).map fn,fun w'=>by simp [Builtin.lenOf],fun m t w' n=> ?_,by simp,fun i row j v hi d=> ?_,R.row⟩
   ·have hle:m*esz<=rows.length*esz:=bg _ t
    simp only [Builtin.firstCells]
    rw [vy (w:=w') (f:=fn) (fun j d=>by rw [a8s n];exact p j om)]
    congr 1
    apply fL
    simp [<-List.map_take,List.take_range,dp hle]
   ·obtain ⟨y,r,l⟩:=R.cell i row j v hi d
    have hlt:i*esz+j<rows.length*esz:=by
     have hil:=dg hi
     have hjl:=dg d
     rw [(R.row _ (al hi)).1] at hjl
     have:(i+1)*esz<=rows.length*esz:=bg _ hil
     rw [Nat.add_mul,cK] at this
     omega
    have z:fn (i*esz+j)=y:=by
     show (w.cell? ⟨c,off+(i*esz+j),none⟩).getD undef=y
     rw [r];rfl
    simp [hlt,z]
    exact l
set_option maxHeartbeats 4000000 in
theorem a0B {t u e ty:TypeId} {d:TypeDesc} {i:TypeInfo} {z:Value} {base:Option Addr} {sLen sCap m:Nat} {x:Value} {news old:Array Value} (l:P.underlying t=some (.slice e)) (n:P.underlying u=some d) (o: ∀k,d≠ .int k)
 (hi:P.info? e=some i) (p:i.zero=some z) (a: ∀w',(Builtin.lenOf x).run P w'= .ok m w') (b: ∀w',w'.heap=w.heap->(Builtin.firstCells i.size m x).run P w'= .ok news w')
 (c: ∀w',w'.heap=w.heap->(Builtin.firstCells i.size sLen (.slice base sLen sCap)).run P w'= .ok old w') (h:sCap<sLen+m) (q:(sLen+m)*i.bytes<=140737488355328) (r:sLen+m<=9223372036854775807):
 ∃nc,sLen+m<=nc/\(Builtin.append_ #[t,u] ty #[.slice base sLen sCap,x]).run P w=
  .ok (.slice (some ⟨w.heap.size,0,none⟩) (sLen+m) nc) (p8 { w with drawn:=w.drawn+1 } (.cells (old++news++Builtin.zeroCells z.cells (nc-(sLen+m))) e)):=by
 refine ⟨(Question.appendCap (sLen+m) sCap e).cut (w.tape w.drawn (.appendCap (sLen+m) sCap e)),by simp only [Question.cut];omega, ?_⟩
 have j:=growslice_fits (need:=sLen+m) (old:=sCap) (bytes:=i.bytes) om q
 have hforced:(Question.appendCap (sLen+m) sCap e).forced=false:=rfl
 have s: ¬sLen+m<=sCap:=by omega
 have v: ¬(281474976710656<Builtin.nextslicecap (sLen+m) sCap*i.bytes):=by omega
 have y: ¬(9223372036854775807<(sLen:Int)+(m:Int)):=by omega
 have f:IntKind.i64.max=9223372036854775807:=rfl
 have ho:=c w.drew rfl
 have hn:=b w.drew rfl
 cases d<;>first
  | (exfalso;exact o _ rfl)
  | (simp [Builtin.append_,run_underlying l,run_underlying n,sizeOf,typeInfo,hi,a,s,v,y,hforced,f,ho,hn,zeroValue,p,newRow];rfl)
theorem PW {x y:Array Value} (k:Nat):(x++y).getD k undef=if k<x.size then x.getD k undef else y.getD (k-x.size) undef:=by
 rw [Array.getD_eq_getD_getElem?,Array.getD_eq_getD_getElem?,Array.getD_eq_getD_getElem?,sG]
 split<;>rfl
set_option maxHeartbeats 4000000 in
theorem Zv {t u e ty:TypeId} {d:TypeDesc} {i:TypeInfo} {base:Option Addr} {sLen sCap m:Nat} {x:Value} {news:Array Value} (h:P.underlying t=some (.slice e)) (j:P.underlying u=some d) (l: ∀k,d≠ .int k)
 (hi:P.info? e=some i) (c:(Builtin.lenOf x).run P w= .ok m w) (f:(Builtin.firstCells i.size m x).run P w= .ok news w) (b:sLen+m<=sCap):
 (Builtin.append_ #[t,u] ty #[.slice base sLen sCap,x]).run P w=
  ((match base with|some a=>storeCells (a.add (sLen*i.size)) news.toList|none=>pure ():Sem Unit).run P w).andThen fun _ w'=> .ok (.slice base (sLen+m) sCap) w':=by
 cases d<;>first
  | (exfalso;exact l _ rfl)
  | (cases base<;>simp [Builtin.append_,run_underlying h,run_underlying j,sizeOf,typeInfo,hi,c,b,f])
theorem AP [Frame] {rows:List (List V)} {esz i j:Nat} {row:List V} {v:V} (a: ∀row∈rows,row.length=esz) (hi:rows[i]? =some row) (d:row[j]? =some v):i*esz+j<rows.length*esz:=by
 have b:=dg hi
 have c:=dg d
 rw [a _ (al hi)] at c
 have:(i+1)*esz<=rows.length*esz:=bg _ b
 rw [Nat.add_mul,cK] at this
 omega
theorem Qq [Frame] {rows new_:List (List V)} {esz:Nat} {arr news rest:Array Value} (f:arr.size=rows.length*esz) (b: ∀row∈rows,row.length=esz)
 (k: ∀i row j v,rows[i]? =some row->row[j]? =some v->b7 μ h w v (arr.getD (i*esz+j) undef))
 (l:news.size=new_.length*esz) (a: ∀row∈new_,row.length=esz) (d: ∀i row j v,new_[i]? =some row->row[j]? =some v->b7 μ h w v (news.getD (i*esz+j) undef)):
 ∀i row j v,(rows++new_)[i]? =some row->row[j]? =some v->b7 μ h w v ((arr++news++rest).getD (i*esz+j) undef):=by
 intro i row j v hi c
 by_cases e:i<rows.length
 ·rw [bc e] at hi
  have m:=AP b hi c
  rw [PW,aa (by rw [pD];omega),PW,aa om]
  exact k i row j v hi c
 ·rw [bt om] at hi
  have m:=AP a hi c
  have n:i*esz=rows.length*esz+(i-rows.length)*esz:=by rw [<-Nat.add_mul];congr 1;omega
  rw [PW,aa (by rw [pD];omega),PW,a7 om]
  have:=d (i-rows.length) row j v hi c
  rwa [show i*esz+j-arr.size=(i-rows.length)*esz+j by omega]
structure b4g [Frame] (μ:Mu) (h:ba) (w:World) (esz:Nat) (rows:List (List V)) (news:Array Value):Prop where
 size:news.size=rows.length*esz
 rel: ∀i row j v,rows[i]? =some row->row[j]? =some v->b7 μ h w v (news.getD (i*esz+j) undef)
 row: ∀row∈rows,row.length=esz/\ ∀v∈row,v.cell=true/\v.cl=true
theorem Src.toR [Frame] {esz:Nat} {rows:List (List V)} {x:Value} {news:Array Value} (S:Src P μ h w esz rows x news):b4g μ h w esz rows news:=⟨S.size,S.rel,S.row⟩
theorem b4g.one [Frame] {esz:Nat} {rows:List (List V)} {news:Array Value} (S:b4g μ h w esz rows news) (h0:0<esz): ∀k,k<news.size->cD (news.getD k undef)=true:=by
 intro k b
 rw [S.size] at b
 have hi:k/esz<rows.length:=(j2 h0).2 b
 have e:=fN k h0
 have a:=b9 hi
 have c:=(S.row _ a).1
 have d:=S.rel (k/esz) rows[k/esz] (k%esz) (rows[k/esz][k%esz]'om) (aq hi) (aq om)
 rw [eo,sY] at d
 exact d.oneCell ((S.row _ a).2 _ (b9 _)).1
set_option maxHeartbeats 1000000 in
theorem Ov [Frame] (H:bG μ h w) {e:TypeId} {i:TypeInfo} {z:List Value} {zv:Value} (hcs:zv.cells.toList=z) {x:Operand} {x':Opd} (m:b7 μ h w (Opd.ev f x') (a.eval x)) {new_:List (List V)} {news:Array Value}
 (S:b4g μ h w i.size new_ news) {B:Value->Sem Value}
 (roomL: ∀base sLen sCap,sLen+new_.length<=sCap->(B (.slice base sLen sCap)).run P w=((match base with|some a=>storeCells (a.add (sLen*i.size)) news.toList|none=>pure ():Sem Unit).run P w).andThen fun _ w'=> .ok (.slice base (sLen+new_.length) sCap) w')
 (growL: ∀base sLen sCap (old:Array Value),(∀w':World,w'.heap=w.heap->(Builtin.firstCells i.size sLen (.slice base sLen sCap)).run P w'= .ok old w')->sCap<sLen+new_.length->(sLen+new_.length)*i.bytes<=140737488355328->sLen+new_.length<=9223372036854775807->
  ∃nc,sLen+new_.length<=nc/\(B (.slice base sLen sCap)).run P w= .ok (.slice (some ⟨w.heap.size,0,none⟩) (sLen+new_.length) nc) (p8 { w with drawn:=w.drawn+1 } (.cells (old++news++Builtin.zeroCells zv.cells (nc-(sLen+new_.length))) e)))
 {sb:Nat->Bool} {o:Oper} (exec_eq: ∀r w',(B (a.eval x)).run P w= .ok r w'->(execOp a.eval o).run P w= .ok (.value r) w')
 {new:Nat} {v:V} {u:Upd} (hs:Np i.size i.bytes z (Opd.ev f x') sb h new new_=some (v,u)):jv P o a μ h w v u:=by
 unfold Np at hs
 split at hs
 ·rename_i hcond
  obtain ⟨c1,c2,c3,c4⟩:=hcond
  unfold dz at c3 c4
  have hm63:new_.length<=1099511627776:=by
   have:new_.length*1<=new_.length*i.size:=jJ _ c2
   omega
  have empty: ∀(ad:Option Addr),a.eval x= .slice ad 0 0->h new=none-> ∀v u,(v,u)=(V.sl new 0 new_.length,[(new,(⟨i.size,false,new_⟩:Blk))])->jv P o a μ h w v u:=by
   intro ad hX hn v u hvu
   cases hvu
   by_cases hm:new_.length=0
   ·have hnil:new_=[]:=bN hm
    subst hnil
    obtain ⟨q1,q2⟩:=H.newNil (b:=new) (e:=i.size) hn
    refine ⟨.slice ad 0 0,w,μ,.inl (exec_eq _ _ ?_),q1,q2,.sl new 0 0 _ ⟨i.size,false,[]⟩ (by simp [hU,ci]) (.inr sm) ⟨_,_,rfl⟩ (fun _ _=>⟨_,_,rfl,.inl ⟨rfl,rfl⟩⟩)⟩
    have hr0:=roomL ad 0 0 sm
    simp only [ah] at hr0
    have hn0:news= #[]:=by have:=S.size;simp at this;exact this
    rw [hX,hr0,hn0]
    cases ad<;>rfl
   ·obtain ⟨nc,hnc,d⟩:=growL ad 0 0 #[]
     (fun w' _=>by cases ad<;>simp [Builtin.firstCells,loadCells,loadCellsFrom]) om (by rw [ce];omega) om
    rw [<-hX] at d
    simp only [ce] at d hnc
    have hsz:(#[]++news++Builtin.zeroCells zv.cells (nc-new_.length):Array Value).size=nc*i.size:=by
     have hzs:zv.cells.size=i.size:=by rw [<-c1, <-hcs];simp
     simp only [pD,S.size,size_zeroCells,hzs]
     simp only [Array.size_empty,ce, <-Nat.add_mul]
     congr 1;omega
    obtain ⟨μ',q1,q2,q3⟩:=Lw H (w':=p8 { w with drawn:=w.drawn+1 } (.cells (#[]++news++Builtin.zeroCells zv.cells (nc-new_.length)) e)) (o7 { w with drawn:=w.drawn+1 } _).drew (new:=new) hn (esz:=i.size) (rows:=new_) (lo:=0) (hi:=0) (cap:=nc)
     (ti { w with drawn:=w.drawn+1 } _) (.inl rfl) c2 hnc (by rw [hsz];exact am _) S.row
     (by
      have:=Qq (μ:=μ) (h:=h) (w:=w) (rows:=[]) (new_:=new_) (esz:=i.size) (arr:= #[]) (news:=news) (rest:=Builtin.zeroCells zv.cells (nc-new_.length)) sm (fun row p=>by simp at p) (fun i row j v hi=>by simp at hi) S.size (fun row p=>(S.row row p).1) S.rel
      simpa using this)
    exact ⟨_,_,μ',.inl (exec_eq _ _ d),q1,q2,q3⟩
  split at hs
  ·rename_i b n hbx
   split at hs
   ·rename_i k hk
    split at hs
    ·rename_i hc
     cases hs
     obtain ⟨k1,k2,k3,k4,k5,k6,k7⟩:=hc
     unfold dz at k5 k6
     rw [hbx] at m
     generalize hX:a.eval x=X at m
     cases m with
     |sl _ _ _ _ k' hk' hn' hx' hp=>
      rw [hk] at hk';cases hk'
      obtain ⟨ad,cap,rfl,hok⟩:=hp om om
      have hrw:=H.rows b k hk
      have hrow': ∀row∈k.rows++new_,row.length=k.esz/\ ∀v∈row,v.cell=true/\(k.op=false->v.cl=true):=by
       intro row hrow
       rcases aJ.1 hrow with h1|h1
       ·exact ⟨(hrw row h1).1 om,(hrw row h1).2⟩
       ·exact ⟨by rw [k3];exact (S.row row h1).1,fun v hv=>⟨((S.row row h1).2 v hv).1,fun _=>((S.row row h1).2 v hv).2⟩⟩
      by_cases l:n+new_.length<=cap
      ·
       rcases hok with ⟨g1,g2⟩|⟨cb,hcb,rfl,hcap,hnc⟩
       ·have hm0:new_=[]:=bN om
        have hn0:news= #[]:=by have:=S.size;rw [hm0] at this;simp at this;exact this
        have hr0:=roomL ad n cap l
        rw [hm0] at hr0
        simp only [ah,cH] at hr0
        have hkk:({ k with rows:=k.rows++new_ }:Blk)=k:=by rw [hm0,bM]
        have hhh:ci h b k=h:=by funext b';unfold ci;split<;>simp_all
        refine ⟨.slice ad n cap,w,μ,.inl (exec_eq _ _ ?_), ?_, ?_, ?_⟩
        ·rw [hX,hr0,hn0]
         cases ad<;>rfl
        ·show bG μ (ci h b _) w;rw [hkk,hhh];exact H
        ·show Chg μ h w μ (ci h b _) w;rw [hkk,hhh];exact Chg.refl _ _ _
        ·show b7 μ (ci h b _) w _ _
         rw [hkk,hhh,hm0]
         exact .sl b 0 _ _ k hk (.inr (by simp;omega)) ⟨_,_,rfl⟩ (fun _ _=>⟨_,_,rfl,.inl ⟨g1,g2⟩⟩)
       ·rcases H.blk b k hk with ⟨h1,_,hmn⟩|⟨_,c',arr,tt,lo,hi',hm',hh,hf,hl,hv⟩|⟨h0',_⟩
        ·rw [hcb] at hmn;cases hmn
        rotate_left
        ·omega
        ·rw [hcb] at hm';cases hm'
         have hbs:bsize w cb=arr.size:=by unfold bsize;rw [hh]
         have t:cap*i.size<=arr.size:=by rw [<-hbs, <-k3];simpa using hcap
         have hneed:(n+new_.length)*i.size<=arr.size:=fT (bg _ l) t
         have hns:news.toList.length=new_.length*i.size:=by rw [Array.length_toList,S.size]
         obtain ⟨arr',hst,y,hval⟩:=oe (P:=P) (o:=n*i.size) news.toList 0 arr w hh hf.at (by rw [Nat.add_mul] at hneed;omega)
          (fun v hv=>by
           obtain ⟨q,hq,rfl⟩:=bp hv
           have:=S.one c2 q (by simpa using hq)
           simpa [Array.getD_eq_getD_getElem?,(show q<news.size by simpa using hq)] using this)
         have hlt:=rq hh
         have s:=H.put (w':=iT w cb arr' tt (lo,hi')) (c:=cb) (k':={ k with rows:=k.rows++new_ }) hk k2 (.inl hcb)
          rfl rfl rfl (by rw [yj];exact am _) (am _) (fun c' _ hne=>Dc hne) (uz hlt) (by rw [y];exact hf) rfl
          (by rw [y,a8, <-k4,k3];exact hneed) hrow'
          (by
           by_cases hm:new_.length=0
           ·exact .inr ⟨by simp [hm],hcb,by rw [y,hbs]⟩
           ·exact .inl (by simp;omega))
          (fun i2 row2 j v h2 h3=>by
           simp only at h2 ⊢
           rw [hval]
           simp only [cH,hns]
           by_cases hlt2:i2<k.rows.length
           ·rw [bc hlt2] at h2
            have h4:=AP (fun row p=>(hrw row p).1 om) h2 h3
            rw [a7 (by rw [k4, <-k3];omega)]
            exact hv i2 row2 j v h2 h3
           ·rw [bt om] at h2
            have h4:=AP (fun row p=>(S.row row p).1) h2 h3
            have h5:i2*i.size=k.rows.length*i.size+(i2-k.rows.length)*i.size:=by rw [<-Nat.add_mul];congr 1;omega
            rw [k3,aa (by rw [k4];omega)]
            have:=S.rel (i2-k.rows.length) row2 j v h2 h3
            rw [show i2*i.size+j-n*i.size=(i2-k.rows.length)*i.size+j by rw [k4];omega]
            simpa [List.getD_eq_getElem?_getD,Array.getD_eq_getD_getElem?] using this)
         refine ⟨.slice (some ⟨cb,0*k.esz,none⟩) (n+new_.length) cap,_,_,.inl (exec_eq _ _ ?_),s.1,s.2, ?_⟩
         ·rw [hX]
          rw [nW]
          have hadd:=yc cb 0 (n*i.size)
          rw [ce] at hadd
          rw [roomL _ _ _ l]
          simp only [hadd,hst,Result.andThen_ok]
         ·refine .sl b 0 _ _ { k with rows:=k.rows++new_ } (by simp [hU,ci]) (.inr (by simp;omega)) ⟨_,_,rfl⟩ (fun _ _=>⟨_,_,rfl,.inr ⟨cb,by simp [cM],rfl, ?_,l⟩⟩)
          unfold bsize
          rw [uz hlt]
          simp only [ce]
          rw [y,k3];exact t
      ·
       have hold: ∃old:Array Value,(∀w',w'.heap=w.heap->(Builtin.firstCells i.size n (.slice ad n cap)).run P w'= .ok old w')/\old.size=k.rows.length*i.size/\
        ∀i2 row j v,k.rows[i2]? =some row->row[j]? =some v->b7 μ h w v (old.getD (i2*i.size+j) undef):=by
        have hr2:fm h i.size (.sl b 0 n)=some k.rows:=by simp [fm,hk,k1,k2,k3,k4];omega
        obtain ⟨old,S2⟩:=a2S (P:=P) H c2 hr2 (.sl b 0 n (.slice ad n cap) k hk hn' hx' hp)
        refine ⟨old,fun w' hw'=> ?_,S2.size,S2.rel⟩
        rw [S2.first n om w' hw',On _ _ (by rw [S2.size,k4];exact am _)]
       obtain ⟨old,hold1,hold2,hold3⟩:=hold
       obtain ⟨nc,hnc,d⟩:=growL ad n cap old hold1 om
        om (by
         have:(n+new_.length)*1<=(n+new_.length)*i.size:=jJ _ c2
         omega)
       rw [<-hX] at d
       have hsz:(old++news++Builtin.zeroCells zv.cells (nc-(n+new_.length)):Array Value).size=nc*i.size:=by
        have hzs:zv.cells.size=i.size:=by rw [<-c1, <-hcs];simp
        simp only [pD,S.size,size_zeroCells,hzs,hold2, <-k4, <-Nat.add_mul]
        congr 1;omega
       have hat:=ti { w with drawn:=w.drawn+1 } (.cells (old++news++Builtin.zeroCells zv.cells (nc-(n+new_.length))) e)
       have hgr:=o7 { w with drawn:=w.drawn+1 } (.cells (old++news++Builtin.zeroCells zv.cells (nc-(n+new_.length))) e)
       by_cases hm:new_.length=0
       ·exfalso
        rcases hok with ⟨g1,g2⟩|⟨cb,hcb,_,hcap,hnc2⟩<;>omega
       ·have s:=H.put (w':=p8 { w with drawn:=w.drawn+1 } (.cells (old++news++Builtin.zeroCells zv.cells (nc-(n+new_.length))) e)) (c:=w.heap.size) (k':={ k with rows:=k.rows++new_ }) hk k2 (.inr (am _))
         rfl rfl rfl hgr.2.2.2.1 hgr.drew.2.2.2.2.2 (fun c' hc' _=>hgr.2.2.2.2.1 c' hc') hat (.inl rfl) rfl
         (by rw [hsz,a8, <-k4,k3];exact bg _ hnc) hrow' (.inl (by simp;omega))
         (by
          have:=Qq (μ:=μ) (h:=h) (w:=w) (rest:=Builtin.zeroCells zv.cells (nc-(n+new_.length))) hold2 (fun row p=>by rw [(hrw row p).1 om,k3]) hold3 S.size (fun row p=>(S.row row p).1) S.rel
          simpa [k3] using this)
        refine ⟨_,_,_,.inl (exec_eq _ _ d),s.1,s.2,.sl b 0 _ _ { k with rows:=k.rows++new_ } (by simp [hU,ci]) (.inr (by simp;omega)) ⟨_,_,rfl⟩ (fun _ _=>⟨_,_,rfl,.inr ⟨w.heap.size,by simp [cM],by simp, ?_,hnc⟩⟩)⟩
        unfold bsize
        rw [hat]
        simp only [ce]
        rw [hsz,k3];exact am _
    ·cases hs
   ·cases hs
  ·rename_i hbx
   obtain ⟨hn,h0,p⟩:=uw hs
   rw [hbx] at m
   exact empty none (dw m) hn v u p
  ·rename_i hbx
   obtain ⟨hn,h0,p⟩:=uw hs
   rw [hbx] at m
   have: ∃ad,a.eval x= .slice ad 0 0:=by
    generalize a.eval x=X at m
    cases m with
    |emp ad=>exact ⟨ad,rfl⟩
    |imm0 _ ad cap he=>exact absurd rfl he
    |imm _ _ _ _ _ _ he p=>exact absurd rfl p
   obtain ⟨ad,hX⟩:=this
   exact empty ad hX hn v u p
  ·cases hs
 ·cases hs
set_option maxHeartbeats 1000000 in
theorem a43 [Frame] (H:bG μ h w) (E:ic μ h w f a) {o:Oper} {c:Call} {t u' e:TypeId} {d:TypeDesc} {i:TypeInfo} {z:List Value} {x y:Operand} {x' y':Opd} (hop:o.op= .call c) (hca:c.callee= .builtin .append) (l:c.args.toList=[x,y])
 (hx:bF x=some x') (hy:bF y=some y') (ht:c.argTypes[0]? =some t) (hu0:c.argTypes[1]? =some u') (hu:P.underlying u'=some d) (hd: ∀k,d≠ .int k) (he:P.underlying t=some (.slice e)) (hi:P.info? e=some i) (hz:Dr P e=some z)
 {C:cr} {ow:FuncId->List Nat} {new:Nat} {v:V} {u:Upd} (n:aK C ow (.append i.size i.bytes z x' y') (Opd.ev f) h new=some (v,u)):jv P o a μ h w v u:=by
 have hvx:=bX E hx
 have hvy:=bX E hy
 have ha:c.args= #[x,y]:=by rw [<-l]
 obtain ⟨i',zv,p,hzv,hcs,hzr⟩:=uH hz
 rw [hi] at p;cases p
 have exec_eq: ∀r w',(Builtin.append_ #[t,u'] o.type #[a.eval x,a.eval y]).run P w= .ok r w'->(execOp a.eval o).run P w= .ok (.value r) w':=by
  intro r w' hr
  have hat: ∀ty args,Builtin.append_ c.argTypes ty args=Builtin.append_ #[t,u'] ty args:=by
   intro ty args
   unfold Builtin.append_
   simp only [ht,hu0]
   rfl
  simp only [execOp,hop,resolve,hca,ha,Sem.run_bind,Sem.run_pure,Result.andThen_ok,invoke,builtin,hat,qK,aM,eu,hr]
 simp only [aK] at n
 split at n
 ·cases n
 ·rename_i new_ hnew_
  by_cases c2:0<i.size
  ·obtain ⟨news,S⟩:=a2S (P:=P) H c2 hnew_ hvy
   have j: ∀w',w'.heap=w.heap->(Builtin.firstCells i.size new_.length (a.eval y)).run P w'= .ok news w':=by
    intro w' hw'
    rw [S.first _ (am _) w' hw',On _ _ (by rw [S.size];exact am _)]
   exact Ov (B:=fun s=>Builtin.append_ #[t,u'] o.type #[s,a.eval y]) (sb:=fun b=>aK.selfOk b (Opd.ev f y')) H hcs hvx S.toR
    (fun base sLen sCap m=>Zv (w:=w) (t:=t) (u:=u') he hu hd hi (S.len w) (j w rfl) m)
    (fun base sLen sCap old q h1 h2 h3=>a0B (P:=P) (w:=w) (t:=t) (u:=u') (ty:=o.type) (base:=base) (sLen:=sLen) (sCap:=sCap) (old:=old) he hu hd hi hzv S.len j q h1 h2 h3)
    exec_eq n
  ·rw [a7 (fun hc=>c2 hc.2.1)] at n;cases n
end
end
section
section
variable {P:Program} {μ:Mu} {h:ba} {w:World} {f:Nat->V} {a:Act}
theorem HR [Frame] {x:Operand} {y:Opd} (E:ic μ h w f a) (c:bF x=some y) {dflt most n:Nat} (b:dM (some (y.ev f)) dflt most=some n) (code:BoundsCode):
 n<=most/\(Instr.sliceBound (a.eval x) most code).run P w= .ok n w:=by
 simp only [dM] at b
 split at b
 ·rename_i i hi
  split at b
  ·rename_i hc
   cases b
   obtain ⟨k,d⟩:=zH hi (bX E c)
   exact ⟨by omega,by simp [Instr.sliceBound,d,asIntOf,hc]⟩
  ·cases b
 ·cases b
theorem wR [Frame] (E:ic μ h w f a) {isS:Bool} {len cap:Nat} {lo hi:Option Operand} {lo' e:Option Opd} (b:sN lo=some lo') (c:sN hi=some e) {p q most:Nat} (t:most<=cap) (l:len<=most)
 (d:dM (e.map (Opd.ev f)) len most=some q) (k:dM (lo'.map (Opd.ev f)) 0 q=some p):
 p<=q/\q<=most/\(Instr.sliceBounds isS len cap (lo.map a.eval) (hi.map a.eval) none).run P w= .ok (p,q,cap) w:=by
 have s:q<=most/\(∀x,hi=some x-> ∀code,(Instr.sliceBound (a.eval x) cap code).run P w= .ok q w)/\(hi=none->q=len):=by
  cases hi with
  |none=>
   simp [sN] at c;subst c
   simp [dM] at d;subst d
   exact ⟨l,(fun x h=>by cases h),(fun _=>rfl)⟩
  |some x=>
   simp only [sN] at c
   split at c
   ·rename_i y i
    cases c
    have m:dM (some (y.ev f)) len cap=some q:=by
     simp only [fj,dM] at d ⊢
     split at d
     ·split at d
      ·rename_i hc;rw [aa ⟨hc.1,by omega⟩];exact d
      ·cases d
     ·cases d
    have n:=(HR (P:=P) E i (show dM (some (y.ev f)) len most=some q from d) .sliceB).1
    exact ⟨n,fun x' h code=>by cases h;exact (HR E i m code).2,fun h=>by cases h⟩
   ·cases c
 obtain ⟨n,r,o⟩:=s
 have j:p<=q/\(∀x,lo=some x-> ∀code,(Instr.sliceBound (a.eval x) q code).run P w= .ok p w)/\(lo=none->p=0):=by
  cases lo with
  |none=>
   simp [sN] at b;subst b
   simp [dM] at k;subst k
   exact ⟨tH _,(fun x h=>by cases h),(fun _=>rfl)⟩
  |some x=>
   simp only [sN] at b
   split at b
   ·rename_i y i
    cases b
    exact ⟨(HR (P:=P) E i k .sliceB).1,fun x' h code=>by cases h;exact (HR E i k code).2,fun h=>by cases h⟩
   ·cases b
 refine ⟨j.1,n, ?_⟩
 cases hi with
 |none=>
  have:=o rfl
  subst this
  cases lo with
  |none=>have:=j.2.2 rfl;subst this;simp [Instr.sliceBounds]
  |some y=>simp [Instr.sliceBounds,j.2.1 y rfl]
 |some x=>
  cases lo with
  |none=>have:=j.2.2 rfl;subst this;cases isS<;>simp [Instr.sliceBounds,r x rfl]
  |some y=>cases isS<;>simp [Instr.sliceBounds,r x rfl,j.2.1 y rfl]
theorem We [Frame] (H:bG μ h w) (E:ic μ h w f a) {o:Oper} {t:TypeId} {x:Operand} {lo hi:Option Operand} {x':Opd} {lo' c:Option Opd} (e:o.op= .slice t x lo hi none) (k:bF x=some x') (i:sN lo=some lo') (j:sN hi=some c)
 (l:P.underlying t=some .string) {C:cr} {ow:FuncId->List Nat} {new:Nat} {v:V} {u:Upd} (b:aK C ow (.sliceStr x' lo' c) (Opd.ev f) h new=some (v,u)):jv P o a μ h w v u:=by
 have d:=bX E k
 simp only [aK] at b
 split at b
 ·rename_i s m
  split at b
  ·rename_i q n
   split at b
   ·rename_i p r
    cases b
    rw [m] at d
    obtain ⟨z,h2,y⟩:=wR (P:=P) E (isS:=false) i j (am _) (am _) n r
    refine .quiet H (x:= .string (s.extract p q)) ?_ (.lit _)
    simp [execOp,e,Instr.sliceAt,Instr.slice,run_underlying l,dw d,y]
   ·cases b
  ·cases b
 ·cases b
theorem a6f [Frame] {e p q cap':Nat} {rows:List (List V)} {c off cap:Nat} (r:b7 μ h w (.imm e rows) (.slice (some ⟨c,off,none⟩) rows.length cap)) (s:rows≠[]) (t:p<=q) (hq:q<=rows.length) (u:q-p<=cap')
 {ad:Option Addr} (k:p<q->ad=some ⟨c,off+p*e,none⟩):b7 μ h w (.imm e ((rows.take q).drop p)) (.slice ad (q-p) cap'):=by
 generalize x:(Value.slice (some ⟨c,off,none⟩) rows.length cap)=X at r
 cases r with
 |emp=>exact absurd rfl s
 |imm0=>exact absurd rfl s
 |imm _ _ c' off' cap'' ys y _ z hc hs f b l=>
  injection x with m h2 h3
  injection m with m
  injection m with h4 h5
  subst h4 h5
  have a:((rows.take q).drop p).length=q-p:=by simp;omega
  by_cases hz:p=q
  ·subst hz
   have:(rows.take p).drop p=[]:=bN om
   rw [this,kI]
   exact .imm0 _ _ _ om
  ·have n:p<q:=by omega
   rw [k n, <-a]
   have get: ∀i,i<q-p->((rows.take q).drop p)[i]? =rows[p+i]? :=by
    intro i hi
    rw [fZ,kw,aa om]
   refine .imm e _ c (off+p*e) cap' (fun i j=>ys (p+i) j) y (by intro e0;rw [e0] at a;simp at a;omega) om hc hs
    (fun row d=>f row (cm (bZ d))) (fun i j hi o=> ?_) (fun i row j v hi o=> ?_)
   ·have:=b (p+i) j om o
    rw [<-this,Nat.add_mul]
    congr 2
    omega
   ·have hil:=dg hi
    rw [get i om] at hi
    exact l (p+i) row j v hi o
theorem a7G [Frame] (H:bG μ h w) (E:ic μ h w f a) {o:Oper} {t e:TypeId} {x:Operand} {lo hi mx:Option Operand} {x':Opd} {lo' hi' mx':Option Opd} {s0:Nat} (hop:o.op= .slice t x lo hi mx) (hx:bF x=some x') (l:sN lo=some lo') (m:sN hi=some hi') (hmx:sN mx=some mx')
 (hu:P.underlying t=some (.slice e)) (hsz:lj P e=some s0) {C:cr} {ow:FuncId->List Nat} {new:Nat} {v:V} {u:Upd} (d:aK C ow (.slice s0 x' lo' hi' mx') (Opd.ev f) h new=some (v,u)):jv P o a μ h w v u:=by
 have i:=bX E hx
 have hmn:mx'=none->mx=none:=by
  intro h1
  cases mx with
  |none=>rfl
  |some y=>
   simp only [sN] at hmx
   split at hmx
   ·subst h1;cases hmx
   ·cases hmx
 have run: ∀ad n cap p q,a.eval x= .slice ad n cap->p<=q->mx=none->(Instr.sliceBounds true n cap (lo.map a.eval) (hi.map a.eval) none).run P w= .ok (p,q,cap) w->
  (execOp a.eval o).run P w= .ok (.value (.slice (if cap=p then ad else ad.map (·.add (p*s0))) (q-p) (cap-p))) w:=by
  intro ad n cap p q hX hpq hm hb
  subst hm
  simp [execOp,hop,Instr.sliceAt,Instr.slice,run_underlying hu,hX,hb,gx hsz]
 simp only [aK] at d
 split at d
 ·cases d
 ·have hm:=hmn rfl
  split at d
  ·rename_i hb
   split at d
   ·rename_i q hq
    split at d
    ·rename_i p hp
     cases d
     rw [hb] at i
     obtain ⟨h1,h2,h3⟩:=wR (P:=P) E (isS:=true) (cap:=0) l m (am _) (am _) hq hp
     have r:q=0:=by omega
     subst r
     have z:p=0:=by omega
     subst z
     exact .quiet H (run none 0 0 0 0 (dw i) (am _) hm h3) (.lit _)
    ·cases d
   ·cases d
  ·rename_i b s n hb
   split at d
   ·rename_i k hk
    split at d
    ·rename_i hc
     obtain ⟨c1,c2,c3,c4⟩:=hc
     split at d
     ·rename_i q hq
      split at d
      ·rename_i p hp
       rw [hb] at i
       generalize hX:a.eval x=X at i
       have j:=i
       cases i with
       |sl _ _ _ _ k' hk' hn' hx' hp'=>
        rw [hk] at hk';cases hk'
        obtain ⟨ad,cap,rfl,hok⟩:=hp' om c4
        have hncap:n<=cap:=by rcases hok with ⟨g1,g2⟩|⟨_,_,_,_,g⟩<;>omega
        obtain ⟨h1,h2,h3⟩:=wR (P:=P) E (isS:=true) (cap:=cap) l m hncap (am _) hq hp
        have hrun:=run ad n cap p q hX h1 hm h3
        split at d
        ·rename_i hqn
         subst hqn
         cases d
         refine .quiet H hrun (.sl _ _ _ _ k hk (.inr om) ⟨_,_,rfl⟩ (fun _ _=>⟨_,_,rfl, ?_⟩))
         rcases hok with ⟨g1,g2⟩|⟨c,hcm,rfl,hcap,hnc⟩
         ·exact .inl ⟨by omega,by omega⟩
         ·by_cases hcp:cap=p
          ·exact .inl ⟨by omega,by omega⟩
          ·refine .inr ⟨c,hcm, ?_, ?_,by omega⟩
           ·rw [a7 hcp,fj,yc,Nat.add_mul,c3]
           ·have:s+p+(cap-p)=s+cap:=by omega
            rw [this];exact hcap
        ·rename_i hqn
         cases d
         obtain ⟨H1,C1⟩:=H.kill hk
         have himm:=MB H hk c1 c2 c4 j (μ':=cM μ b none) (ci h b kf) (by simp [cM]) (fun b' c h5=>by unfold cM at h5;split at h5<;>first| (cases h5;done)|exact h5)
         refine ⟨_,w,cM μ b none,.inl hrun,H1,C1, ?_⟩
         have hlen:(k.rows.drop s).length=n:=by simp;omega
         rcases hok with ⟨g1,g2⟩|⟨c,hcm,rfl,hcap,hnc⟩
         ·omega
         ·have hne:k.rows.drop s≠[]:=by intro e0;rw [e0] at hlen;simp at hlen;omega
          have himm':b7 (cM μ b none) (ci h b kf) w (.imm k.esz (k.rows.drop s)) (.slice (some ⟨c,s*k.esz,none⟩) (k.rows.drop s).length cap):=by rw [hlen];exact himm
          rw [<-c3]
          refine b7.cz (a6f himm' hne h1 om om (fun hpq=> ?_))
          rw [a7 om,fj,yc]
      ·cases d
     ·cases d
    ·cases d
   ·cases d
  ·rename_i e' rows hb
   split at d
   ·rename_i he
    split at d
    ·rename_i q hq
     split at d
     ·rename_i p hp
      cases d
      rw [hb] at i
      generalize hX:a.eval x=X at i
      have j:=i
      cases i with
      |emp ad=>
       obtain ⟨h1,h2,h3⟩:=wR (P:=P) E (isS:=true) (cap:=0) l m (am _) (am _) hq hp
       have h2:q<=0:=h2
       have r:q=0:=by omega
       subst r
       have z:p=0:=by omega
       subst z
       exact .quiet H (run ad 0 0 0 0 hX (am _) hm h3) j.cz
      |imm0 _ ad cap he0=>
       obtain ⟨h1,h2,h3⟩:=wR (P:=P) E (isS:=true) (cap:=cap) l m (tH _) (am _) hq hp
       have h2:q<=0:=h2
       have r:q=0:=by omega
       subst r
       have z:p=0:=by omega
       subst z
       refine .quiet H (run ad 0 cap 0 0 hX (am _) hm h3) ?_
       have e9:(List.drop 0 (List.take 0 ([]:List (List V))))=[]:=rfl
       rw [e9]
       exact (b7.imm0 _ _ _ he0).cz
      |imm _ _ c off cap ys he0 hr hcp hc d hrow hcell hv=>
       obtain ⟨h1,h2,h3⟩:=wR (P:=P) E (isS:=true) (cap:=cap) l m hcp (am _) hq hp
       have he:e'=s0:=by
        rcases he with he|he
        ·exact he
        ·exact absurd he hr
       subst he
       refine .quiet H (run _ _ cap p q hX h1 hm h3) (b7.cz (a6f j hr h1 h2 om (fun hpq=> ?_)))
       rw [a7 om,fj,yc]
     ·cases d
    ·cases d
   ·cases d
  ·cases d
end
end
end Go.AI
