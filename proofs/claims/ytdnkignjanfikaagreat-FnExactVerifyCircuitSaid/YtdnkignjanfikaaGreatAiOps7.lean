/- The operations of the abstract machine and the model's. Seventh part: append and copy. -/
import Derived.Test.YtdnkignjanfikaaGreatAiOps6
set_option linter.unusedVariables false
set_option linter.unusedSimpArgs false
namespace Go.AI
section
section
variable {P:Program} {μ:Mu} {h:aZ} {w:World} {f:Nat->V} {a:Act}
theorem a9o {w w':World} (hh:w'.heap=w.heap) (ad:Addr):w'.cell? ad=w.cell? ad:=by simp [World.cell?,hh]
structure Src [Frame] (P:Program) (μ:Mu) (h:aZ) (w:World) (esz:Nat) (rows:List (List V)) (x:Value) (news:Array Value):Prop where
 len: ∀w',(Builtin.lenOf x).run P w'= .ok rows.length w'
 first: ∀m,m<=rows.length-> ∀w',w'.heap=w.heap->(Builtin.firstCells esz m x).run P w'= .ok (news.extract 0 (m*esz)) w'
 size:news.size=rows.length*esz
 rel: ∀i row j v,rows[i]? =some row->row[j]? =some v->aX μ h w v (news.getD (i*esz+j) undef)
 row: ∀row∈rows,row.length=esz/\ ∀v∈row,v.cell=true/\v.cl=true
theorem Src.one [Frame] {esz:Nat} {rows:List (List V)} {x:Value} {news:Array Value} (S:Src P μ h w esz rows x news) (h0:0<esz): ∀k,k<news.size->ck (news.getD k undef)=true:=by
 intro k hk
 rw [S.size] at hk
 have hi:k/esz<rows.length:=(ke h0).2 hk
 have hj:=gG k h0
 have hrow:=aY hi
 have hlen:=(S.row _ hrow).1
 have hv:=S.rel (k/esz) rows[k/esz] (k%esz) (rows[k/esz][k%esz]'(by omega)) (aq hi) (aq (by omega))
 rw [pm,pB] at hv
 exact hv.oneCell ((S.row _ hrow).2 _ (aY _)).1
theorem Ob {α:Type} (x:Array α) (n:Nat) (h:x.size<=n):x.extract 0 n=x:=by
 apply eO
 simp [cq,h]
theorem a5t [Frame] (H:bD μ h w) {v:V} {x:Value} {esz:Nat} {rows:List (List V)} (h0:0<esz) (hr:eu h esz v=some rows) (hv:aX μ h w v x): ∃news,Src P μ h w esz rows x news:=by
 by_cases hs: ∃s,x= .string s
 ·obtain ⟨s,rfl⟩:=hs
  rcases a7P hv with h5|h5
  ·subst h5
   simp only [eu] at hr
   split at hr
   ·rename_i he
    subst he
    cases hr
    refine ⟨s.data.map fun b=> .int .u8 b.toNat,fun w'=>by simp [Builtin.lenOf],fun m hm w' hw'=> ?_,by simp,fun i row j v hi hj=> ?_,fun row hrow=> ?_⟩
    ·simp only [Builtin.firstCells,Sem.run_pure]
     congr 1
     apply eO
     simp [ByteArray.extract,ByteArray.copySlice]
    ·rw [aV] at hi
     cases hb':s.data.toList[i]? with
     |none=>rw [hb'] at hi;cases hi
     |some y=>
      rw [hb'] at hi;cases hi
      cases j with
      |zero=>
       simp at hj;subst hj
       simp only [qE,cQ,Array.getD_eq_getD_getElem?,a3h s i y hb',du]
       exact .lit _
      |succ j=>simp at hj
    ·obtain ⟨y,hy,rfl⟩:=bu.1 hrow
     exact ⟨rfl,fun v hv=>by simp at hv;subst hv;exact ⟨rfl,rfl⟩⟩
   ·cases hr
  ·subst h5;simp [eu] at hr
 ·obtain ⟨ad,cap,hX,hat⟩:=Mk H h0 hr hv (fun s e=>hs ⟨s,e⟩)
  subst hX
  rcases hat with rfl|⟨c,off,rfl,R,_,_⟩
  ·refine ⟨#[],fun w'=>by simp [Builtin.lenOf],fun m hm w' hw'=> ?_,by simp,fun i row j v hi=>by simp at hi,fun row hrow=>by simp at hrow⟩
   have:m=0:=by simpa using hm
   subst this
   cases ad with
   |none=>simp [Builtin.firstCells]
   |some ad=>simp [Builtin.firstCells,loadCells,loadCellsFrom]
  ·let fn:Nat->Value:=fun k=>(w.cell? ⟨c,off+k,none⟩).getD undef
   have hcell: ∀k,k<rows.length*esz->w.cell? ⟨c,off+k,none⟩=some (fn k):=by
    intro k hk
    have hi:k/esz<rows.length:=(ke h0).2 hk
    have hj:=gG k h0
    have hlen:=(R.row _ (aY hi)).1
    obtain ⟨y,hy,_⟩:=R.cell (k/esz) rows[k/esz] (k%esz) (rows[k/esz][k%esz]'(by omega)) (aq hi) (aq (by omega))
    rw [pm,pB] at hy
    show _=some ((w.cell? ⟨c,off+k,none⟩).getD undef)
    rw [hy];rfl
   refine ⟨(Array.range (rows.length*esz)).map fn,fun w'=>by simp [Builtin.lenOf],fun m hm w' hw'=> ?_,by simp,fun i row j v hi hj=> ?_,R.row⟩
   ·have hle:m*esz<=rows.length*esz:=bt _ hm
    simp only [Builtin.firstCells]
    rw [sB (w:=w') (f:=fn) (fun j hj=>by rw [a9o hw'];exact hcell j (by omega))]
    congr 1
    apply eO
    simp [<-List.map_take,List.take_range,gK hle]
   ·obtain ⟨y,hy,hv⟩:=R.cell i row j v hi hj
    have hlt:i*esz+j<rows.length*esz:=by
     have hil:=cS hi
     have hjl:=cS hj
     rw [(R.row _ (an hi)).1] at hjl
     have:(i+1)*esz<=rows.length*esz:=bt _ hil
     rw [Nat.add_mul,cB] at this
     omega
    have he:fn (i*esz+j)=y:=by
     show (w.cell? ⟨c,off+(i*esz+j),none⟩).getD undef=y
     rw [hy];rfl
    simp [hlt,he]
    exact hv
set_option maxHeartbeats 4000000 in
theorem a4h {t u e ty:TypeId} {d:TypeDesc} {i:TypeInfo} {z:Value} {base:Option Addr} {sLen sCap m:Nat} {x:Value} {news old:Array Value} (ht:P.underlying t=some (.slice e)) (hu:P.underlying u=some d) (hd: ∀k,d≠ .int k)
 (hi:P.info? e=some i) (hz:i.zero=some z) (hlen: ∀w',(Builtin.lenOf x).run P w'= .ok m w') (hnew: ∀w',w'.heap=w.heap->(Builtin.firstCells i.size m x).run P w'= .ok news w')
 (hold: ∀w',w'.heap=w.heap->(Builtin.firstCells i.size sLen (.slice base sLen sCap)).run P w'= .ok old w') (hcap:sCap<sLen+m) (hb:(sLen+m)*i.bytes<=140737488355328) (h63:sLen+m<=9223372036854775807):
 ∃nc,sLen+m<=nc/\(Builtin.append_ #[t,u] ty #[.slice base sLen sCap,x]).run P w=
  .ok (.slice (some ⟨w.heap.size,0,none⟩) (sLen+m) nc) (mV { w with drawn:=w.drawn+1 } (.cells (old++news++Builtin.zeroCells z.cells (nc-(sLen+m))) e)):=by
 refine ⟨(Question.appendCap (sLen+m) sCap e).cut (w.tape w.drawn (.appendCap (sLen+m) sCap e)),by simp only [Question.cut];omega, ?_⟩
 have hfit:=growslice_fits (need:=sLen+m) (old:=sCap) (bytes:=i.bytes) (by omega) hb
 have hforced:(Question.appendCap (sLen+m) sCap e).forced=false:=rfl
 have n1: ¬sLen+m<=sCap:=by omega
 have n2: ¬(281474976710656<Builtin.nextslicecap (sLen+m) sCap*i.bytes):=by omega
 have n3: ¬(9223372036854775807<(sLen:Int)+(m:Int)):=by omega
 have hmax:IntKind.i64.max=9223372036854775807:=rfl
 have ho:=hold w.drew rfl
 have hn:=hnew w.drew rfl
 cases d<;>first
  | (exfalso;exact hd _ rfl)
  | (simp [Builtin.append_,run_underlying ht,run_underlying hu,sizeOf,typeInfo,hi,hlen,n1,n2,n3,hforced,hmax,ho,hn,zeroValue,hz,newRow];rfl)
theorem Q7 {x y:Array Value} (k:Nat):(x++y).getD k undef=if k<x.size then x.getD k undef else y.getD (k-x.size) undef:=by
 rw [Array.getD_eq_getD_getElem?,Array.getD_eq_getD_getElem?,Array.getD_eq_getD_getElem?,pu]
 split<;>rfl
set_option maxHeartbeats 4000000 in
theorem a48 {t u e ty:TypeId} {d:TypeDesc} {i:TypeInfo} {base:Option Addr} {sLen sCap m:Nat} {x:Value} {news:Array Value} (ht:P.underlying t=some (.slice e)) (hu:P.underlying u=some d) (hd: ∀k,d≠ .int k)
 (hi:P.info? e=some i) (hlen:(Builtin.lenOf x).run P w= .ok m w) (hnew:(Builtin.firstCells i.size m x).run P w= .ok news w) (hroom:sLen+m<=sCap):
 (Builtin.append_ #[t,u] ty #[.slice base sLen sCap,x]).run P w=
  ((match base with|some a=>storeCells (a.add (sLen*i.size)) news.toList|none=>pure ():Sem Unit).run P w).andThen fun _ w'=> .ok (.slice base (sLen+m) sCap) w':=by
 cases d<;>first
  | (exfalso;exact hd _ rfl)
  | (cases base<;>simp [Builtin.append_,run_underlying ht,run_underlying hu,sizeOf,typeInfo,hi,hlen,hroom,hnew])
theorem zf [Frame] {rows:List (List V)} {esz i j:Nat} {row:List V} {v:V} (hrow: ∀row∈rows,row.length=esz) (hi:rows[i]? =some row) (hj:row[j]? =some v):i*esz+j<rows.length*esz:=by
 have hil:=cS hi
 have hjl:=cS hj
 rw [hrow _ (an hi)] at hjl
 have:(i+1)*esz<=rows.length*esz:=bt _ hil
 rw [Nat.add_mul,cB] at this
 omega
theorem SH [Frame] {rows new_:List (List V)} {esz:Nat} {arr news rest:Array Value} (hsz:arr.size=rows.length*esz) (hrow: ∀row∈rows,row.length=esz)
 (hv: ∀i row j v,rows[i]? =some row->row[j]? =some v->aX μ h w v (arr.getD (i*esz+j) undef))
 (hns:news.size=new_.length*esz) (hnrow: ∀row∈new_,row.length=esz) (hnv: ∀i row j v,new_[i]? =some row->row[j]? =some v->aX μ h w v (news.getD (i*esz+j) undef)):
 ∀i row j v,(rows++new_)[i]? =some row->row[j]? =some v->aX μ h w v ((arr++news++rest).getD (i*esz+j) undef):=by
 intro i row j v hi hj
 by_cases hlt:i<rows.length
 ·rw [bI hlt] at hi
  have h1:=zf hrow hi hj
  rw [Q7,ae (by rw [nw];omega),Q7,ae (by omega)]
  exact hv i row j v hi hj
 ·rw [bS (by omega)] at hi
  have h1:=zf hnrow hi hj
  have h2:i*esz=rows.length*esz+(i-rows.length)*esz:=by rw [<-Nat.add_mul];congr 1;omega
  rw [Q7,ae (by rw [nw];omega),Q7,aa (by omega)]
  have:=hnv (i-rows.length) row j v hi hj
  rwa [show i*esz+j-arr.size=(i-rows.length)*esz+j by omega]
structure b5M [Frame] (μ:Mu) (h:aZ) (w:World) (esz:Nat) (rows:List (List V)) (news:Array Value):Prop where
 size:news.size=rows.length*esz
 rel: ∀i row j v,rows[i]? =some row->row[j]? =some v->aX μ h w v (news.getD (i*esz+j) undef)
 row: ∀row∈rows,row.length=esz/\ ∀v∈row,v.cell=true/\v.cl=true
theorem Src.toR [Frame] {esz:Nat} {rows:List (List V)} {x:Value} {news:Array Value} (S:Src P μ h w esz rows x news):b5M μ h w esz rows news:=⟨S.size,S.rel,S.row⟩
theorem b5M.one [Frame] {esz:Nat} {rows:List (List V)} {news:Array Value} (S:b5M μ h w esz rows news) (h0:0<esz): ∀k,k<news.size->ck (news.getD k undef)=true:=by
 intro k hk
 rw [S.size] at hk
 have hi:k/esz<rows.length:=(ke h0).2 hk
 have hj:=gG k h0
 have hrow:=aY hi
 have hlen:=(S.row _ hrow).1
 have hv:=S.rel (k/esz) rows[k/esz] (k%esz) (rows[k/esz][k%esz]'(by omega)) (aq hi) (aq (by omega))
 rw [pm,pB] at hv
 exact hv.oneCell ((S.row _ hrow).2 _ (aY _)).1
set_option maxHeartbeats 1000000 in
theorem NP [Frame] (H:bD μ h w) {e:TypeId} {i:TypeInfo} {z:List Value} {zv:Value} (hcs:zv.cells.toList=z) {x:Operand} {x':Opd} (hvx:aX μ h w (Opd.ev f x') (a.eval x)) {new_:List (List V)} {news:Array Value}
 (S:b5M μ h w i.size new_ news) {B:Value->Sem Value}
 (roomL: ∀base sLen sCap,sLen+new_.length<=sCap->(B (.slice base sLen sCap)).run P w=((match base with|some a=>storeCells (a.add (sLen*i.size)) news.toList|none=>pure ():Sem Unit).run P w).andThen fun _ w'=> .ok (.slice base (sLen+new_.length) sCap) w')
 (growL: ∀base sLen sCap (old:Array Value),(∀w':World,w'.heap=w.heap->(Builtin.firstCells i.size sLen (.slice base sLen sCap)).run P w'= .ok old w')->sCap<sLen+new_.length->(sLen+new_.length)*i.bytes<=140737488355328->sLen+new_.length<=9223372036854775807->
  ∃nc,sLen+new_.length<=nc/\(B (.slice base sLen sCap)).run P w= .ok (.slice (some ⟨w.heap.size,0,none⟩) (sLen+new_.length) nc) (mV { w with drawn:=w.drawn+1 } (.cells (old++news++Builtin.zeroCells zv.cells (nc-(sLen+new_.length))) e)))
 {sb:Nat->Bool} {o:Oper} (exec_eq: ∀r w',(B (a.eval x)).run P w= .ok r w'->(execOp a.eval o).run P w= .ok (.value r) w')
 {new:Nat} {v:V} {u:Upd} (hs:Kq i.size i.bytes z (Opd.ev f x') sb h new new_=some (v,u)):iC P o a μ h w v u:=by
 unfold Kq at hs
 split at hs
 ·rename_i hcond
  obtain ⟨c1,c2,c3,c4⟩:=hcond
  unfold cU at c3 c4
  have hm63:new_.length<=1099511627776:=by
   have:new_.length*1<=new_.length*i.size:=iK _ c2
   omega
  have empty: ∀(ad:Option Addr),a.eval x= .slice ad 0 0->h new=none-> ∀v u,(v,u)=(V.sl new 0 new_.length,[(new,(⟨i.size,false,new_⟩:Blk))])->iC P o a μ h w v u:=by
   intro ad hX hn v u hvu
   cases hvu
   by_cases hm:new_.length=0
   ·have hnil:new_=[]:=bU hm
    subst hnil
    obtain ⟨q1,q2⟩:=H.newNil (b:=new) (e:=i.size) hn
    refine ⟨.slice ad 0 0,w,μ,.inl (exec_eq _ _ ?_),q1,q2,.sl new 0 0 _ ⟨i.size,false,[]⟩ (by simp [fX,bV]) (.inr (by simp)) ⟨_,_,rfl⟩ (fun _ _=>⟨_,_,rfl,.inl ⟨rfl,rfl⟩⟩)⟩
    have hr0:=roomL ad 0 0 (by simp)
    simp only [ai] at hr0
    have hn0:news= #[]:=by have:=S.size;simp at this;exact this
    rw [hX,hr0,hn0]
    cases ad<;>rfl
   ·obtain ⟨nc,hnc,hrun⟩:=growL ad 0 0 #[]
     (fun w' _=>by cases ad<;>simp [Builtin.firstCells,loadCells,loadCellsFrom]) (by omega) (by rw [cI];omega) (by omega)
    rw [<-hX] at hrun
    simp only [cI] at hrun hnc
    have hsz:(#[]++news++Builtin.zeroCells zv.cells (nc-new_.length):Array Value).size=nc*i.size:=by
     have hzs:zv.cells.size=i.size:=by rw [<-c1, <-hcs];simp
     simp only [nw,S.size,size_zeroCells,hzs]
     simp only [Array.size_empty,cI, <-Nat.add_mul]
     congr 1;omega
    obtain ⟨μ',q1,q2,q3⟩:=La H (w':=mV { w with drawn:=w.drawn+1 } (.cells (#[]++news++Builtin.zeroCells zv.cells (nc-new_.length)) e)) (md { w with drawn:=w.drawn+1 } _).drew (new:=new) hn (esz:=i.size) (rows:=new_) (lo:=0) (hi:=0) (cap:=nc)
     (qf { w with drawn:=w.drawn+1 } _) (.inl rfl) c2 hnc (by rw [hsz];exact aw _) S.row
     (by
      have:=SH (μ:=μ) (h:=h) (w:=w) (rows:=[]) (new_:=new_) (esz:=i.size) (arr:= #[]) (news:=news) (rest:=Builtin.zeroCells zv.cells (nc-new_.length)) (by simp) (fun row hr=>by simp at hr) (fun i row j v hi=>by simp at hi) S.size (fun row hr=>(S.row row hr).1) S.rel
      simpa using this)
    exact ⟨_,_,μ',.inl (exec_eq _ _ hrun),q1,q2,q3⟩
  split at hs
  ·rename_i b n hbx
   split at hs
   ·rename_i k hk
    split at hs
    ·rename_i hc
     cases hs
     obtain ⟨k1,k2,k3,k4,k5,k6,k7⟩:=hc
     unfold cU at k5 k6
     rw [hbx] at hvx
     generalize hX:a.eval x=X at hvx
     cases hvx with
     |sl _ _ _ _ k' hk' hn' hx' hp=>
      rw [hk] at hk';cases hk'
      obtain ⟨ad,cap,rfl,hok⟩:=hp (by omega) (by omega)
      have hrw:=H.rows b k hk
      have hrow': ∀row∈k.rows++new_,row.length=k.esz/\ ∀v∈row,v.cell=true/\(k.op=false->v.cl=true):=by
       intro row hrow
       rcases aW.1 hrow with h1|h1
       ·exact ⟨(hrw row h1).1 (by omega),(hrw row h1).2⟩
       ·exact ⟨by rw [k3];exact (S.row row h1).1,fun v hv=>⟨((S.row row h1).2 v hv).1,fun _=>((S.row row h1).2 v hv).2⟩⟩
      by_cases hroom:n+new_.length<=cap
      ·
       rcases hok with ⟨g1,g2⟩|⟨cb,hcb,rfl,hcap,hnc⟩
       ·have hm0:new_=[]:=bU (by omega)
        have hn0:news= #[]:=by have:=S.size;rw [hm0] at this;simp at this;exact this
        have hr0:=roomL ad n cap hroom
        rw [hm0] at hr0
        simp only [ai,cQ] at hr0
        have hkk:({ k with rows:=k.rows++new_ }:Blk)=k:=by rw [hm0,bW]
        have hhh:bV h b k=h:=by funext b';unfold bV;split<;>simp_all
        refine ⟨.slice ad n cap,w,μ,.inl (exec_eq _ _ ?_), ?_, ?_, ?_⟩
        ·rw [hX,hr0,hn0]
         cases ad<;>rfl
        ·show bD μ (bV h b _) w;rw [hkk,hhh];exact H
        ·show Chg μ h w μ (bV h b _) w;rw [hkk,hhh];exact Chg.refl _ _ _
        ·show aX μ (bV h b _) w _ _
         rw [hkk,hhh,hm0]
         exact .sl b 0 _ _ k hk (.inr (by simp;omega)) ⟨_,_,rfl⟩ (fun _ _=>⟨_,_,rfl,.inl ⟨g1,g2⟩⟩)
       ·rcases H.blk b k hk with ⟨h1,_,hmn⟩|⟨_,c',arr,tt,lo,hi',hm',hh,hf,hl,hv⟩|⟨h0',_⟩
        ·rw [hcb] at hmn;cases hmn
        rotate_left
        ·omega
        ·rw [hcb] at hm';cases hm'
         have hbs:bsize w cb=arr.size:=by unfold bsize;rw [hh]
         have hcapsz:cap*i.size<=arr.size:=by rw [<-hbs, <-k3];simpa using hcap
         have hneed:(n+new_.length)*i.size<=arr.size:=ed (bt _ hroom) hcapsz
         have hns:news.toList.length=new_.length*i.size:=by rw [Array.length_toList,S.size]
         obtain ⟨arr',hst,hsz',hval⟩:=mM (P:=P) (o:=n*i.size) news.toList 0 arr w hh hf.at (by rw [Nat.add_mul] at hneed;omega)
          (fun v hv=>by
           obtain ⟨q,hq,rfl⟩:=bq hv
           have:=S.one c2 q (by simpa using hq)
           simpa [Array.getD_eq_getD_getElem?,(show q<news.size by simpa using hq)] using this)
         have hlt:=ot hh
         have hput:=H.put (w':=hO w cb arr' tt (lo,hi')) (c:=cb) (k':={ k with rows:=k.rows++new_ }) hk k2 (.inl hcb)
          rfl rfl rfl (by rw [vD];exact aw _) (aw _) (fun c' _ hne=>Cp hne) (rF hlt) (by rw [hsz'];exact hf) rfl
          (by rw [hsz',ab, <-k4,k3];exact hneed) hrow'
          (by
           by_cases hm:new_.length=0
           ·exact .inr ⟨by simp [hm],hcb,by rw [hsz',hbs]⟩
           ·exact .inl (by simp;omega))
          (fun i2 row2 j v h2 h3=>by
           simp only at h2 ⊢
           rw [hval]
           simp only [cQ,hns]
           by_cases hlt2:i2<k.rows.length
           ·rw [bI hlt2] at h2
            have h4:=zf (fun row hr=>(hrw row hr).1 (by omega)) h2 h3
            rw [aa (by rw [k4, <-k3];omega)]
            exact hv i2 row2 j v h2 h3
           ·rw [bS (by omega)] at h2
            have h4:=zf (fun row hr=>(S.row row hr).1) h2 h3
            have h5:i2*i.size=k.rows.length*i.size+(i2-k.rows.length)*i.size:=by rw [<-Nat.add_mul];congr 1;omega
            rw [k3,ae (by rw [k4];omega)]
            have:=S.rel (i2-k.rows.length) row2 j v h2 h3
            rw [show i2*i.size+j-n*i.size=(i2-k.rows.length)*i.size+j by rw [k4];omega]
            simpa [bp,Array.getD_eq_getD_getElem?] using this)
         refine ⟨.slice (some ⟨cb,0*k.esz,none⟩) (n+new_.length) cap,_,_,.inl (exec_eq _ _ ?_),hput.1,hput.2, ?_⟩
         ·rw [hX]
          rw [lR]
          have hadd:=w5 cb 0 (n*i.size)
          rw [cI] at hadd
          rw [roomL _ _ _ hroom]
          simp only [hadd,hst,Result.andThen_ok]
         ·refine .sl b 0 _ _ { k with rows:=k.rows++new_ } (by simp [fX,bV]) (.inr (by simp;omega)) ⟨_,_,rfl⟩ (fun _ _=>⟨_,_,rfl,.inr ⟨cb,by simp [cE],rfl, ?_,hroom⟩⟩)
          unfold bsize
          rw [rF hlt]
          simp only [cI]
          rw [hsz',k3];exact hcapsz
      ·
       have hold: ∃old:Array Value,(∀w',w'.heap=w.heap->(Builtin.firstCells i.size n (.slice ad n cap)).run P w'= .ok old w')/\old.size=k.rows.length*i.size/\
        ∀i2 row j v,k.rows[i2]? =some row->row[j]? =some v->aX μ h w v (old.getD (i2*i.size+j) undef):=by
        have hr2:eu h i.size (.sl b 0 n)=some k.rows:=by simp [eu,hk,k1,k2,k3,k4];omega
        obtain ⟨old,S2⟩:=a5t (P:=P) H c2 hr2 (.sl b 0 n (.slice ad n cap) k hk hn' hx' hp)
        refine ⟨old,fun w' hw'=> ?_,S2.size,S2.rel⟩
        rw [S2.first n (by omega) w' hw',Ob _ _ (by rw [S2.size,k4];exact aw _)]
       obtain ⟨old,hold1,hold2,hold3⟩:=hold
       obtain ⟨nc,hnc,hrun⟩:=growL ad n cap old hold1 (by omega)
        (by omega) (by
         have:(n+new_.length)*1<=(n+new_.length)*i.size:=iK _ c2
         omega)
       rw [<-hX] at hrun
       have hsz:(old++news++Builtin.zeroCells zv.cells (nc-(n+new_.length)):Array Value).size=nc*i.size:=by
        have hzs:zv.cells.size=i.size:=by rw [<-c1, <-hcs];simp
        simp only [nw,S.size,size_zeroCells,hzs,hold2, <-k4, <-Nat.add_mul]
        congr 1;omega
       have hat:=qf { w with drawn:=w.drawn+1 } (.cells (old++news++Builtin.zeroCells zv.cells (nc-(n+new_.length))) e)
       have hgr:=md { w with drawn:=w.drawn+1 } (.cells (old++news++Builtin.zeroCells zv.cells (nc-(n+new_.length))) e)
       by_cases hm:new_.length=0
       ·exfalso
        rcases hok with ⟨g1,g2⟩|⟨cb,hcb,_,hcap,hnc2⟩<;>omega
       ·have hput:=H.put (w':=mV { w with drawn:=w.drawn+1 } (.cells (old++news++Builtin.zeroCells zv.cells (nc-(n+new_.length))) e)) (c:=w.heap.size) (k':={ k with rows:=k.rows++new_ }) hk k2 (.inr (aw _))
         rfl rfl rfl hgr.2.2.2.1 hgr.drew.2.2.2.2.2 (fun c' hc' _=>hgr.2.2.2.2.1 c' hc') hat (.inl rfl) rfl
         (by rw [hsz,ab, <-k4,k3];exact bt _ hnc) hrow' (.inl (by simp;omega))
         (by
          have:=SH (μ:=μ) (h:=h) (w:=w) (rest:=Builtin.zeroCells zv.cells (nc-(n+new_.length))) hold2 (fun row hr=>by rw [(hrw row hr).1 (by omega),k3]) hold3 S.size (fun row hr=>(S.row row hr).1) S.rel
          simpa [k3] using this)
        refine ⟨_,_,_,.inl (exec_eq _ _ hrun),hput.1,hput.2,.sl b 0 _ _ { k with rows:=k.rows++new_ } (by simp [fX,bV]) (.inr (by simp;omega)) ⟨_,_,rfl⟩ (fun _ _=>⟨_,_,rfl,.inr ⟨w.heap.size,by simp [cE],by simp, ?_,hnc⟩⟩)⟩
        unfold bsize
        rw [hat]
        simp only [cI]
        rw [hsz,k3];exact aw _
    ·cases hs
   ·cases hs
  ·rename_i hbx
   obtain ⟨hn,h0,hr⟩:=rI hs
   rw [hbx] at hvx
   exact empty none (de hvx) hn v u hr
  ·rename_i hbx
   obtain ⟨hn,h0,hr⟩:=rI hs
   rw [hbx] at hvx
   have: ∃ad,a.eval x= .slice ad 0 0:=by
    generalize a.eval x=X at hvx
    cases hvx with
    |emp ad=>exact ⟨ad,rfl⟩
    |imm0 _ ad cap he=>exact absurd rfl he
    |imm _ _ _ _ _ _ he hr=>exact absurd rfl hr
   obtain ⟨ad,hX⟩:=this
   exact empty ad hX hn v u hr
  ·cases hs
 ·cases hs
set_option maxHeartbeats 1000000 in
theorem a6q [Frame] (H:bD μ h w) (E:gj μ h w f a) {o:Oper} {c:Call} {t u' e:TypeId} {d:TypeDesc} {i:TypeInfo} {z:List Value} {x y:Operand} {x' y':Opd} (hop:o.op= .call c) (hca:c.callee= .builtin .append) (hargs:c.args.toList=[x,y])
 (hx:bC x=some x') (hy:bC y=some y') (ht:c.argTypes[0]? =some t) (hu0:c.argTypes[1]? =some u') (hu:P.underlying u'=some d) (hd: ∀k,d≠ .int k) (he:P.underlying t=some (.slice e)) (hi:P.info? e=some i) (hz:Cl P e=some z)
 {C:cg} {ow:FuncId->List Nat} {new:Nat} {v:V} {u:Upd} (hs:aN C ow (.append i.size i.bytes z x' y') (Opd.ev f) h new=some (v,u)):iC P o a μ h w v u:=by
 have hvx:=bP E hx
 have hvy:=bP E hy
 have ha:c.args= #[x,y]:=by rw [<-hargs]
 obtain ⟨i',zv,hi',hzv,hcs,hzr⟩:=rP hz
 rw [hi] at hi';cases hi'
 have exec_eq: ∀r w',(Builtin.append_ #[t,u'] o.type #[a.eval x,a.eval y]).run P w= .ok r w'->(execOp a.eval o).run P w= .ok (.value r) w':=by
  intro r w' hr
  have hat: ∀ty args,Builtin.append_ c.argTypes ty args=Builtin.append_ #[t,u'] ty args:=by
   intro ty args
   unfold Builtin.append_
   simp only [ht,hu0]
   rfl
  simp only [execOp,hop,resolve,hca,ha,Sem.run_bind,Sem.run_pure,Result.andThen_ok,invoke,builtin,hat,oy,aS,ee,hr]
 simp only [aN] at hs
 split at hs
 ·cases hs
 ·rename_i new_ hnew_
  by_cases c2:0<i.size
  ·obtain ⟨news,S⟩:=a5t (P:=P) H c2 hnew_ hvy
   have hfirst: ∀w',w'.heap=w.heap->(Builtin.firstCells i.size new_.length (a.eval y)).run P w'= .ok news w':=by
    intro w' hw'
    rw [S.first _ (aw _) w' hw',Ob _ _ (by rw [S.size];exact aw _)]
   exact NP (B:=fun s=>Builtin.append_ #[t,u'] o.type #[s,a.eval y]) (sb:=fun b=>aN.selfOk b (Opd.ev f y')) H hcs hvx S.toR
    (fun base sLen sCap hroom=>a48 (w:=w) (t:=t) (u:=u') he hu hd hi (S.len w) (hfirst w rfl) hroom)
    (fun base sLen sCap old hold h1 h2 h3=>a4h (P:=P) (w:=w) (t:=t) (u:=u') (ty:=o.type) (base:=base) (sLen:=sLen) (sCap:=sCap) (old:=old) he hu hd hi hzv S.len hfirst hold h1 h2 h3)
    exec_eq hs
  ·rw [aa (fun hc=>c2 hc.2.1)] at hs;cases hs
end
end
section
section
variable {P:Program} {μ:Mu} {h:aZ} {w:World} {f:Nat->V} {a:Act}
theorem HR [Frame] {x:Operand} {y:Opd} (E:gj μ h w f a) (hx:bC x=some y) {dflt most n:Nat} (hb:dt (some (y.ev f)) dflt most=some n) (code:BoundsCode):
 n<=most/\(Instr.sliceBound (a.eval x) most code).run P w= .ok n w:=by
 simp only [dt] at hb
 split at hb
 ·rename_i i hi
  split at hb
  ·rename_i hc
   cases hb
   obtain ⟨k,hk⟩:=xO hi (bP E hx)
   exact ⟨by omega,by simp [Instr.sliceBound,hk,asIntOf,hc]⟩
  ·cases hb
 ·cases hb
theorem tw [Frame] (E:gj μ h w f a) {isS:Bool} {len cap:Nat} {lo hi:Option Operand} {lo' hi':Option Opd} (hlo:pI lo=some lo') (hhi:pI hi=some hi') {p q most:Nat} (hm:most<=cap) (hml:len<=most)
 (hq:dt (hi'.map (Opd.ev f)) len most=some q) (hp:dt (lo'.map (Opd.ev f)) 0 q=some p):
 p<=q/\q<=most/\(Instr.sliceBounds isS len cap (lo.map a.eval) (hi.map a.eval) none).run P w= .ok (p,q,cap) w:=by
 have hh:q<=most/\(∀x,hi=some x-> ∀code,(Instr.sliceBound (a.eval x) cap code).run P w= .ok q w)/\(hi=none->q=len):=by
  cases hi with
  |none=>
   simp [pI] at hhi;subst hhi
   simp [dt] at hq;subst hq
   exact ⟨hml,(fun x h=>by cases h),(fun _=>rfl)⟩
  |some x=>
   simp only [pI] at hhi
   split at hhi
   ·rename_i y hy
    cases hhi
    have hq2:dt (some (y.ev f)) len cap=some q:=by
     simp only [ej,dt] at hq ⊢
     split at hq
     ·split at hq
      ·rename_i hc;rw [ae ⟨hc.1,by omega⟩];exact hq
      ·cases hq
     ·cases hq
    have h1:=(HR (P:=P) E hy (show dt (some (y.ev f)) len most=some q from hq) .sliceB).1
    exact ⟨h1,fun x' h code=>by cases h;exact (HR E hy hq2 code).2,fun h=>by cases h⟩
   ·cases hhi
 obtain ⟨h1,h2,h2'⟩:=hh
 have hl:p<=q/\(∀x,lo=some x-> ∀code,(Instr.sliceBound (a.eval x) q code).run P w= .ok p w)/\(lo=none->p=0):=by
  cases lo with
  |none=>
   simp [pI] at hlo;subst hlo
   simp [dt] at hp;subst hp
   exact ⟨qH _,(fun x h=>by cases h),(fun _=>rfl)⟩
  |some x=>
   simp only [pI] at hlo
   split at hlo
   ·rename_i y hy
    cases hlo
    exact ⟨(HR (P:=P) E hy hp .sliceB).1,fun x' h code=>by cases h;exact (HR E hy hp code).2,fun h=>by cases h⟩
   ·cases hlo
 refine ⟨hl.1,h1, ?_⟩
 cases hi with
 |none=>
  have:=h2' rfl
  subst this
  cases lo with
  |none=>have:=hl.2.2 rfl;subst this;simp [Instr.sliceBounds]
  |some y=>simp [Instr.sliceBounds,hl.2.1 y rfl]
 |some x=>
  cases lo with
  |none=>have:=hl.2.2 rfl;subst this;cases isS<;>simp [Instr.sliceBounds,h2 x rfl]
  |some y=>cases isS<;>simp [Instr.sliceBounds,h2 x rfl,hl.2.1 y rfl]
theorem Yf [Frame] (H:bD μ h w) (E:gj μ h w f a) {o:Oper} {t:TypeId} {x:Operand} {lo hi:Option Operand} {x':Opd} {lo' hi':Option Opd} (hop:o.op= .slice t x lo hi none) (hx:bC x=some x') (hlo:pI lo=some lo') (hhi:pI hi=some hi')
 (hu:P.underlying t=some .string) {C:cg} {ow:FuncId->List Nat} {new:Nat} {v:V} {u:Upd} (hs:aN C ow (.sliceStr x' lo' hi') (Opd.ev f) h new=some (v,u)):iC P o a μ h w v u:=by
 have hvx:=bP E hx
 simp only [aN] at hs
 split at hs
 ·rename_i s hb
  split at hs
  ·rename_i q hq
   split at hs
   ·rename_i p hp
    cases hs
    rw [hb] at hvx
    obtain ⟨h1,h2,h3⟩:=tw (P:=P) E (isS:=false) hlo hhi (aw _) (aw _) hq hp
    refine .quiet H (x:= .string (s.extract p q)) ?_ (.lit _)
    simp [execOp,hop,Instr.sliceAt,Instr.slice,run_underlying hu,de hvx,h3]
   ·cases hs
  ·cases hs
 ·cases hs
theorem a8V [Frame] {e p q cap':Nat} {rows:List (List V)} {c off cap:Nat} (hv:aX μ h w (.imm e rows) (.slice (some ⟨c,off,none⟩) rows.length cap)) (hr:rows≠[]) (hpq:p<=q) (hq:q<=rows.length) (hqc:q-p<=cap')
 {ad:Option Addr} (had:p<q->ad=some ⟨c,off+p*e,none⟩):aX μ h w (.imm e ((rows.take q).drop p)) (.slice ad (q-p) cap'):=by
 generalize hX:(Value.slice (some ⟨c,off,none⟩) rows.length cap)=X at hv
 cases hv with
 |emp=>exact absurd rfl hr
 |imm0=>exact absurd rfl hr
 |imm _ _ c' off' cap'' ys he _ hcp hc hs hrow hcell hvv=>
  injection hX with h1 h2 h3
  injection h1 with h1
  injection h1 with h4 h5
  subst h4 h5
  have hlen:((rows.take q).drop p).length=q-p:=by simp;omega
  by_cases hz:p=q
  ·subst hz
   have:(rows.take p).drop p=[]:=bU (by omega)
   rw [this,Nat.sub_self]
   exact .imm0 _ _ _ (by omega)
  ·have hlt:p<q:=by omega
   rw [had hlt, <-hlen]
   have get: ∀i,i<q-p->((rows.take q).drop p)[i]? =rows[p+i]? :=by
    intro i hi
    rw [gz,j8,ae (by omega)]
   refine .imm e _ c (off+p*e) cap' (fun i j=>ys (p+i) j) he (by intro e0;rw [e0] at hlen;simp at hlen;omega) (by omega) hc hs
    (fun row hrow'=>hrow row (cp (cc hrow'))) (fun i j hi hj=> ?_) (fun i row j v hi hj=> ?_)
   ·have:=hcell (p+i) j (by omega) hj
    rw [<-this,Nat.add_mul]
    congr 2
    omega
   ·have hil:=cS hi
    rw [get i (by omega)] at hi
    exact hvv (p+i) row j v hi hj
theorem b0f [Frame] (H:bD μ h w) (E:gj μ h w f a) {o:Oper} {t e:TypeId} {x:Operand} {lo hi mx:Option Operand} {x':Opd} {lo' hi' mx':Option Opd} {s0:Nat} (hop:o.op= .slice t x lo hi mx) (hx:bC x=some x') (hlo:pI lo=some lo') (hhi:pI hi=some hi') (hmx:pI mx=some mx')
 (hu:P.underlying t=some (.slice e)) (hsz:jI P e=some s0) {C:cg} {ow:FuncId->List Nat} {new:Nat} {v:V} {u:Upd} (hs:aN C ow (.slice s0 x' lo' hi' mx') (Opd.ev f) h new=some (v,u)):iC P o a μ h w v u:=by
 have hvx:=bP E hx
 have hmn:mx'=none->mx=none:=by
  intro h1
  cases mx with
  |none=>rfl
  |some y=>
   simp only [pI] at hmx
   split at hmx
   ·subst h1;cases hmx
   ·cases hmx
 have run: ∀ad n cap p q,a.eval x= .slice ad n cap->p<=q->mx=none->(Instr.sliceBounds true n cap (lo.map a.eval) (hi.map a.eval) none).run P w= .ok (p,q,cap) w->
  (execOp a.eval o).run P w= .ok (.value (.slice (if cap=p then ad else ad.map (·.add (p*s0))) (q-p) (cap-p))) w:=by
  intro ad n cap p q hX hpq hm hb
  subst hm
  simp [execOp,hop,Instr.sliceAt,Instr.slice,run_underlying hu,hX,hb,fD hsz]
 simp only [aN] at hs
 split at hs
 ·cases hs
 ·have hm:=hmn rfl
  split at hs
  ·rename_i hb
   split at hs
   ·rename_i q hq
    split at hs
    ·rename_i p hp
     cases hs
     rw [hb] at hvx
     obtain ⟨h1,h2,h3⟩:=tw (P:=P) E (isS:=true) (cap:=0) hlo hhi (aw _) (aw _) hq hp
     have hq0:q=0:=by omega
     subst hq0
     have hp0:p=0:=by omega
     subst hp0
     exact .quiet H (run none 0 0 0 0 (de hvx) (aw _) hm h3) (.lit _)
    ·cases hs
   ·cases hs
  ·rename_i b s n hb
   split at hs
   ·rename_i k hk
    split at hs
    ·rename_i hc
     obtain ⟨c1,c2,c3,c4⟩:=hc
     split at hs
     ·rename_i q hq
      split at hs
      ·rename_i p hp
       rw [hb] at hvx
       generalize hX:a.eval x=X at hvx
       have hvx0:=hvx
       cases hvx with
       |sl _ _ _ _ k' hk' hn' hx' hp'=>
        rw [hk] at hk';cases hk'
        obtain ⟨ad,cap,rfl,hok⟩:=hp' (by omega) c4
        have hncap:n<=cap:=by rcases hok with ⟨g1,g2⟩|⟨_,_,_,_,g⟩<;>omega
        obtain ⟨h1,h2,h3⟩:=tw (P:=P) E (isS:=true) (cap:=cap) hlo hhi hncap (aw _) hq hp
        have hrun:=run ad n cap p q hX h1 hm h3
        split at hs
        ·rename_i hqn
         subst hqn
         cases hs
         refine .quiet H hrun (.sl _ _ _ _ k hk (.inr (by omega)) ⟨_,_,rfl⟩ (fun _ _=>⟨_,_,rfl, ?_⟩))
         rcases hok with ⟨g1,g2⟩|⟨c,hcm,rfl,hcap,hnc⟩
         ·exact .inl ⟨by omega,by omega⟩
         ·by_cases hcp:cap=p
          ·exact .inl ⟨by omega,by omega⟩
          ·refine .inr ⟨c,hcm, ?_, ?_,by omega⟩
           ·rw [aa hcp,ej,w5,Nat.add_mul,c3]
           ·have:s+p+(cap-p)=s+cap:=by omega
            rw [this];exact hcap
        ·rename_i hqn
         cases hs
         obtain ⟨H1,C1⟩:=H.kill hk
         have himm:=M3 H hk c1 c2 c4 hvx0 (μ':=cE μ b none) (bV h b nG) (by simp [cE]) (fun b' c h5=>by unfold cE at h5;split at h5<;>first| (cases h5;done)|exact h5)
         refine ⟨_,w,cE μ b none,.inl hrun,H1,C1, ?_⟩
         have hlen:(k.rows.drop s).length=n:=by simp;omega
         rcases hok with ⟨g1,g2⟩|⟨c,hcm,rfl,hcap,hnc⟩
         ·omega
         ·have hne:k.rows.drop s≠[]:=by intro e0;rw [e0] at hlen;simp at hlen;omega
          have himm':aX (cE μ b none) (bV h b nG) w (.imm k.esz (k.rows.drop s)) (.slice (some ⟨c,s*k.esz,none⟩) (k.rows.drop s).length cap):=by rw [hlen];exact himm
          rw [<-c3]
          refine aX.cz (a8V himm' hne h1 (by omega) (by omega) (fun hpq=> ?_))
          rw [aa (by omega),ej,w5]
      ·cases hs
     ·cases hs
    ·cases hs
   ·cases hs
  ·rename_i e' rows hb
   split at hs
   ·rename_i he
    split at hs
    ·rename_i q hq
     split at hs
     ·rename_i p hp
      cases hs
      rw [hb] at hvx
      generalize hX:a.eval x=X at hvx
      have hvx0:=hvx
      cases hvx with
      |emp ad=>
       obtain ⟨h1,h2,h3⟩:=tw (P:=P) E (isS:=true) (cap:=0) hlo hhi (aw _) (aw _) hq hp
       have h2:q<=0:=h2
       have hq0:q=0:=by omega
       subst hq0
       have hp0:p=0:=by omega
       subst hp0
       exact .quiet H (run ad 0 0 0 0 hX (aw _) hm h3) hvx0.cz
      |imm0 _ ad cap he0=>
       obtain ⟨h1,h2,h3⟩:=tw (P:=P) E (isS:=true) (cap:=cap) hlo hhi (qH _) (aw _) hq hp
       have h2:q<=0:=h2
       have hq0:q=0:=by omega
       subst hq0
       have hp0:p=0:=by omega
       subst hp0
       refine .quiet H (run ad 0 cap 0 0 hX (aw _) hm h3) ?_
       have e9:(List.drop 0 (List.take 0 ([]:List (List V))))=[]:=rfl
       rw [e9]
       exact (aX.imm0 _ _ _ he0).cz
      |imm _ _ c off cap ys he0 hr hcp hc hs hrow hcell hv=>
       obtain ⟨h1,h2,h3⟩:=tw (P:=P) E (isS:=true) (cap:=cap) hlo hhi hcp (aw _) hq hp
       have he:e'=s0:=by
        rcases he with he|he
        ·exact he
        ·exact absurd he hr
       subst he
       refine .quiet H (run _ _ cap p q hX h1 hm h3) (aX.cz (a8V hvx0 hr h1 h2 (by omega) (fun hpq=> ?_)))
       rw [aa (by omega),ej,w5]
     ·cases hs
    ·cases hs
   ·cases hs
  ·cases hs
end
end
end Go.AI
