/- Part. -/
import Derived.Test.YtdnkignjanfikaaGreatAiOps6
set_option linter.unusedVariables false
set_option linter.unusedSimpArgs false
namespace Go.AI
section
section
variable {P:Program} {μ:Mu} {h:b8} {w:World} {f:Nat->V} {a:Act}
theorem a8F {w w':World} (a:w'.heap=w.heap) (ad:Addr):w'.cell? ad=w.cell? ad:=by simp [World.cell?,a]
structure Src [Frame] (P:Program) (μ:Mu) (h:b8) (w:World) (esz:Nat) (rows:List (List V)) (x:Value) (news:Array Value):Prop where
 len: ∀w',(Builtin.lenOf x).run P w'= .ok rows.length w'
 first: ∀m,m<=rows.length-> ∀w',w'.heap=w.heap->(Builtin.firstCells esz m x).run P w'= .ok (news.extract 0 (m*esz)) w'
 size:news.size=rows.length*esz
 rel: ∀i row j v,rows[i]? =some row->row[j]? =some v->aY μ h w v (news.getD (i*esz+j) undef)
 row: ∀row∈rows,row.length=esz/\ ∀v∈row,v.cell=true/\v.cl=true
theorem Src.one [Frame] {esz:Nat} {rows:List (List V)} {x:Value} {news:Array Value} (S:Src P μ h w esz rows x news) (h0:0<esz): ∀k,k<news.size->ci (news.getD k undef)=true:=by
 intro k c
 rw [S.size] at c
 a hi:k/esz<rows.length:=(jU h0).2 c
 a f:=gq k h0
 a b:=aZ hi
 a d:=(S.row _ b).1
 a e:=S.rel (k/esz) rows[k/esz] (k%esz) (rows[k/esz][k%esz]'(by omega)) (aq hi) (aq (by omega))
 rw [oA,pk] at e
 exact e.oneCell ((S.row _ b).2 _ (aZ _)).1
theorem Nt {α:Type} (x:Array α) (n:Nat) (h:x.size<=n):x.extract 0 n=x:=by
 apply eV
 simp [bZ,h]
theorem a65 [Frame] (H:bB μ h w) {v:V} {x:Value} {esz:Nat} {rows:List (List V)} (h0:0<esz) (r:ed h esz v=some rows) (n:aY μ h w v x): ∃news,Src P μ h w esz rows x news:=by
 by_cases hs: ∃s,x= .string s
 ·obtain ⟨s,rfl⟩:=hs
  rcases a7u n with z|z
  ·subst z
   simp only [ed] at r
   split at r
   ·rename_i he
    subst he
    cases r
    refine ⟨s.data.map fun b=> .int .u8 b.toNat,fun w'=>by simp [Builtin.lenOf],fun m u w' o=> ?_,by simp,fun i row j v hi l=> ?_,fun row d=> ?_⟩
    ·simp only [Builtin.firstCells,Sem.run_pure]
     congr 1
     apply eV
     simp [ByteArray.extract,ByteArray.copySlice]
    ·rw [aW] at hi
     cases p:s.data.toList[i]? with
     |none=>rw [p] at hi;cases hi
     |some y=>
      rw [p] at hi;cases hi
      cases j with
      |zero=>
       simp at l;subst l
       simp only [pQ,cQ,Array.getD_eq_getD_getElem?,a3F s i y p,dq]
       exact .lit _
      |succ j=>simp at l
    ·obtain ⟨y,t,rfl⟩:=bq.1 d
     exact ⟨rfl,fun v n=>by simp at n;subst n;exact ⟨rfl,rfl⟩⟩
   ·cases r
  ·subst z;simp [ed] at r
 ·obtain ⟨ad,cap,hX,hat⟩:=Ka H h0 r n (fun s e=>hs ⟨s,e⟩)
  subst hX
  rcases hat with rfl|⟨c,off,rfl,R,_,_⟩
  ·refine ⟨#[],fun w'=>by simp [Builtin.lenOf],fun m u w' o=> ?_,by simp,fun i row j v hi=>by simp at hi,fun row d=>by simp at d⟩
   a:m=0:=by simpa using u
   subst this
   cases ad with
   |none=>simp [Builtin.firstCells]
   |some ad=>simp [Builtin.firstCells,loadCells,loadCellsFrom]
  ·let fn:Nat->Value:=fun k=>(w.cell? ⟨c,off+k,none⟩).getD undef
   a q: ∀k,k<rows.length*esz->w.cell? ⟨c,off+k,none⟩=some (fn k):=by
     intro k hk
     a hi:k/esz<rows.length:=(jU h0).2 hk
     a l:=gq k h0
     a hlen:=(R.row _ (aZ hi)).1
     obtain ⟨y,t,_⟩:=R.cell (k/esz) rows[k/esz] (k%esz) (rows[k/esz][k%esz]'(by omega)) (aq hi) (aq (by omega))
     rw [oA,pk] at t
     show _=some ((w.cell? ⟨c,off+k,none⟩).getD undef)
     rw [t];rfl
   refine ⟨(Array.range (rows.length*esz)).map fn,fun w'=>by simp [Builtin.lenOf],fun m u w' o=> ?_,by simp,fun i row j v hi l=> ?_,R.row⟩
   ·a hle:m*esz<=rows.length*esz:=bi _ u
    simp only [Builtin.firstCells]
    rw [rX (w:=w') (f:=fn) (fun j l=>by rw [a8F o];exact q j (by omega))]
    congr 1
    apply eV
    simp [<-List.map_take,List.take_range,gL hle]
   ·obtain ⟨y,t,n⟩:=R.cell i row j v hi l
    a hlt:i*esz+j<rows.length*esz:=by
      a hil:=cS hi
      a hjl:=cS l
      rw [(R.row _ (an hi)).1] at hjl
      a:(i+1)*esz<=rows.length*esz:=bi _ hil
      rw [Nat.add_mul,cB] at this
      omega
    a he:fn (i*esz+j)=y:=by
      show (w.cell? ⟨c,off+(i*esz+j),none⟩).getD undef=y
      rw [t];rfl
    simp [hlt,he]
    exact n
set_option maxHeartbeats 4000000 in
theorem a2b {t u e ty:TypeId} {d:TypeDesc} {i:TypeInfo} {z:Value} {base:Option Addr} {sLen sCap m:Nat} {x:Value} {news old:Array Value} (n:P.underlying t=some (.slice e)) (o:P.underlying u=some d) (p: ∀k,d≠ .int k)
 (hi:P.info? e=some i) (q:i.zero=some z) (b: ∀w',(Builtin.lenOf x).run P w'= .ok m w') (c: ∀w',w'.heap=w.heap->(Builtin.firstCells i.size m x).run P w'= .ok news w')
 (f: ∀w',w'.heap=w.heap->(Builtin.firstCells i.size sLen (.slice base sLen sCap)).run P w'= .ok old w') (j:sCap<sLen+m) (r:(sLen+m)*i.bytes<=140737488355328) (s:sLen+m<=9223372036854775807):
 ∃nc,sLen+m<=nc/\(Builtin.append_ #[t,u] ty #[.slice base sLen sCap,x]).run P w=
  .ok (.slice (some ⟨w.heap.size,0,none⟩) (sLen+m) nc) (mK { w with drawn:=w.drawn+1 } (.cells (old++news++Builtin.zeroCells z.cells (nc-(sLen+m))) e)):=by
 refine ⟨(Question.appendCap (sLen+m) sCap e).cut (w.tape w.drawn (.appendCap (sLen+m) sCap e)),by simp only [Question.cut];omega, ?_⟩
 a l:=growslice_fits (need:=sLen+m) (old:=sCap) (bytes:=i.bytes) (by omega) r
 a hforced:(Question.appendCap (sLen+m) sCap e).forced=false:=rfl
 a v: ¬sLen+m<=sCap:=by omega
 a y: ¬(281474976710656<Builtin.nextslicecap (sLen+m) sCap*i.bytes):=by omega
 a n3: ¬(9223372036854775807<(sLen:Int)+(m:Int)):=by omega
 a h:IntKind.i64.max=9223372036854775807:=rfl
 a ho:=f w.drew rfl
 a hn:=c w.drew rfl
 cases d<;>first
  | (exfalso;exact p _ rfl)
  | (simp [Builtin.append_,run_underlying n,run_underlying o,sizeOf,typeInfo,hi,b,v,y,n3,hforced,h,ho,hn,zeroValue,q,newRow];rfl)
theorem Pb {x y:Array Value} (k:Nat):(x++y).getD k undef=if k<x.size then x.getD k undef else y.getD (k-x.size) undef:=by
 rw [Array.getD_eq_getD_getElem?,Array.getD_eq_getD_getElem?,Array.getD_eq_getD_getElem?,oY]
 split<;>rfl
set_option maxHeartbeats 4000000 in
theorem a0A {t u e ty:TypeId} {d:TypeDesc} {i:TypeInfo} {base:Option Addr} {sLen sCap m:Nat} {x:Value} {news:Array Value} (h:P.underlying t=some (.slice e)) (j:P.underlying u=some d) (l: ∀k,d≠ .int k)
 (hi:P.info? e=some i) (c:(Builtin.lenOf x).run P w= .ok m w) (f:(Builtin.firstCells i.size m x).run P w= .ok news w) (b:sLen+m<=sCap):
 (Builtin.append_ #[t,u] ty #[.slice base sLen sCap,x]).run P w=
  ((match base with|some a=>storeCells (a.add (sLen*i.size)) news.toList|none=>pure ():Sem Unit).run P w).andThen fun _ w'=> .ok (.slice base (sLen+m) sCap) w':=by
 cases d<;>first
  | (exfalso;exact l _ rfl)
  | (cases base<;>simp [Builtin.append_,run_underlying h,run_underlying j,sizeOf,typeInfo,hi,c,b,f])
theorem yn [Frame] {rows:List (List V)} {esz i j:Nat} {row:List V} {v:V} (b: ∀row∈rows,row.length=esz) (hi:rows[i]? =some row) (e:row[j]? =some v):i*esz+j<rows.length*esz:=by
 a c:=cS hi
 a d:=cS e
 rw [b _ (an hi)] at d
 a:(i+1)*esz<=rows.length*esz:=bi _ c
 rw [Nat.add_mul,cB] at this
 omega
theorem PQ [Frame] {rows new_:List (List V)} {esz:Nat} {arr news rest:Array Value} (k:arr.size=rows.length*esz) (c: ∀row∈rows,row.length=esz)
 (l: ∀i row j v,rows[i]? =some row->row[j]? =some v->aY μ h w v (arr.getD (i*esz+j) undef))
 (m:news.size=new_.length*esz) (b: ∀row∈new_,row.length=esz) (e: ∀i row j v,new_[i]? =some row->row[j]? =some v->aY μ h w v (news.getD (i*esz+j) undef)):
 ∀i row j v,(rows++new_)[i]? =some row->row[j]? =some v->aY μ h w v ((arr++news++rest).getD (i*esz+j) undef):=by
 intro i row j v hi d
 by_cases f:i<rows.length
 ·rw [bG f] at hi
  a n:=yn c hi d
  rw [Pb,ae (by rw [n7];omega),Pb,ae (by omega)]
  exact l i row j v hi d
 ·rw [bQ (by omega)] at hi
  a n:=yn b hi d
  a o:i*esz=rows.length*esz+(i-rows.length)*esz:=by rw [<-Nat.add_mul];congr 1;omega
  rw [Pb,ae (by rw [n7];omega),Pb,aa (by omega)]
  a:=e (i-rows.length) row j v hi d
  rwa [show i*esz+j-arr.size=(i-rows.length)*esz+j by omega]
structure b1D [Frame] (μ:Mu) (h:b8) (w:World) (esz:Nat) (rows:List (List V)) (news:Array Value):Prop where
 size:news.size=rows.length*esz
 rel: ∀i row j v,rows[i]? =some row->row[j]? =some v->aY μ h w v (news.getD (i*esz+j) undef)
 row: ∀row∈rows,row.length=esz/\ ∀v∈row,v.cell=true/\v.cl=true
theorem Src.toR [Frame] {esz:Nat} {rows:List (List V)} {x:Value} {news:Array Value} (S:Src P μ h w esz rows x news):b1D μ h w esz rows news:=⟨S.size,S.rel,S.row⟩
theorem b1D.one [Frame] {esz:Nat} {rows:List (List V)} {news:Array Value} (S:b1D μ h w esz rows news) (h0:0<esz): ∀k,k<news.size->ci (news.getD k undef)=true:=by
 intro k c
 rw [S.size] at c
 a hi:k/esz<rows.length:=(jU h0).2 c
 a f:=gq k h0
 a b:=aZ hi
 a d:=(S.row _ b).1
 a e:=S.rel (k/esz) rows[k/esz] (k%esz) (rows[k/esz][k%esz]'(by omega)) (aq hi) (aq (by omega))
 rw [oA,pk] at e
 exact e.oneCell ((S.row _ b).2 _ (aZ _)).1
set_option maxHeartbeats 1000000 in
theorem NT [Frame] (H:bB μ h w) {e:TypeId} {i:TypeInfo} {z:List Value} {zv:Value} (hcs:zv.cells.toList=z) {x:Operand} {x':Opd} (p:aY μ h w (Opd.ev f x') (a.eval x)) {new_:List (List V)} {news:Array Value}
 (S:b1D μ h w i.size new_ news) {B:Value->Sem Value}
 (roomL: ∀base sLen sCap,sLen+new_.length<=sCap->(B (.slice base sLen sCap)).run P w=((match base with|some a=>storeCells (a.add (sLen*i.size)) news.toList|none=>pure ():Sem Unit).run P w).andThen fun _ w'=> .ok (.slice base (sLen+new_.length) sCap) w')
 (growL: ∀base sLen sCap (old:Array Value),(∀w':World,w'.heap=w.heap->(Builtin.firstCells i.size sLen (.slice base sLen sCap)).run P w'= .ok old w')->sCap<sLen+new_.length->(sLen+new_.length)*i.bytes<=140737488355328->sLen+new_.length<=9223372036854775807->
  ∃nc,sLen+new_.length<=nc/\(B (.slice base sLen sCap)).run P w= .ok (.slice (some ⟨w.heap.size,0,none⟩) (sLen+new_.length) nc) (mK { w with drawn:=w.drawn+1 } (.cells (old++news++Builtin.zeroCells zv.cells (nc-(sLen+new_.length))) e)))
 {sb:Nat->Bool} {o:Oper} (exec_eq: ∀r w',(B (a.eval x)).run P w= .ok r w'->(execOp a.eval o).run P w= .ok (.value r) w')
 {new:Nat} {v:V} {u:Upd} (hs:Jj i.size i.bytes z (Opd.ev f x') sb h new new_=some (v,u)):ix P o a μ h w v u:=by
 unfold Jj at hs
 split at hs
 ·rename_i hcond
  obtain ⟨c1,c2,c3,c4⟩:=hcond
  unfold cV at c3 c4
  d hm63:new_.length<=1099511627776:=by
    d:new_.length*1<=new_.length*i.size:=iC _ c2
    omega
  d empty: ∀(ad:Option Addr),a.eval x= .slice ad 0 0->h new=none-> ∀v u,(v,u)=(V.sl new 0 new_.length,[(new,(⟨i.size,false,new_⟩:Blk))])->ix P o a μ h w v u:=by
    intro ad hX hn v u hvu
    cases hvu
    by_cases hm:new_.length=0
    ·d hnil:new_=[]:=bS hm
     subst hnil
     obtain ⟨q1,q2⟩:=H.newNil (b:=new) (e:=i.size) hn
     refine ⟨.slice ad 0 0,w,μ,.inl (exec_eq _ _ ?_),q1,q2,.sl new 0 0 _ ⟨i.size,false,[]⟩ (by simp [fW,bT]) (.inr (by simp)) ⟨_,_,rfl⟩ (fun _ _=>⟨_,_,rfl,.inl ⟨rfl,rfl⟩⟩)⟩
     d hr0:=roomL ad 0 0 (by simp)
     simp only [ai] at hr0
     d hn0:news= #[]:=by d:=S.size;simp at this;exact this
     rw [hX,hr0,hn0]
     cases ad<;>rfl
    ·obtain ⟨nc,hnc,l⟩:=growL ad 0 0 #[]
      (fun w' _=>by cases ad<;>simp [Builtin.firstCells,loadCells,loadCellsFrom]) (by omega) (by rw [cy];omega) (by omega)
     rw [<-hX] at l
     simp only [cy] at l hnc
     d hsz:(#[]++news++Builtin.zeroCells zv.cells (nc-new_.length):Array Value).size=nc*i.size:=by
       d hzs:zv.cells.size=i.size:=by rw [<-c1, <-hcs];simp
       simp only [n7,S.size,size_zeroCells,hzs]
       simp only [Array.size_empty,cy, <-Nat.add_mul]
       congr 1;omega
     obtain ⟨μ',q1,q2,q3⟩:=L9 H (w':=mK { w with drawn:=w.drawn+1 } (.cells (#[]++news++Builtin.zeroCells zv.cells (nc-new_.length)) e)) (lS { w with drawn:=w.drawn+1 } _).drew (new:=new) hn (esz:=i.size) (rows:=new_) (lo:=0) (hi:=0) (cap:=nc)
      (pJ { w with drawn:=w.drawn+1 } _) (.inl rfl) c2 hnc (by rw [hsz];exact aw _) S.row
      (by
       d:=PQ (μ:=μ) (h:=h) (w:=w) (rows:=[]) (new_:=new_) (esz:=i.size) (arr:= #[]) (news:=news) (rest:=Builtin.zeroCells zv.cells (nc-new_.length)) (by simp) (fun row s=>by simp at s) (fun i row j v hi=>by simp at hi) S.size (fun row s=>(S.row row s).1) S.rel
       simpa using this)
     exact ⟨_,_,μ',.inl (exec_eq _ _ l),q1,q2,q3⟩
  split at hs
  ·rename_i b n hbx
   split at hs
   ·rename_i k hk
    split at hs
    ·rename_i hc
     cases hs
     obtain ⟨k1,k2,k3,k4,k5,k6,k7⟩:=hc
     unfold cV at k5 k6
     rw [hbx] at p
     generalize hX:a.eval x=X at p
     cases p with
     |sl _ _ _ _ k' hk' hn' hx' hp=>
      rw [hk] at hk';cases hk'
      obtain ⟨ad,cap,rfl,hok⟩:=hp (by omega) (by omega)
      d hrw:=H.rows b k hk
      d hrow': ∀row∈k.rows++new_,row.length=k.esz/\ ∀v∈row,v.cell=true/\(k.op=false->v.cl=true):=by
        intro row hrow
        rcases aX.1 hrow with h1|h1
        ·exact ⟨(hrw row h1).1 (by omega),(hrw row h1).2⟩
        ·exact ⟨by rw [k3];exact (S.row row h1).1,fun v hv=>⟨((S.row row h1).2 v hv).1,fun _=>((S.row row h1).2 v hv).2⟩⟩
      by_cases m:n+new_.length<=cap
      ·
       rcases hok with ⟨g1,g2⟩|⟨cb,hcb,rfl,hcap,hnc⟩
       ·d hm0:new_=[]:=bS (by omega)
        d hn0:news= #[]:=by d:=S.size;rw [hm0] at this;simp at this;exact this
        d hr0:=roomL ad n cap m
        rw [hm0] at hr0
        simp only [ai,cQ] at hr0
        d hkk:({ k with rows:=k.rows++new_ }:Blk)=k:=by rw [hm0,bV]
        d hhh:bT h b k=h:=by funext b';unfold bT;split<;>simp_all
        refine ⟨.slice ad n cap,w,μ,.inl (exec_eq _ _ ?_), ?_, ?_, ?_⟩
        ·rw [hX,hr0,hn0]
         cases ad<;>rfl
        ·show bB μ (bT h b _) w;rw [hkk,hhh];exact H
        ·show Chg μ h w μ (bT h b _) w;rw [hkk,hhh];exact Chg.refl _ _ _
        ·show aY μ (bT h b _) w _ _
         rw [hkk,hhh,hm0]
         exact .sl b 0 _ _ k hk (.inr (by simp;omega)) ⟨_,_,rfl⟩ (fun _ _=>⟨_,_,rfl,.inl ⟨g1,g2⟩⟩)
       ·rcases H.blk b k hk with ⟨h1,_,hmn⟩|⟨_,c',arr,tt,lo,hi',hm',hh,hf,hl,hv⟩|⟨h0',_⟩
        ·rw [hcb] at hmn;cases hmn
        rotate_left
        ·omega
        ·rw [hcb] at hm';cases hm'
         d hbs:bsize w cb=arr.size:=by unfold bsize;rw [hh]
         d y:cap*i.size<=arr.size:=by rw [<-hbs, <-k3];simpa using hcap
         d hneed:(n+new_.length)*i.size<=arr.size:=e7 (bi _ m) y
         d hns:news.toList.length=new_.length*i.size:=by rw [Array.length_toList,S.size]
         obtain ⟨arr',hst,hsz',hval⟩:=mc (P:=P) (o:=n*i.size) news.toList 0 arr w hh hf.at (by rw [Nat.add_mul] at hneed;omega)
          (fun v hv=>by
           obtain ⟨q,hq,rfl⟩:=bp hv
           d:=S.one c2 q (by simpa using hq)
           simpa [Array.getD_eq_getD_getElem?,(show q<news.size by simpa using hq)] using this)
         d hlt:=o0 hh
         d t:=H.put (w':=gZ w cb arr' tt (lo,hi')) (c:=cb) (k':={ k with rows:=k.rows++new_ }) hk k2 (.inl hcb)
           rfl rfl rfl (by rw [vK];exact aw _) (aw _) (fun c' _ hne=>BY hne) (rd hlt) (by rw [hsz'];exact hf) rfl
           (by rw [hsz',ab, <-k4,k3];exact hneed) hrow'
           (by
            by_cases hm:new_.length=0
            ·exact .inr ⟨by simp [hm],hcb,by rw [hsz',hbs]⟩
            ·exact .inl (by simp;omega))
           (fun i2 row2 j v h2 h3=>by
            simp only at h2 ⊢
            rw [hval]
            simp only [cQ,hns]
            by_cases hlt2:i2<k.rows.length
            ·rw [bG hlt2] at h2
             d h4:=yn (fun row s=>(hrw row s).1 (by omega)) h2 h3
             rw [aa (by rw [k4, <-k3];omega)]
             exact hv i2 row2 j v h2 h3
            ·rw [bQ (by omega)] at h2
             d h4:=yn (fun row s=>(S.row row s).1) h2 h3
             d h5:i2*i.size=k.rows.length*i.size+(i2-k.rows.length)*i.size:=by rw [<-Nat.add_mul];congr 1;omega
             rw [k3,ae (by rw [k4];omega)]
             d:=S.rel (i2-k.rows.length) row2 j v h2 h3
             rw [show i2*i.size+j-n*i.size=(i2-k.rows.length)*i.size+j by rw [k4];omega]
             simpa [bo,Array.getD_eq_getD_getElem?] using this)
         refine ⟨.slice (some ⟨cb,0*k.esz,none⟩) (n+new_.length) cap,_,_,.inl (exec_eq _ _ ?_),t.1,t.2, ?_⟩
         ·rw [hX]
          rw [lF]
          d hadd:=vh cb 0 (n*i.size)
          rw [cy] at hadd
          rw [roomL _ _ _ m]
          simp only [hadd,hst,Result.andThen_ok]
         ·refine .sl b 0 _ _ { k with rows:=k.rows++new_ } (by simp [fW,bT]) (.inr (by simp;omega)) ⟨_,_,rfl⟩ (fun _ _=>⟨_,_,rfl,.inr ⟨cb,by simp [cE],rfl, ?_,m⟩⟩)
          unfold bsize
          rw [rd hlt]
          simp only [cy]
          rw [hsz',k3];exact y
      ·
       d hold: ∃old:Array Value,(∀w',w'.heap=w.heap->(Builtin.firstCells i.size n (.slice ad n cap)).run P w'= .ok old w')/\old.size=k.rows.length*i.size/\
        ∀i2 row j v,k.rows[i2]? =some row->row[j]? =some v->aY μ h w v (old.getD (i2*i.size+j) undef):=by
         d hr2:ed h i.size (.sl b 0 n)=some k.rows:=by simp [ed,hk,k1,k2,k3,k4];omega
         obtain ⟨old,S2⟩:=a65 (P:=P) H c2 hr2 (.sl b 0 n (.slice ad n cap) k hk hn' hx' hp)
         refine ⟨old,fun w' hw'=> ?_,S2.size,S2.rel⟩
         rw [S2.first n (by omega) w' hw',Nt _ _ (by rw [S2.size,k4];exact aw _)]
       obtain ⟨old,hold1,hold2,hold3⟩:=hold
       obtain ⟨nc,hnc,l⟩:=growL ad n cap old hold1 (by omega)
        (by omega) (by
         d:(n+new_.length)*1<=(n+new_.length)*i.size:=iC _ c2
         omega)
       rw [<-hX] at l
       d hsz:(old++news++Builtin.zeroCells zv.cells (nc-(n+new_.length)):Array Value).size=nc*i.size:=by
         d hzs:zv.cells.size=i.size:=by rw [<-c1, <-hcs];simp
         simp only [n7,S.size,size_zeroCells,hzs,hold2, <-k4, <-Nat.add_mul]
         congr 1;omega
       d hat:=pJ { w with drawn:=w.drawn+1 } (.cells (old++news++Builtin.zeroCells zv.cells (nc-(n+new_.length))) e)
       d hgr:=lS { w with drawn:=w.drawn+1 } (.cells (old++news++Builtin.zeroCells zv.cells (nc-(n+new_.length))) e)
       by_cases hm:new_.length=0
       ·exfalso
        rcases hok with ⟨g1,g2⟩|⟨cb,hcb,_,hcap,hnc2⟩<;>omega
       ·d t:=H.put (w':=mK { w with drawn:=w.drawn+1 } (.cells (old++news++Builtin.zeroCells zv.cells (nc-(n+new_.length))) e)) (c:=w.heap.size) (k':={ k with rows:=k.rows++new_ }) hk k2 (.inr (aw _))
          rfl rfl rfl hgr.2.2.2.1 hgr.drew.2.2.2.2.2 (fun c' hc' _=>hgr.2.2.2.2.1 c' hc') hat (.inl rfl) rfl
          (by rw [hsz,ab, <-k4,k3];exact bi _ hnc) hrow' (.inl (by simp;omega))
          (by
           d:=PQ (μ:=μ) (h:=h) (w:=w) (rest:=Builtin.zeroCells zv.cells (nc-(n+new_.length))) hold2 (fun row s=>by rw [(hrw row s).1 (by omega),k3]) hold3 S.size (fun row s=>(S.row row s).1) S.rel
           simpa [k3] using this)
        refine ⟨_,_,_,.inl (exec_eq _ _ l),t.1,t.2,.sl b 0 _ _ { k with rows:=k.rows++new_ } (by simp [fW,bT]) (.inr (by simp;omega)) ⟨_,_,rfl⟩ (fun _ _=>⟨_,_,rfl,.inr ⟨w.heap.size,by simp [cE],by simp, ?_,hnc⟩⟩)⟩
        unfold bsize
        rw [hat]
        simp only [cy]
        rw [hsz,k3];exact aw _
    ·cases hs
   ·cases hs
  ·rename_i hbx
   obtain ⟨hn,h0,s⟩:=rb hs
   rw [hbx] at p
   exact empty none (de p) hn v u s
  ·rename_i hbx
   obtain ⟨hn,h0,s⟩:=rb hs
   rw [hbx] at p
   d: ∃ad,a.eval x= .slice ad 0 0:=by
    generalize a.eval x=X at p
    cases p with
    |emp ad=>exact ⟨ad,rfl⟩
    |imm0 _ ad cap he=>exact absurd rfl he
    |imm _ _ _ _ _ _ he s=>exact absurd rfl s
   obtain ⟨ad,hX⟩:=this
   exact empty ad hX hn v u s
  ·cases hs
 ·cases hs
set_option maxHeartbeats 1000000 in
theorem a43 [Frame] (H:bB μ h w) (E:gi μ h w f a) {o:Oper} {c:Call} {t u' e:TypeId} {d:TypeDesc} {i:TypeInfo} {z:List Value} {x y:Operand} {x' y':Opd} (hop:o.op= .call c) (hca:c.callee= .builtin .append) (m:c.args.toList=[x,y])
 (hx:bA x=some x') (hy:bA y=some y') (ht:c.argTypes[0]? =some t) (hu0:c.argTypes[1]? =some u') (hu:P.underlying u'=some d) (hd: ∀k,d≠ .int k) (he:P.underlying t=some (.slice e)) (hi:P.info? e=some i) (hz:C6 P e=some z)
 {C:ce} {ow:FuncId->List Nat} {new:Nat} {v:V} {u:Upd} (p:aM C ow (.append i.size i.bytes z x' y') (Opd.ev f) h new=some (v,u)):ix P o a μ h w v u:=by
 j hvx:=bM E hx
 j hvy:=bM E hy
 j ha:c.args= #[x,y]:=by rw [<-m]
 obtain ⟨i',zv,q,hzv,hcs,hzr⟩:=rD hz
 rw [hi] at q;cases q
 j exec_eq: ∀r w',(Builtin.append_ #[t,u'] o.type #[a.eval x,a.eval y]).run P w= .ok r w'->(execOp a.eval o).run P w= .ok (.value r) w':=by
   intro r w' hr
   j hat: ∀ty args,Builtin.append_ c.argTypes ty args=Builtin.append_ #[t,u'] ty args:=by
     intro ty args
     unfold Builtin.append_
     simp only [ht,hu0]
     rfl
   simp only [execOp,hop,resolve,hca,ha,Sem.run_bind,Sem.run_pure,Result.andThen_ok,invoke,builtin,hat,oc,aP,dL,hr]
 simp only [aM] at p
 split at p
 ·cases p
 ·rename_i new_ hnew_
  by_cases c2:0<i.size
  ·obtain ⟨news,S⟩:=a65 (P:=P) H c2 hnew_ hvy
   j l: ∀w',w'.heap=w.heap->(Builtin.firstCells i.size new_.length (a.eval y)).run P w'= .ok news w':=by
     intro w' hw'
     rw [S.first _ (aw _) w' hw',Nt _ _ (by rw [S.size];exact aw _)]
   exact NT (B:=fun s=>Builtin.append_ #[t,u'] o.type #[s,a.eval y]) (sb:=fun b=>aM.selfOk b (Opd.ev f y')) H hcs hvx S.toR
    (fun base sLen sCap n=>a0A (w:=w) (t:=t) (u:=u') he hu hd hi (S.len w) (l w rfl) n)
    (fun base sLen sCap old hold h1 h2 h3=>a2b (P:=P) (w:=w) (t:=t) (u:=u') (ty:=o.type) (base:=base) (sLen:=sLen) (sCap:=sCap) (old:=old) he hu hd hi hzv S.len l hold h1 h2 h3)
    exec_eq p
  ·rw [aa (fun hc=>c2 hc.2.1)] at p;cases p
end
end
section
section
variable {P:Program} {μ:Mu} {h:b8} {w:World} {f:Nat->V} {a:Act}
theorem Hb [Frame] {x:Operand} {y:Opd} (E:gi μ h w f a) (c:bA x=some y) {dflt most n:Nat} (b:dn (some (y.ev f)) dflt most=some n) (code:BoundsCode):
 n<=most/\(Instr.sliceBound (a.eval x) most code).run P w= .ok n w:=by
 simp only [dn] at b
 split at b
 ·rename_i i hi
  split at b
  ·rename_i d
   cases b
   obtain ⟨k,e⟩:=xh hi (bM E c)
   exact ⟨by omega,by simp [Instr.sliceBound,e,asIntOf,d]⟩
  ·cases b
 ·cases b
theorem tr [Frame] (E:gi μ h w f a) {isS:Bool} {len cap:Nat} {lo hi:Option Operand} {lo' i:Option Opd} (c:pb lo=some lo') (d:pb hi=some i) {p q most:Nat} (v:most<=cap) (m:len<=most)
 (e:dn (i.map (Opd.ev f)) len most=some q) (l:dn (lo'.map (Opd.ev f)) 0 q=some p):
 p<=q/\q<=most/\(Instr.sliceBounds isS len cap (lo.map a.eval) (hi.map a.eval) none).run P w= .ok (p,q,cap) w:=by
 b t:q<=most/\(∀x,hi=some x-> ∀code,(Instr.sliceBound (a.eval x) cap code).run P w= .ok q w)/\(hi=none->q=len):=by
   cases hi with
   |none=>
    simp [pb] at d;subst d
    simp [dn] at e;subst e
    exact ⟨m,(fun x h=>by cases h),(fun _=>rfl)⟩
   |some x=>
    simp only [pb] at d
    split at d
    ·rename_i y j
     cases d
     b n:dn (some (y.ev f)) len cap=some q:=by
       simp only [ea,dn] at e ⊢
       split at e
       ·split at e
        ·rename_i u;rw [ae ⟨u.1,by omega⟩];exact e
        ·cases e
       ·cases e
     b o:=(Hb (P:=P) E j (show dn (some (y.ev f)) len most=some q from e) .sliceB).1
     exact ⟨o,fun x' h code=>by cases h;exact (Hb E j n code).2,fun h=>by cases h⟩
    ·cases d
 obtain ⟨o,s,r⟩:=t
 b k:p<=q/\(∀x,lo=some x-> ∀code,(Instr.sliceBound (a.eval x) q code).run P w= .ok p w)/\(lo=none->p=0):=by
   cases lo with
   |none=>
    simp [pb] at c;subst c
    simp [dn] at l;subst l
    exact ⟨qC _,(fun x h=>by cases h),(fun _=>rfl)⟩
   |some x=>
    simp only [pb] at c
    split at c
    ·rename_i y j
     cases c
     exact ⟨(Hb (P:=P) E j l .sliceB).1,fun x' h code=>by cases h;exact (Hb E j l code).2,fun h=>by cases h⟩
    ·cases c
 refine ⟨k.1,o, ?_⟩
 cases hi with
 |none=>
  b:=r rfl
  subst this
  cases lo with
  |none=>b:=k.2.2 rfl;subst this;simp [Instr.sliceBounds]
  |some y=>simp [Instr.sliceBounds,k.2.1 y rfl]
 |some x=>
  cases lo with
  |none=>b:=k.2.2 rfl;subst this;cases isS<;>simp [Instr.sliceBounds,s x rfl]
  |some y=>cases isS<;>simp [Instr.sliceBounds,s x rfl,k.2.1 y rfl]
theorem Xu [Frame] (H:bB μ h w) (E:gi μ h w f a) {o:Oper} {t:TypeId} {x:Operand} {lo hi:Option Operand} {x':Opd} {lo' c:Option Opd} (e:o.op= .slice t x lo hi none) (l:bA x=some x') (i:pb lo=some lo') (j:pb hi=some c)
 (m:P.underlying t=some .string) {C:ce} {ow:FuncId->List Nat} {new:Nat} {v:V} {u:Upd} (b:aM C ow (.sliceStr x' lo' c) (Opd.ev f) h new=some (v,u)):ix P o a μ h w v u:=by
 k d:=bM E l
 simp only [aM] at b
 split at b
 ·rename_i s n
  split at b
  ·rename_i q r
   split at b
   ·rename_i p y
    cases b
    rw [n] at d
    obtain ⟨h1,h2,z⟩:=tr (P:=P) E (isS:=false) i j (aw _) (aw _) r y
    refine .quiet H (x:= .string (s.extract p q)) ?_ (.lit _)
    simp [execOp,e,Instr.sliceAt,Instr.slice,run_underlying m,de d,z]
   ·cases b
  ·cases b
 ·cases b
theorem a7z [Frame] {e p q cap':Nat} {rows:List (List V)} {c off cap:Nat} (s:aY μ h w (.imm e rows) (.slice (some ⟨c,off,none⟩) rows.length cap)) (t:rows≠[]) (u:p<=q) (hq:q<=rows.length) (x:q-p<=cap')
 {ad:Option Addr} (l:p<q->ad=some ⟨c,off+p*e,none⟩):aY μ h w (.imm e ((rows.take q).drop p)) (.slice ad (q-p) cap'):=by
 generalize y:(Value.slice (some ⟨c,off,none⟩) rows.length cap)=X at s
 cases s with
 |emp=>exact absurd rfl t
 |imm0=>exact absurd rfl t
 |imm _ _ c' off' cap'' ys z _ hcp hc hs k d m=>
  injection y with n h2 h3
  injection n with n
  injection n with h4 h5
  subst h4 h5
  a b:((rows.take q).drop p).length=q-p:=by simp;omega
  by_cases hz:p=q
  ·subst hz
   a:(rows.take p).drop p=[]:=bS (by omega)
   rw [this,Nat.sub_self]
   exact .imm0 _ _ _ (by omega)
  ·a o:p<q:=by omega
   rw [l o, <-b]
   a get: ∀i,i<q-p->((rows.take q).drop p)[i]? =rows[p+i]? :=by
     intro i hi
     rw [gw,j3,ae (by omega)]
   refine .imm e _ c (off+p*e) cap' (fun i j=>ys (p+i) j) z (by intro e0;rw [e0] at b;simp at b;omega) (by omega) hc hs
    (fun row f=>k row (cq (ca f))) (fun i j hi r=> ?_) (fun i row j v hi r=> ?_)
   ·a:=d (p+i) j (by omega) r
    rw [<-this,Nat.add_mul]
    congr 2
    omega
   ·a hil:=cS hi
    rw [get i (by omega)] at hi
    exact m (p+i) row j v hi r
theorem a8Y [Frame] (H:bB μ h w) (E:gi μ h w f a) {o:Oper} {t e:TypeId} {x:Operand} {lo hi mx:Option Operand} {x':Opd} {lo' hi' mx':Option Opd} {s0:Nat} (hop:o.op= .slice t x lo hi mx) (hx:bA x=some x') (m:pb lo=some lo') (r:pb hi=some hi') (hmx:pb mx=some mx')
 (hu:P.underlying t=some (.slice e)) (hsz:jB P e=some s0) {C:ce} {ow:FuncId->List Nat} {new:Nat} {v:V} {u:Upd} (i:aM C ow (.slice s0 x' lo' hi' mx') (Opd.ev f) h new=some (v,u)):ix P o a μ h w v u:=by
 d j:=bM E hx
 d hmn:mx'=none->mx=none:=by
   intro h1
   cases mx with
   |none=>rfl
   |some y=>
    simp only [pb] at hmx
    split at hmx
    ·subst h1;cases hmx
    ·cases hmx
 d run: ∀ad n cap p q,a.eval x= .slice ad n cap->p<=q->mx=none->(Instr.sliceBounds true n cap (lo.map a.eval) (hi.map a.eval) none).run P w= .ok (p,q,cap) w->
  (execOp a.eval o).run P w= .ok (.value (.slice (if cap=p then ad else ad.map (·.add (p*s0))) (q-p) (cap-p))) w:=by
   intro ad n cap p q hX hpq hm hb
   subst hm
   simp [execOp,hop,Instr.sliceAt,Instr.slice,run_underlying hu,hX,hb,fD hsz]
 simp only [aM] at i
 split at i
 ·cases i
 ·d hm:=hmn rfl
  split at i
  ·rename_i hb
   split at i
   ·rename_i q hq
    split at i
    ·rename_i p hp
     cases i
     rw [hb] at j
     obtain ⟨h1,h2,h3⟩:=tr (P:=P) E (isS:=true) (cap:=0) m r (aw _) (aw _) hq hp
     d z:q=0:=by omega
     subst z
     d hp0:p=0:=by omega
     subst hp0
     exact .quiet H (run none 0 0 0 0 (de j) (aw _) hm h3) (.lit _)
    ·cases i
   ·cases i
  ·rename_i b s n hb
   split at i
   ·rename_i k hk
    split at i
    ·rename_i hc
     obtain ⟨c1,c2,c3,c4⟩:=hc
     split at i
     ·rename_i q hq
      split at i
      ·rename_i p hp
       rw [hb] at j
       generalize hX:a.eval x=X at j
       d l:=j
       cases j with
       |sl _ _ _ _ k' hk' hn' hx' hp'=>
        rw [hk] at hk';cases hk'
        obtain ⟨ad,cap,rfl,hok⟩:=hp' (by omega) c4
        d hncap:n<=cap:=by rcases hok with ⟨g1,g2⟩|⟨_,_,_,_,g⟩<;>omega
        obtain ⟨h1,h2,h3⟩:=tr (P:=P) E (isS:=true) (cap:=cap) m r hncap (aw _) hq hp
        d hrun:=run ad n cap p q hX h1 hm h3
        split at i
        ·rename_i hqn
         subst hqn
         cases i
         refine .quiet H hrun (.sl _ _ _ _ k hk (.inr (by omega)) ⟨_,_,rfl⟩ (fun _ _=>⟨_,_,rfl, ?_⟩))
         rcases hok with ⟨g1,g2⟩|⟨c,hcm,rfl,hcap,hnc⟩
         ·exact .inl ⟨by omega,by omega⟩
         ·by_cases hcp:cap=p
          ·exact .inl ⟨by omega,by omega⟩
          ·refine .inr ⟨c,hcm, ?_, ?_,by omega⟩
           ·rw [aa hcp,ea,vh,Nat.add_mul,c3]
           ·d:s+p+(cap-p)=s+cap:=by omega
            rw [this];exact hcap
        ·rename_i hqn
         cases i
         obtain ⟨H1,C1⟩:=H.kill hk
         d himm:=Lu H hk c1 c2 c4 l (μ':=cE μ b none) (bT h b my) (by simp [cE]) (fun b' c h5=>by unfold cE at h5;split at h5<;>first| (cases h5;done)|exact h5)
         refine ⟨_,w,cE μ b none,.inl hrun,H1,C1, ?_⟩
         d hlen:(k.rows.drop s).length=n:=by simp;omega
         rcases hok with ⟨g1,g2⟩|⟨c,hcm,rfl,hcap,hnc⟩
         ·omega
         ·d hne:k.rows.drop s≠[]:=by intro e0;rw [e0] at hlen;simp at hlen;omega
          d himm':aY (cE μ b none) (bT h b my) w (.imm k.esz (k.rows.drop s)) (.slice (some ⟨c,s*k.esz,none⟩) (k.rows.drop s).length cap):=by rw [hlen];exact himm
          rw [<-c3]
          refine aY.cz (a7z himm' hne h1 (by omega) (by omega) (fun hpq=> ?_))
          rw [aa (by omega),ea,vh]
      ·cases i
     ·cases i
    ·cases i
   ·cases i
  ·rename_i e' rows hb
   split at i
   ·rename_i he
    split at i
    ·rename_i q hq
     split at i
     ·rename_i p hp
      cases i
      rw [hb] at j
      generalize hX:a.eval x=X at j
      d l:=j
      cases j with
      |emp ad=>
       obtain ⟨h1,h2,h3⟩:=tr (P:=P) E (isS:=true) (cap:=0) m r (aw _) (aw _) hq hp
       d h2:q<=0:=h2
       d z:q=0:=by omega
       subst z
       d hp0:p=0:=by omega
       subst hp0
       exact .quiet H (run ad 0 0 0 0 hX (aw _) hm h3) l.cz
      |imm0 _ ad cap he0=>
       obtain ⟨h1,h2,h3⟩:=tr (P:=P) E (isS:=true) (cap:=cap) m r (qC _) (aw _) hq hp
       d h2:q<=0:=h2
       d z:q=0:=by omega
       subst z
       d hp0:p=0:=by omega
       subst hp0
       refine .quiet H (run ad 0 cap 0 0 hX (aw _) hm h3) ?_
       d e9:(List.drop 0 (List.take 0 ([]:List (List V))))=[]:=rfl
       rw [e9]
       exact (aY.imm0 _ _ _ he0).cz
      |imm _ _ c off cap ys he0 hr hcp hc i hrow hcell hv=>
       obtain ⟨h1,h2,h3⟩:=tr (P:=P) E (isS:=true) (cap:=cap) m r hcp (aw _) hq hp
       d he:e'=s0:=by
         rcases he with he|he
         ·exact he
         ·exact absurd he hr
       subst he
       refine .quiet H (run _ _ cap p q hX h1 hm h3) (aY.cz (a7z l hr h1 h2 (by omega) (fun hpq=> ?_)))
       rw [aa (by omega),ea,vh]
     ·cases i
    ·cases i
   ·cases i
  ·cases i
end
end
end Go.AI
