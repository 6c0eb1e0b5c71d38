/- The operations of the abstract machine and the model's. Seventh part: append and copy. -/
import Derived.Test.YtdmhkkcihecndaaGreatAiOps6
set_option linter.unusedVariables false
set_option linter.unusedSimpArgs false
namespace Go.AI
section
variable {P:Program} {μ:Mu} {h:ak} {w:World} {f:Nat→V} {a:Act}
theorem a1O {w w':World} (hh:w'.heap=w.heap) (ad:Addr):w'.cell? ad=w.cell? ad:=by simp [World.cell?,hh]
structure Src [Frame] (P:Program) (μ:Mu) (h:ak) (w:World) (esz:Nat) (rows:List (List V)) (x:Value) (news:Array Value):Prop where
 len: ∀w',(Builtin.lenOf x).run P w'= .ok rows.length w'
 first: ∀m,m≤rows.length→ ∀w',w'.heap=w.heap→(Builtin.firstCells esz m x).run P w'= .ok (news.extract 0 (m*esz)) w'
 size:news.size=rows.length*esz
 rel: ∀i row j v,rows[i]? =some row→row[j]? =some v→aj μ h w v (news.getD (i*esz+j) undef)
 row: ∀row∈rows,row.length=esz∧ ∀v∈row,v.cell=true∧v.cl=true
theorem Src.one [Frame] {esz:Nat} {rows:List (List V)} {x:Value} {news:Array Value} (S:Src P μ h w esz rows x news) (h0:0<esz): ∀k,k<news.size→aN (news.getD k undef)=true:=by
 intro k hk
 rw [S.size] at hk
 have hi:k/esz<rows.length:=(Nat.div_lt_iff_lt_mul h0).2 hk
 have hj:=Nat.mod_lt k h0
 have hrow:=List.getElem_mem hi
 have hlen:=(S.row _ hrow).1
 have hv:=S.rel (k/esz) rows[k/esz] (k%esz) (rows[k/esz][k%esz]'(by omega)) (List.getElem?_eq_getElem hi) (List.getElem?_eq_getElem (by omega))
 rw [Nat.mul_comm,Nat.div_add_mod] at hv
 exact hv.oneCell ((S.row _ hrow).2 _ (List.getElem_mem _)).1
theorem HZ {α:Type} (x:Array α) (n:Nat) (h:x.size≤n):x.extract 0 n=x:=by
 apply Array.ext'
 simp [List.take_of_length_le,h]
theorem XL [Frame] (H:aE μ h w) {v:V} {x:Value} {esz:Nat} {rows:List (List V)} (h0:0<esz) (hr:ck h esz v=some rows) (hv:aj μ h w v x): ∃news,Src P μ h w esz rows x news:=by
 by_cases hs: ∃s,x= .string s
 ·obtain ⟨s,rfl⟩:=hs
  rcases a0o hv with h5|h5
  ·subst h5
   simp only [ck] at hr
   split at hr
   ·rename_i he
    subst he
    cases hr
    refine ⟨s.data.map fun b=> .int .u8 b.toNat,fun w'=>by simp [Builtin.lenOf],fun m hm w' hw'=> ?_,by simp,fun i row j v hi hj=> ?_,fun row hrow=> ?_⟩
    ·simp only [Builtin.firstCells,Sem.run_pure]
     congr 1
     apply Array.ext'
     simp [ByteArray.extract,ByteArray.copySlice]
    ·rw [List.getElem?_map] at hi
     cases hb':s.data.toList[i]? with
     |none=>rw [hb'] at hi;cases hi
     |some y=>
      rw [hb'] at hi;cases hi
      cases j with
      |zero=>
       simp at hj;subst hj
       simp only [Nat.mul_one,Nat.add_zero,Array.getD_eq_getD_getElem?,Vr s i y hb',Option.getD_some]
       exact .lit _
      |succ j=>simp at hj
    ·obtain ⟨y,hy,rfl⟩:=List.mem_map.1 hrow
     exact ⟨rfl,fun v hv=>by simp at hv;subst hv;exact ⟨rfl,rfl⟩⟩
   ·cases hr
  ·subst h5;simp [ck] at hr
 ·obtain ⟨ad,cap,hX,hat⟩:=Ep H h0 hr hv (fun s e=>hs ⟨s,e⟩)
  subst hX
  rcases hat with rfl|⟨c,off,rfl,R,_,_⟩
  ·refine ⟨#[],fun w'=>by simp [Builtin.lenOf],fun m hm w' hw'=> ?_,by simp,fun i row j v hi=>by simp at hi,fun row hrow=>by simp at hrow⟩
   have:m=0:=by simpa using hm
   subst this
   cases ad with
   |none=>simp [Builtin.firstCells]
   |some ad=>simp [Builtin.firstCells,loadCells,loadCellsFrom]
  ·let fn:Nat→Value:=fun k=>(w.cell? ⟨c,off+k,none⟩).getD undef
   have hcell: ∀k,k<rows.length*esz→w.cell? ⟨c,off+k,none⟩=some (fn k):=by
    intro k hk
    have hi:k/esz<rows.length:=(Nat.div_lt_iff_lt_mul h0).2 hk
    have hj:=Nat.mod_lt k h0
    have hlen:=(R.row _ (List.getElem_mem hi)).1
    obtain ⟨y,hy,_⟩:=R.cell (k/esz) rows[k/esz] (k%esz) (rows[k/esz][k%esz]'(by omega)) (List.getElem?_eq_getElem hi) (List.getElem?_eq_getElem (by omega))
    rw [Nat.mul_comm,Nat.div_add_mod] at hy
    show _=some ((w.cell? ⟨c,off+k,none⟩).getD undef)
    rw [hy];rfl
   refine ⟨(Array.range (rows.length*esz)).map fn,fun w'=>by simp [Builtin.lenOf],fun m hm w' hw'=> ?_,by simp,fun i row j v hi hj=> ?_,R.row⟩
   ·have hle:m*esz≤rows.length*esz:=Nat.mul_le_mul_right _ hm
    simp only [Builtin.firstCells]
    rw [mi (w:=w') (f:=fn) (fun j hj=>by rw [a1O hw'];exact hcell j (by omega))]
    congr 1
    apply Array.ext'
    simp [←List.map_take,List.take_range,Nat.min_eq_left hle]
   ·obtain ⟨y,hy,hv⟩:=R.cell i row j v hi hj
    have hlt:i*esz+j<rows.length*esz:=by
     have hil:=bu hi
     have hjl:=bu hj
     rw [(R.row _ (List.mem_of_getElem? hi)).1] at hjl
     have:(i+1)*esz≤rows.length*esz:=Nat.mul_le_mul_right _ hil
     rw [Nat.add_mul,Nat.one_mul] at this
     omega
    have he:fn (i*esz+j)=y:=by
     show (w.cell? ⟨c,off+(i*esz+j),none⟩).getD undef=y
     rw [hy];rfl
    simp [hlt,he]
    exact hv
set_option maxHeartbeats 4000000 in
theorem Wy {t u e ty:TypeId} {d:TypeDesc} {i:TypeInfo} {z:Value} {base:Option Addr} {sLen sCap m:Nat} {x:Value} {news old:Array Value} (ht:P.underlying t=some (.slice e)) (hu:P.underlying u=some d) (hd: ∀k,d≠ .int k)
 (hi:P.info? e=some i) (hz:i.zero=some z) (hlen: ∀w',(Builtin.lenOf x).run P w'= .ok m w') (hnew: ∀w',w'.heap=w.heap→(Builtin.firstCells i.size m x).run P w'= .ok news w')
 (hold: ∀w',w'.heap=w.heap→(Builtin.firstCells i.size sLen (.slice base sLen sCap)).run P w'= .ok old w') (hcap:sCap<sLen+m) (hb:(sLen+m)*i.bytes≤140737488355328) (h63:sLen+m≤9223372036854775807):
 ∃nc,sLen+m≤nc∧(Builtin.append_ #[t,u] ty #[.slice base sLen sCap,x]).run P w=
  .ok (.slice (some ⟨w.heap.size,0,none⟩) (sLen+m) nc) (tD { w with drawn:=w.drawn+1 } (.cells (old++news++Builtin.zeroCells z.cells (nc-(sLen+m))) e)):=by
 refine ⟨(Question.appendCap (sLen+m) sCap e).cut (w.tape w.drawn (.appendCap (sLen+m) sCap e)),by simp only [Question.cut];omega, ?_⟩
 have hfit:=growslice_fits (need:=sLen+m) (old:=sCap) (bytes:=i.bytes) (by omega) hb
 have hforced:(Question.appendCap (sLen+m) sCap e).forced=false:=rfl
 have n1: ¬sLen+m≤sCap:=by omega
 have n2: ¬(281474976710656<Builtin.nextslicecap (sLen+m) sCap*i.bytes):=by omega
 have n3: ¬(9223372036854775807<(sLen:Int)+(m:Int)):=by omega
 have hmax:IntKind.i64.max=9223372036854775807:=rfl
 have ho:=hold w.drew rfl
 have hn:=hnew w.drew rfl
 cases d<;>first
  | (exfalso;exact hd _ rfl)
  | (simp [Builtin.append_,run_underlying ht,run_underlying hu,sizeOf,typeInfo,hi,hlen,n1,n2,n3,hforced,hmax,ho,hn,zeroValue,hz,newRow];rfl)
theorem JN {x y:Array Value} (k:Nat):(x++y).getD k undef=if k<x.size then x.getD k undef else y.getD (k-x.size) undef:=by
 rw [Array.getD_eq_getD_getElem?,Array.getD_eq_getD_getElem?,Array.getD_eq_getD_getElem?,Array.getElem?_append]
 split<;>rfl
set_option maxHeartbeats 4000000 in
theorem Vq {t u e ty:TypeId} {d:TypeDesc} {i:TypeInfo} {base:Option Addr} {sLen sCap m:Nat} {x:Value} {news:Array Value} (ht:P.underlying t=some (.slice e)) (hu:P.underlying u=some d) (hd: ∀k,d≠ .int k)
 (hi:P.info? e=some i) (hlen:(Builtin.lenOf x).run P w= .ok m w) (hnew:(Builtin.firstCells i.size m x).run P w= .ok news w) (hroom:sLen+m≤sCap):
 (Builtin.append_ #[t,u] ty #[.slice base sLen sCap,x]).run P w=
  ((match base with|some a=>storeCells (a.add (sLen*i.size)) news.toList|none=>pure ():Sem Unit).run P w).andThen fun _ w'=> .ok (.slice base (sLen+m) sCap) w':=by
 cases d<;>first
  | (exfalso;exact hd _ rfl)
  | (cases base<;>simp [Builtin.append_,run_underlying ht,run_underlying hu,sizeOf,typeInfo,hi,hlen,hroom,hnew])
theorem tg [Frame] {rows:List (List V)} {esz i j:Nat} {row:List V} {v:V} (hrow: ∀row∈rows,row.length=esz) (hi:rows[i]? =some row) (hj:row[j]? =some v):i*esz+j<rows.length*esz:=by
 have hil:=bu hi
 have hjl:=bu hj
 rw [hrow _ (List.mem_of_getElem? hi)] at hjl
 have:(i+1)*esz≤rows.length*esz:=Nat.mul_le_mul_right _ hil
 rw [Nat.add_mul,Nat.one_mul] at this
 omega
theorem L1 [Frame] {rows new_:List (List V)} {esz:Nat} {arr news rest:Array Value} (hsz:arr.size=rows.length*esz) (hrow: ∀row∈rows,row.length=esz)
 (hv: ∀i row j v,rows[i]? =some row→row[j]? =some v→aj μ h w v (arr.getD (i*esz+j) undef))
 (hns:news.size=new_.length*esz) (hnrow: ∀row∈new_,row.length=esz) (hnv: ∀i row j v,new_[i]? =some row→row[j]? =some v→aj μ h w v (news.getD (i*esz+j) undef)):
 ∀i row j v,(rows++new_)[i]? =some row→row[j]? =some v→aj μ h w v ((arr++news++rest).getD (i*esz+j) undef):=by
 intro i row j v hi hj
 by_cases hlt:i<rows.length
 ·rw [List.getElem?_append_left hlt] at hi
  have h1:=tg hrow hi hj
  rw [JN,if_pos (by rw [Array.size_append];omega),JN,if_pos (by omega)]
  exact hv i row j v hi hj
 ·rw [List.getElem?_append_right (by omega)] at hi
  have h1:=tg hnrow hi hj
  have h2:i*esz=rows.length*esz+(i-rows.length)*esz:=by rw [←Nat.add_mul];congr 1;omega
  rw [JN,if_pos (by rw [Array.size_append];omega),JN,if_neg (by omega)]
  have:=hnv (i-rows.length) row j v hi hj
  rwa [show i*esz+j-arr.size=(i-rows.length)*esz+j by omega]
structure a6K [Frame] (μ:Mu) (h:ak) (w:World) (esz:Nat) (rows:List (List V)) (news:Array Value):Prop where
 size:news.size=rows.length*esz
 rel: ∀i row j v,rows[i]? =some row→row[j]? =some v→aj μ h w v (news.getD (i*esz+j) undef)
 row: ∀row∈rows,row.length=esz∧ ∀v∈row,v.cell=true∧v.cl=true
theorem Src.toR [Frame] {esz:Nat} {rows:List (List V)} {x:Value} {news:Array Value} (S:Src P μ h w esz rows x news):a6K μ h w esz rows news:=⟨S.size,S.rel,S.row⟩
theorem a6K.one [Frame] {esz:Nat} {rows:List (List V)} {news:Array Value} (S:a6K μ h w esz rows news) (h0:0<esz): ∀k,k<news.size→aN (news.getD k undef)=true:=by
 intro k hk
 rw [S.size] at hk
 have hi:k/esz<rows.length:=(Nat.div_lt_iff_lt_mul h0).2 hk
 have hj:=Nat.mod_lt k h0
 have hrow:=List.getElem_mem hi
 have hlen:=(S.row _ hrow).1
 have hv:=S.rel (k/esz) rows[k/esz] (k%esz) (rows[k/esz][k%esz]'(by omega)) (List.getElem?_eq_getElem hi) (List.getElem?_eq_getElem (by omega))
 rw [Nat.mul_comm,Nat.div_add_mod] at hv
 exact hv.oneCell ((S.row _ hrow).2 _ (List.getElem_mem _)).1
set_option maxHeartbeats 1000000 in
theorem HC [Frame] (H:aE μ h w) {e:TypeId} {i:TypeInfo} {z:List Value} {zv:Value} (hcs:zv.cells.toList=z) {x:Operand} {x':Opd} (hvx:aj μ h w (Opd.ev f x') (a.eval x)) {new_:List (List V)} {news:Array Value}
 (S:a6K μ h w i.size new_ news) {B:Value→Sem Value}
 (roomL: ∀base sLen sCap,sLen+new_.length≤sCap→(B (.slice base sLen sCap)).run P w=((match base with|some a=>storeCells (a.add (sLen*i.size)) news.toList|none=>pure ():Sem Unit).run P w).andThen fun _ w'=> .ok (.slice base (sLen+new_.length) sCap) w')
 (growL: ∀base sLen sCap (old:Array Value),(∀w':World,w'.heap=w.heap→(Builtin.firstCells i.size sLen (.slice base sLen sCap)).run P w'= .ok old w')→sCap<sLen+new_.length→(sLen+new_.length)*i.bytes≤140737488355328→sLen+new_.length≤9223372036854775807→
  ∃nc,sLen+new_.length≤nc∧(B (.slice base sLen sCap)).run P w= .ok (.slice (some ⟨w.heap.size,0,none⟩) (sLen+new_.length) nc) (tD { w with drawn:=w.drawn+1 } (.cells (old++news++Builtin.zeroCells zv.cells (nc-(sLen+new_.length))) e)))
 {sb:Nat→Bool} {o:Oper} (exec_eq: ∀r w',(B (a.eval x)).run P w= .ok r w'→(execOp a.eval o).run P w= .ok (.value r) w')
 {new:Nat} {v:V} {u:Upd} (hs:DV i.size i.bytes z (Opd.ev f x') sb h new new_=some (v,u)):fC P o a μ h w v u:=by
 unfold DV at hs
 split at hs
 ·rename_i hcond
  obtain ⟨c1,c2,c3,c4⟩:=hcond
  unfold bq at c3 c4
  have hm63:new_.length≤1099511627776:=by
   have:new_.length*1≤new_.length*i.size:=Nat.mul_le_mul_left _ c2
   omega
  have empty: ∀(ad:Option Addr),a.eval x= .slice ad 0 0→h new=none→ ∀v u,(v,u)=(V.sl new 0 new_.length,[(new,(⟨i.size,false,new_⟩:Blk))])→fC P o a μ h w v u:=by
   intro ad hX hn v u hvu
   cases hvu
   by_cases hm:new_.length=0
   ·have hnil:new_=[]:=List.eq_nil_of_length_eq_zero hm
    subst hnil
    obtain ⟨q1,q2⟩:=H.newNil (b:=new) (e:=i.size) hn
    refine ⟨.slice ad 0 0,w,μ,.inl (exec_eq _ _ ?_),q1,q2,.sl new 0 0 _ ⟨i.size,false,[]⟩ (by simp [dU,bj]) (.inr (by simp)) ⟨_,_,rfl⟩ (fun _ _=>⟨_,_,rfl,.inl ⟨rfl,rfl⟩⟩)⟩
    have hr0:=roomL ad 0 0 (by simp)
    simp only [List.length_nil] at hr0
    have hn0:news= #[]:=by have:=S.size;simp at this;exact this
    rw [hX,hr0,hn0]
    cases ad<;>rfl
   ·obtain ⟨nc,hnc,hrun⟩:=growL ad 0 0 #[]
     (fun w' _=>by cases ad<;>simp [Builtin.firstCells,loadCells,loadCellsFrom]) (by omega) (by rw [Nat.zero_add];omega) (by omega)
    rw [←hX] at hrun
    simp only [Nat.zero_add] at hrun hnc
    have hsz:(#[]++news++Builtin.zeroCells zv.cells (nc-new_.length):Array Value).size=nc*i.size:=by
     have hzs:zv.cells.size=i.size:=by rw [←c1, ←hcs];simp
     simp only [Array.size_append,S.size,size_zeroCells,hzs]
     simp only [Array.size_empty,Nat.zero_add, ←Nat.add_mul]
     congr 1;omega
    obtain ⟨μ',q1,q2,q3⟩:=FD H (w':=tD { w with drawn:=w.drawn+1 } (.cells (#[]++news++Builtin.zeroCells zv.cells (nc-new_.length)) e)) (oM { w with drawn:=w.drawn+1 } _) (new:=new) hn (esz:=i.size) (rows:=new_) (lo:=0) (hi:=0) (cap:=nc)
     (wm { w with drawn:=w.drawn+1 } _) (.inl rfl) c2 hnc (by rw [hsz];exact Nat.le_refl _) S.row
     (by
      have:=L1 (μ:=μ) (h:=h) (w:=w) (rows:=[]) (new_:=new_) (esz:=i.size) (arr:= #[]) (news:=news) (rest:=Builtin.zeroCells zv.cells (nc-new_.length)) (by simp) (fun row hr=>by simp at hr) (fun i row j v hi=>by simp at hi) S.size (fun row hr=>(S.row row hr).1) S.rel
      simpa using this)
    exact ⟨_,_,μ',.inl (exec_eq _ _ hrun),q1,q2,q3⟩
  split at hs
  ·rename_i b n hbx
   split at hs
   ·rename_i k hk
    split at hs
    ·rename_i hc
     cases hs
     obtain ⟨k1,k2,k3,k4,k5,k6,k7⟩:=hc
     unfold bq at k5 k6
     rw [hbx] at hvx
     generalize hX:a.eval x=X at hvx
     cases hvx with
     |sl _ _ _ _ k' hk' hn' hx' hp=>
      rw [hk] at hk';cases hk'
      obtain ⟨ad,cap,rfl,hok⟩:=hp (by omega) (by omega)
      have hrw:=H.rows b k hk
      have hrow': ∀row∈k.rows++new_,row.length=k.esz∧ ∀v∈row,v.cell=true∧(k.op=false→v.cl=true):=by
       intro row hrow
       rcases List.mem_append.1 hrow with h1|h1
       ·exact hrw row h1
       ·exact ⟨by rw [k3];exact (S.row row h1).1,fun v hv=>⟨((S.row row h1).2 v hv).1,fun _=>((S.row row h1).2 v hv).2⟩⟩
      by_cases hroom:n+new_.length≤cap
      ·
       rcases hok with ⟨g1,g2⟩|⟨cb,hcb,rfl,hcap,hnc⟩
       ·have hm0:new_=[]:=List.eq_nil_of_length_eq_zero (by omega)
        have hn0:news= #[]:=by have:=S.size;rw [hm0] at this;simp at this;exact this
        have hr0:=roomL ad n cap hroom
        rw [hm0] at hr0
        simp only [List.length_nil,Nat.add_zero] at hr0
        have hkk:({ k with rows:=k.rows++new_ }:Blk)=k:=by rw [hm0,List.append_nil]
        have hhh:bj h b k=h:=by funext b';unfold bj;split<;>simp_all
        refine ⟨.slice ad n cap,w,μ,.inl (exec_eq _ _ ?_), ?_, ?_, ?_⟩
        ·rw [hX,hr0,hn0]
         cases ad<;>rfl
        ·show aE μ (bj h b _) w;rw [hkk,hhh];exact H
        ·show Chg μ h w μ (bj h b _) w;rw [hkk,hhh];exact Chg.refl _ _ _
        ·show aj μ (bj h b _) w _ _
         rw [hkk,hhh,hm0]
         exact .sl b 0 _ _ k hk (.inr (by simp;omega)) ⟨_,_,rfl⟩ (fun _ _=>⟨_,_,rfl,.inl ⟨g1,g2⟩⟩)
       ·rcases H.blk b k hk with ⟨h1,_,hmn⟩|⟨_,c',arr,tt,lo,hi',hm',hh,hf,hl,hv⟩
        ·rw [hcb] at hmn;cases hmn
        ·rw [hcb] at hm';cases hm'
         have hbs:bsize w cb=arr.size:=by unfold bsize;rw [hh]
         have hcapsz:cap*i.size≤arr.size:=by rw [←hbs, ←k3];simpa using hcap
         have hneed:(n+new_.length)*i.size≤arr.size:=Nat.le_trans (Nat.mul_le_mul_right _ hroom) hcapsz
         have hns:news.toList.length=new_.length*i.size:=by rw [Array.length_toList,S.size]
         obtain ⟨arr',hst,hsz',hval⟩:=gW (P:=P) (o:=n*i.size) news.toList 0 arr w hh hf.at (by rw [Nat.add_mul] at hneed;omega)
          (fun v hv=>by
           obtain ⟨q,hq,rfl⟩:=List.getElem_of_mem hv
           have:=S.one c2 q (by simpa using hq)
           simpa [Array.getD_eq_getD_getElem?,(show q<news.size by simpa using hq)] using this)
         have hlt:=j0 hh
         have hput:=H.put (w':=dF w cb arr' tt (lo,hi')) (c:=cb) (k':={ k with rows:=k.rows++new_ }) hk k2 (.inl hcb)
          rfl rfl rfl (by rw [oC];exact Nat.le_refl _) (fun c' _ hne=>wv hne) (ll hlt) (by rw [hsz'];exact hf) rfl
          (by rw [hsz',List.length_append, ←k4,k3];exact hneed) hrow'
          (by
           by_cases hm:new_.length=0
           ·exact .inr ⟨by simp [hm],hcb,by rw [hsz',hbs]⟩
           ·exact .inl (by simp;omega))
          (fun i2 row2 j v h2 h3=>by
           simp only at h2 ⊢
           rw [hval]
           simp only [Nat.add_zero,hns]
           by_cases hlt2:i2<k.rows.length
           ·rw [List.getElem?_append_left hlt2] at h2
            have h4:=tg (fun row hr=>(hrw row hr).1) h2 h3
            rw [if_neg (by rw [k4, ←k3];omega)]
            exact hv i2 row2 j v h2 h3
           ·rw [List.getElem?_append_right (by omega)] at h2
            have h4:=tg (fun row hr=>(S.row row hr).1) h2 h3
            have h5:i2*i.size=k.rows.length*i.size+(i2-k.rows.length)*i.size:=by rw [←Nat.add_mul];congr 1;omega
            rw [k3,if_pos (by rw [k4];omega)]
            have:=S.rel (i2-k.rows.length) row2 j v h2 h3
            rw [show i2*i.size+j-n*i.size=(i2-k.rows.length)*i.size+j by rw [k4];omega]
            simpa [List.getD_eq_getElem?_getD,Array.getD_eq_getD_getElem?] using this)
         refine ⟨.slice (some ⟨cb,0*k.esz,none⟩) (n+new_.length) cap,_,_,.inl (exec_eq _ _ ?_),hput.1,hput.2, ?_⟩
         ·rw [hX]
          rw [Nat.zero_mul]
          have hadd:=pk cb 0 (n*i.size)
          rw [Nat.zero_add] at hadd
          rw [roomL _ _ _ hroom]
          simp only [hadd,hst,Result.andThen_ok]
         ·refine .sl b 0 _ _ { k with rows:=k.rows++new_ } (by simp [dU,bj]) (.inr (by simp;omega)) ⟨_,_,rfl⟩ (fun _ _=>⟨_,_,rfl,.inr ⟨cb,by simp [bO],rfl, ?_,hroom⟩⟩)
          unfold bsize
          rw [ll hlt]
          simp only [Nat.zero_add]
          rw [hsz',k3];exact hcapsz
      ·
       have hold: ∃old:Array Value,(∀w',w'.heap=w.heap→(Builtin.firstCells i.size n (.slice ad n cap)).run P w'= .ok old w')∧old.size=k.rows.length*i.size∧
        ∀i2 row j v,k.rows[i2]? =some row→row[j]? =some v→aj μ h w v (old.getD (i2*i.size+j) undef):=by
        have hr2:ck h i.size (.sl b 0 n)=some k.rows:=by simp [ck,hk,k1,k2,k3,k4];omega
        obtain ⟨old,S2⟩:=XL (P:=P) H c2 hr2 (.sl b 0 n (.slice ad n cap) k hk hn' hx' hp)
        refine ⟨old,fun w' hw'=> ?_,S2.size,S2.rel⟩
        rw [S2.first n (by omega) w' hw',HZ _ _ (by rw [S2.size,k4];exact Nat.le_refl _)]
       obtain ⟨old,hold1,hold2,hold3⟩:=hold
       obtain ⟨nc,hnc,hrun⟩:=growL ad n cap old hold1 (by omega)
        (by omega) (by
         have:(n+new_.length)*1≤(n+new_.length)*i.size:=Nat.mul_le_mul_left _ c2
         omega)
       rw [←hX] at hrun
       have hsz:(old++news++Builtin.zeroCells zv.cells (nc-(n+new_.length)):Array Value).size=nc*i.size:=by
        have hzs:zv.cells.size=i.size:=by rw [←c1, ←hcs];simp
        simp only [Array.size_append,S.size,size_zeroCells,hzs,hold2, ←k4, ←Nat.add_mul]
        congr 1;omega
       have hat:=wm { w with drawn:=w.drawn+1 } (.cells (old++news++Builtin.zeroCells zv.cells (nc-(n+new_.length))) e)
       have hgr:=oM { w with drawn:=w.drawn+1 } (.cells (old++news++Builtin.zeroCells zv.cells (nc-(n+new_.length))) e)
       by_cases hm:new_.length=0
       ·exfalso
        rcases hok with ⟨g1,g2⟩|⟨cb,hcb,_,hcap,hnc2⟩<;>omega
       ·have hput:=H.put (w':=tD { w with drawn:=w.drawn+1 } (.cells (old++news++Builtin.zeroCells zv.cells (nc-(n+new_.length))) e)) (c:=w.heap.size) (k':={ k with rows:=k.rows++new_ }) hk k2 (.inr (Nat.le_refl _))
         rfl rfl rfl hgr.2.2.2.1 (fun c' hc' _=>hgr.2.2.2.2 c' hc') hat (.inl rfl) rfl
         (by rw [hsz,List.length_append, ←k4,k3];exact Nat.mul_le_mul_right _ hnc) hrow' (.inl (by simp;omega))
         (by
          have:=L1 (μ:=μ) (h:=h) (w:=w) (rest:=Builtin.zeroCells zv.cells (nc-(n+new_.length))) hold2 (fun row hr=>by rw [(hrw row hr).1,k3]) hold3 S.size (fun row hr=>(S.row row hr).1) S.rel
          simpa [k3] using this)
        refine ⟨_,_,_,.inl (exec_eq _ _ hrun),hput.1,hput.2,.sl b 0 _ _ { k with rows:=k.rows++new_ } (by simp [dU,bj]) (.inr (by simp;omega)) ⟨_,_,rfl⟩ (fun _ _=>⟨_,_,rfl,.inr ⟨w.heap.size,by simp [bO],by simp, ?_,hnc⟩⟩)⟩
        unfold bsize
        rw [hat]
        simp only [Nat.zero_add]
        rw [hsz,k3];exact Nat.le_refl _
    ·cases hs
   ·cases hs
  ·rename_i hbx
   obtain ⟨hn,h0,hr⟩:=mw hs
   rw [hbx] at hvx
   exact empty none (cn hvx) hn v u hr
  ·rename_i hbx
   obtain ⟨hn,h0,hr⟩:=mw hs
   rw [hbx] at hvx
   have: ∃ad,a.eval x= .slice ad 0 0:=by
    generalize a.eval x=X at hvx
    cases hvx with
    |emp ad=>exact ⟨ad,rfl⟩
    |imm0 _ ad cap he=>exact absurd rfl he
    |imm _ _ _ _ _ _ he hr=>exact absurd rfl hr
   obtain ⟨ad,hX⟩:=this
   exact empty ad hX hn v u hr
  ·cases hs
 ·cases hs
set_option maxHeartbeats 1000000 in
theorem XU [Frame] (H:aE μ h w) (E:dN μ h w f a) {o:Oper} {c:Call} {t u' e:TypeId} {d:TypeDesc} {i:TypeInfo} {z:List Value} {x y:Operand} {x' y':Opd} (hop:o.op= .call c) (hca:c.callee= .builtin .append) (hargs:c.args.toList=[x,y])
 (hx:aI x=some x') (hy:aI y=some y') (ht:c.argTypes[0]? =some t) (hu0:c.argTypes[1]? =some u') (hu:P.underlying u'=some d) (hd: ∀k,d≠ .int k) (he:P.underlying t=some (.slice e)) (hi:P.info? e=some i) (hz:zr P e=some z)
 {C:aU} {ow:FuncId→List Nat} {new:Nat} {v:V} {u:Upd} (hs:ai C ow (.append i.size i.bytes z x' y') (Opd.ev f) h new=some (v,u)):fC P o a μ h w v u:=by
 have hvx:=aS E hx
 have hvy:=aS E hy
 have ha:c.args= #[x,y]:=by rw [←hargs]
 obtain ⟨i',zv,hi',hzv,hcs,hzr⟩:=nk hz
 rw [hi] at hi';cases hi'
 have exec_eq: ∀r w',(Builtin.append_ #[t,u'] o.type #[a.eval x,a.eval y]).run P w= .ok r w'→(execOp a.eval o).run P w= .ok (.value r) w':=by
  intro r w' hr
  have hat: ∀ty args,Builtin.append_ c.argTypes ty args=Builtin.append_ #[t,u'] ty args:=by
   intro ty args
   unfold Builtin.append_
   simp only [ht,hu0]
   rfl
  simp only [execOp,hop,resolve,hca,ha,Sem.run_bind,Sem.run_pure,Result.andThen_ok,invoke,builtin,hat,List.map_toArray,List.map_cons,List.map_nil,hr]
 simp only [ai] at hs
 split at hs
 ·cases hs
 ·rename_i new_ hnew_
  by_cases c2:0<i.size
  ·obtain ⟨news,S⟩:=XL (P:=P) H c2 hnew_ hvy
   have hfirst: ∀w',w'.heap=w.heap→(Builtin.firstCells i.size new_.length (a.eval y)).run P w'= .ok news w':=by
    intro w' hw'
    rw [S.first _ (Nat.le_refl _) w' hw',HZ _ _ (by rw [S.size];exact Nat.le_refl _)]
   exact HC (B:=fun s=>Builtin.append_ #[t,u'] o.type #[s,a.eval y]) (sb:=fun b=>ai.selfOk b (Opd.ev f y')) H hcs hvx S.toR
    (fun base sLen sCap hroom=>Vq (w:=w) (t:=t) (u:=u') he hu hd hi (S.len w) (hfirst w rfl) hroom)
    (fun base sLen sCap old hold h1 h2 h3=>Wy (P:=P) (w:=w) (t:=t) (u:=u') (ty:=o.type) (base:=base) (sLen:=sLen) (sCap:=sCap) (old:=old) he hu hd hi hzv S.len hfirst hold h1 h2 h3)
    exec_eq hs
  ·rw [if_neg (fun hc=>c2 hc.2.1)] at hs;cases hs
end
end Go.AI
