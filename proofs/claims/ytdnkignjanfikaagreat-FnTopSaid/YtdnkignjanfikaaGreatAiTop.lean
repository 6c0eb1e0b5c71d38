/- Part. -/
import Derived.Test.YtdnkignjanfikaaGreatAiCtl
import Derived.Carry
import Derived.ChangeOld
import Derived.SizedLaws
import Derived.RowKit
import Derived.OpenShut
set_option linter.unusedVariables false
set_option linter.unusedSimpArgs false
namespace Go.AI
section
open Go.RowKit Go.ChangeShapes
section
variable {H:Type}
def IY (g:DataW H->Option (List V)):List (DataW H)->Option (List (List V))
 |[]=>some []
 |d::r=>match g d,IY g r with
  |some a,some b=>some (a::b)
  |_,_=>none
def PK (g:TypeId->DataW H->Option (List V)):List Field->List (DataW H)->Option (List V)
 |[],[]=>some []
 |f::fs,d::ds=>match g f.type d,PK g fs ds with
  |some a,some b=>some (a++b)
  |_,_=>none
 |_,_=>none
def kE (P:Program):Nat->TypeId->DataW H->Option (List V)
 |0,_,_=>none
 |n+1,t,d=>match P.underlying t,d with
  |some .bool,.lit (.bool b)=>some [.lit (.bool b)]
  |some (.int k),.lit (.int k' m)=>if k'=k/\(Lit.int k m).wf=true then some [.lit (.int k m)] else none
  |some .string,.lit (.string bs)=>if bs.length<=maxLen then some [.lit (.string ⟨bs.toArray⟩)] else none
  |some (.slice e),.nil=>some [.imm 1 []]
  |some (.slice e),.slice es _=>if es.length<=maxLen then (match IY (kE P n e) es with
   |some rows=>some [(V.imm (P.cellsOf e) rows).cz]
   |none=>none) else none
  |some (.struct fs),.agg ps=>PK (kE P n) fs.toList ps
  |some (.array k e),.agg ps=>if ps.length=k then (match IY (kE P n e) ps with
   |some rows=>some rows.flatten
   |none=>none) else none
  |_,_=>none
def QN (P:Program):Nat->List Field->Option Nat
 |o,[]=>some o
 |o,f::fs=>if f.offset=o then QN P (o+P.cellsOf f.type) fs else none
def wu (P:Program):Nat->TypeId->Bool
 |0,_=>false
 |n+1,t=>match P.underlying t with
  |some .bool|some (.int _)|some .string=>P.cellsOf t==1
  |some (.slice e)=>P.cellsOf t==1&&decide (0<P.cellsOf e)&&wu P n e
  |some (.struct fs)=>QN P 0 fs.toList==some (P.cellsOf t)&&fs.toList.all (fun f=>wu P n f.type)
  |some (.array k e)=>k*P.cellsOf e==P.cellsOf t&&wu P n e
  |_=>false
@[reducible] def mJ:Frame:=⟨fun _=>False⟩
def CQ:Mu:=fun _=>none
def AJ:ba:=fun _=>none
variable {enc:TypeId×Value->H} {P:Program} {w:World} {sp:Nat->Bool} {held:Bool}
def wa (w:World) (vs:List V) (cs:List Value):Prop:=
 vs.length=cs.length/\ ∀(i:Nat) (v:V),vs[i]? =some v->v.cl=true/\v.cell=true/\ @b7 mJ CQ AJ w v (cs.getD i undef)
theorem wa.one {v:V} {x:Value} (b:v.cl=true) (c:v.cell=true) (d: @b7 mJ CQ AJ w v x):wa w [v] [x]:=
 ⟨rfl,fun i u a=>by
  cases i with
  |zero=>simp at a;subst a;exact ⟨b,c,d⟩
  |succ i=>simp at a⟩
theorem wa.append {vs us:List V} {cs ds:List Value} (a:wa w vs cs) (b:wa w us ds):wa w (vs++us) (cs++ds):=by
 refine ⟨by simp [a.1,b.1],fun i v hi=> ?_⟩
 rcases dc i vs.length with c|d
 ·rw [bc c] at hi
  have:=a.2 i v hi
  rw [List.getD_eq_getElem?_getD,bc (by rw [<-a.1];exact c), <-List.getD_eq_getElem?_getD]
  exact this
 ·rw [bt d] at hi
  have:=b.2 _ v hi
  rw [List.getD_eq_getElem?_getD,bt (by rw [<-a.1];exact d), <-List.getD_eq_getElem?_getD, <-a.1]
  exact this
theorem ZQ {g:DataW H->Option (List V)}: ∀{es:List (DataW H)},(∀d∈es, ∃a,g d=some a)-> ∃rows,IY g es=some rows/\rows.length=es.length/\ ∀(i:Nat) (d:DataW H) (row:List V),es[i]? =some d->rows[i]? =some row->g d=some row
 |[],_=>⟨[],rfl,rfl,fun i d row h=>by simp at h⟩
 |d::r,h=>by
  obtain ⟨a,ha⟩:=h d sm
  obtain ⟨rows,h1,h2,h3⟩:=ZQ (es:=r) (fun d hd=>h d (by simp [hd]))
  refine ⟨a::rows,by simp [IY,ha,h1],by simp [h2],fun i d' row hd hr=> ?_⟩
  cases i with
  |zero=>simp at hd hr;subst hd;subst hr;exact ha
  |succ i=>exact h3 i d' row (by simpa using hd) (by simpa using hr)
theorem a7X {base:Nat} {a:Addr} {n:Nat} {cs:List Value} (h:w.cells? base a n=some cs):cs.length=n/\ ∀j,j<n->w.cell? (a.add j)=some (cs.getD j undef):=by
 unfold World.cells? at h
 split at h
 ·have b:=mapM_some_length h
  rw [dV] at b
  refine ⟨b,fun j c=> ?_⟩
  have:=mapM_some_get h j j (by simp [c])
  rw [this,List.getD_eq_getElem?_getD]
  obtain ⟨x,d⟩:=fC (l:=cs) (i:=j) om
  rw [d];rfl
 ·cases h
theorem VP {a:Addr} {cs:List Value} {n base:Nat} (h:w.cells? base a n=some cs) (h0:0<n):a.spot=none/\ ∀j,j<n->w.cell? ⟨a.block,a.off+j,none⟩=some (cs.getD j undef):=by
 obtain ⟨i,hc⟩:=a7X h
 have c:=hc 0 h0
 have d:a.spot=none:=by
  unfold Addr.add at c
  rw [aa rfl] at c
  unfold World.cell? at c
  split at c
  ·split at c
   ·cases c
   ·rename_i hn;simpa using hn
  ·cases c
 refine ⟨d,fun j f=> ?_⟩
 have:=hc j f
 unfold Addr.add at this
 obtain ⟨b,o,p⟩:=a
 simp only at d
 subst d
 split at this
 ·rename_i e;subst e;simpa using this
 ·exact this
theorem Q4 {n m:Nat} {cs:List Value} (ih: ∀(t:TypeId) (cs:List Value) (x:DataW H×List MemPlace),wu P n t=true->DataW.trod enc P w 0 sp held m t cs=some x-> ∃vs,kE P n t x.1=some vs/\vs.length=P.cellsOf t/\wa w vs cs):
 ∀(fs:List Field) (xs:List (DataW H×List MemPlace)) (o e:Nat),QN P o fs=some e->fs.all (fun f=>wu P n f.type)=true->xs.length=fs.length->e<=cs.length->
 (∀(i:Nat) (f:Field),fs[i]? =some f->DataW.trod enc P w 0 sp held m f.type ((cs.drop f.offset).take (P.cellsOf f.type))=xs[i]?)->
 ∃vs,PK (kE P n) fs (xs.map (·.1))=some vs/\o<=e/\vs.length=e-o/\wa w vs ((cs.drop o).take (e-o))
 |[],xs,o,e,hc,a,b,c,h=>by
  simp [QN] at hc
  subst hc
  have:xs=[]:=bN (by simpa using b)
  subst this
  exact ⟨[],rfl,am _,by simp,by simp,fun i v hi=>by simp at hi⟩
 |f::fs,[],o,e,hc,a,b,c,h=>by simp at b
 |f::fs,x::xs,o,e,hc,a,b,c,h=>by
  simp only [QN] at hc
  split at hc
  ·rename_i d
   simp only [cC,aB] at a
   obtain ⟨vs2,j,u,k,l⟩:=Q4 ih fs xs _ e hc a.2 (by simpa using b) c (fun i f' p=>h (i+1) f' (by simpa using p))
   have h0:=h 0 f rfl
   simp only [ky] at h0
   obtain ⟨vs1,q,r,s⟩:=ih f.type _ x a.1 h0
   refine ⟨vs1++vs2,by simp [PK,q,j],by omega,by simp [r,k];omega, ?_⟩
   have:(cs.drop o).take (e-o)=(cs.drop f.offset).take (P.cellsOf f.type)++(cs.drop (o+P.cellsOf f.type)).take (e-(o+P.cellsOf f.type)):=by
    rw [d,show e-o=P.cellsOf f.type+(e-(o+P.cellsOf f.type)) by omega,List.take_add,lh]
   rw [this]
   exact s.append l
  ·cases hc
theorem LR: ∀{n fuel:Nat} {t:TypeId} {cs:List Value} {x:DataW H×List MemPlace},wu P n t=true->DataW.trod enc P w 0 sp held fuel t cs=some x->
 ∃vs,kE P n t x.1=some vs/\vs.length=P.cellsOf t/\wa w vs cs
 |0,fuel,t,cs,x,c,h=>by simp [wu] at c
 |n+1,fuel,t,cs,x,c,h=>by
  simp only [wu] at c
  cases r:P.underlying t with
  |none=>rw [r] at c;cases c
  |some d=>
   rw [r] at c
   cases d with
   |bool=>
    simp only [beq_iff_eq] at c
    obtain ⟨b,rfl,rfl⟩:=DataW.trod_bool r h
    exact ⟨[.lit (.bool b)],by simp [kE,r],by simp [c],wa.one rfl rfl (@b7.lit mJ _ _ _ _)⟩
   |int k=>
    simp only [beq_iff_eq] at c
    obtain ⟨m,rfl,rfl,hw⟩:=DataW.trod_int r h
    exact ⟨[.lit (.int k m)],by simp [kE,r,hw],by simp [c],wa.one rfl rfl (@b7.lit mJ _ _ _ _)⟩
   |string=>
    simp only [beq_iff_eq] at c
    obtain ⟨s,rfl,rfl,hl⟩:=DataW.trod_string r h
    exact ⟨[.lit (.string s)],by simp [kE,r];exact hl,by simp [c],wa.one rfl rfl (@b7.lit mJ _ _ _ _)⟩
   |slice e=>
    simp only [aB,beq_iff_eq,aA] at c
    obtain ⟨⟨p1,p2⟩,p3⟩:=c
    rcases DataW.trod_slice r h with ⟨rfl,rfl⟩|⟨a,len,cap,elems,rest,m,rfl,rfl,rfl,hb,hlc,hcm,hel,hat,_⟩
    ·exact ⟨[.imm 1 []],by simp [kE,r],by simp [p1],wa.one rfl rfl (@b7.imm0 mJ _ _ _ 1 none 0 dcd)⟩
    ·have each: ∀i,i<len-> ∃cs x vs,w.cells? 0 (a.add (i*P.cellsOf e)) (P.cellsOf e)=some cs/\elems[i]? =some x/\kE P n e x.1=some vs/\vs.length=P.cellsOf e/\wa w vs cs:=by
      intro i hi
      have h1:=hat i hi
      obtain ⟨x,hx⟩:=fC (l:=elems) (i:=i) om
      rw [hx] at h1
      cases hcs:w.cells? 0 (a.add (i*P.cellsOf e)) (P.cellsOf e) with
      |none=>rw [hcs] at h1;cases h1
      |some cs=>
       rw [hcs] at h1
       obtain ⟨vs,g1,p,u⟩:=LR p3 h1
       exact ⟨cs,x,vs,rfl,hx,g1,p,u⟩
     obtain ⟨rows,r1,r2,r3⟩:=ZQ (g:=kE P n e) (es:=elems.map (·.1)) (fun d hd=>by
      obtain ⟨x,hx,rfl⟩:=bf.1 hd
      obtain ⟨i,hi,rfl⟩:=bp hx
      obtain ⟨cs,x,vs,_,p,u,_⟩:=each i om
      rw [aq hi] at p
      cases p
      exact ⟨vs,u⟩)
     have rl:rows.length=len:=by rw [r2];simpa using hel
     have rowAt: ∀i row,rows[i]? =some row-> ∃cs,w.cells? 0 (a.add (i*P.cellsOf e)) (P.cellsOf e)=some cs/\row.length=P.cellsOf e/\wa w row cs:=by
      intro i row hr
      have hi:=dS hr
      obtain ⟨cs,x,vs,g1,p,u,g4,g5⟩:=each i om
      have:=r3 i x.1 row (by simp [p]) hr
      rw [u] at this
      cases this
      exact ⟨cs,g1,g4,g5⟩
     refine ⟨[(V.imm (P.cellsOf e) rows).cz], ?_,by simp [p1],wa.one (a6h rfl) (Mp rfl) (@b7.cz mJ _ _ _ _ _ ?_)⟩
     ·simp only [kE,r,aw,r1]
      rw [aa om]
     ·by_cases h0:rows=[]
      ·subst h0
       have:len=0:=by rw [<-rl];rfl
       subst this
       exact @b7.imm0 mJ CQ AJ w (P.cellsOf e) (some a) cap om
      ·have hpos:0<rows.length:=by cases rows with
        |nil=>exact absurd rfl h0
        |cons x y=>simp
       obtain ⟨row0,hr0⟩:=fC hpos
       obtain ⟨cs0,c0,_,_⟩:=rowAt 0 row0 hr0
       rw [nW] at c0
       have hadd0:a.add 0=a:=by unfold Addr.add;rw [aa rfl]
       rw [hadd0] at c0
       obtain ⟨hs,hcell0⟩:=VP c0 p2
       have z: ∀k,a.add k=⟨a.block,a.off+k,none⟩:=by
        intro k
        obtain ⟨b,o,q⟩:=a
        simp only at hs
        subst hs
        unfold Addr.add
        split
        ·rename_i e0;subst e0;rfl
        ·rfl
       have ha:a=⟨a.block,a.off,none⟩:=by rw [<-hadd0,z 0]
       have hblk:a.block<w.heap.size:=World.cells?_block c0 p2
       have:= @b7.imm mJ CQ AJ w (P.cellsOf e) rows a.block a.off cap (fun i j=>(w.cell? ⟨a.block,a.off+(i*P.cellsOf e+j),none⟩).getD undef) p2 h0 om hblk
        ⟨fun b hb=>by simp [CQ] at hb,fun hf=>hf⟩
        (fun row hrow=>by
         obtain ⟨i,hi,rfl⟩:=bp hrow
         obtain ⟨cs,g1,p,u⟩:=rowAt i _ (aq hi)
         refine ⟨p,fun v hv=> ?_⟩
         obtain ⟨j,hj,rfl⟩:=bp hv
         have:=u.2 j _ (aq hj)
         exact ⟨this.1,this.2.1⟩)
        (fun i j hi hj=>by
         obtain ⟨row,hr⟩:=fC hi
         obtain ⟨cs,g1,p,u⟩:=rowAt i row hr
         obtain ⟨_,hc⟩:=VP g1 p2
         have:=hc j hj
         rw [z] at this
         simp only [gt] at this ⊢
         rw [this];rfl)
        (fun i row j v hi hj=>by
         obtain ⟨cs,g1,p,u⟩:=rowAt i row hi
         obtain ⟨_,hc⟩:=VP g1 p2
         have h1:=hc j (by rw [<-p];exact dS hj)
         rw [z] at h1
         simp only [gt] at h1 ⊢
         rw [h1]
         exact (u.2 j v hj).2.2)
       rw [rl, <-ha] at this
       exact this
   |struct fs=>
    simp only [aB,beq_iff_eq] at c
    obtain ⟨xs,m,rfl,rfl,hcl,hxl,hat⟩:=DataW.trod_struct r h
    obtain ⟨vs,g1,p,u,g4⟩:=Q4 (fun t cs x h1 h2=>LR h1 h2) fs.toList xs 0 _ c.1 c.2 (by simpa using hxl) om (fun i f hf=>hat i f (by simpa using hf))
    refine ⟨vs,by simp only [kE,r];exact g1,by omega, ?_⟩
    rw [hK,nv, <-hcl,bw] at g4
    exact g4
   |array k e=>
    simp only [aB,beq_iff_eq] at c
    obtain ⟨xs,m,rfl,rfl,hcl,hxl,hat⟩:=DataW.trod_array r h
    have each: ∀i,i<k-> ∃x vs,xs[i]? =some x/\kE P n e x.1=some vs/\vs.length=P.cellsOf e/\wa w vs ((cs.drop (i*P.cellsOf e)).take (P.cellsOf e)):=by
     intro i hi
     obtain ⟨x,hx⟩:=fC (l:=xs) (i:=i) om
     obtain ⟨vs,g1,p,u⟩:=LR c.2 ((hat i hi).trans hx)
     exact ⟨x,vs,hx,g1,p,u⟩
    have key: ∀(ys:List (DataW H×List MemPlace)) (i:Nat),(∀j,j<ys.length->ys[j]? =xs[i+j]?)->i+ys.length=k->
     ∃rows,IY (kE P n e) (ys.map (·.1))=some rows/\rows.flatten.length=ys.length*P.cellsOf e/\wa w rows.flatten ((cs.drop (i*P.cellsOf e)).take (ys.length*P.cellsOf e)):=by
     intro ys
     induction ys with
     |nil=>intro i _ _;exact ⟨[],rfl,by simp,by simp,fun i v hi=>by simp at hi⟩
     |cons y ys ih=>
      intro i hys hik
      simp only [ab] at hik
      obtain ⟨rows,q1,q2,q3⟩:=ih (i+1) (fun j hj=>by
       have:=hys (j+1) (by simpa using hj)
       rw [show i+1+j=i+(j+1) by omega, <-this];simp) om
      obtain ⟨x,vs,g1,p,u,g4⟩:=each i om
      have hy:y=x:=by
       have:=hys 0 sm
       rw [cH,g1] at this
       simpa using this
      subst hy
      refine ⟨vs::rows,by simp [IY,p,q1],by simp [q2,u,Nat.add_mul];omega, ?_⟩
      rw [pH,ab,Nat.add_mul,cK,jd (ys.length*P.cellsOf e),List.take_add,lh]
      rw [Nat.add_mul,cK] at q3
      exact g4.append q3
    obtain ⟨rows,q1,q2,q3⟩:=key xs 0 (fun j _=>by rw [ce]) om
    refine ⟨rows.flatten, ?_,by rw [q2,hxl,c.1], ?_⟩
    ·simp only [kE,r,aw,q1]
     rw [aa hxl]
    ·rw [nW,hK,hxl,c.1, <-hcl,bw] at q3
     exact q3
   |_=>cases c
def a8f (P:Program) (n:Nat) (t:TypeId) (d:DataW H):Option V:=match kE P n t d with
 |some vs=>(match P.underlying t with
  |some (.struct _)|some (.array _ _)=>some (.agg vs)
  |_=>vs.head?)
 |none=>none
def F4 (P:Program) (n:Nat):List TypeId->List (DataW H)->Option (List V)
 |[],[]=>some []
 |t::ts,d::ds=>match a8f P n t d,F4 P n ts ds with
  |some v,some vs=>some (v::vs)
  |_,_=>none
 |_,_=>none
theorem Z6 {x:Value} (h:cD x=true):x.cells.toList=[x]:=by rw [mK h]
theorem b9I {n:Nat} {t:TypeId} {v:Value} {d:DataW H} {ps:List MemPlace} {r:Go.Reach} {b:Nat} (c:wu P n t=true) (f:Value.okWide P w r b t v) (h:DataW.Trod enc P w 0 sp held t v d ps):
 ∃a,a8f P n t d=some a/\ @b7 mJ CQ AJ w a v:=by
 obtain ⟨fuel,o⟩:=h
 obtain ⟨vs,p,q,m⟩:=LR c o
 have aggs: ∀cs,v= .agg cs-> @b7 mJ CQ AJ w (.agg vs) v:=by
  intro cs e
  subst e
  refine @b7.agg mJ CQ AJ w vs cs (by have:=m.1;simp [Value.cells] at this;exact this.symm) (fun u l=> ?_) (fun i u hi=> ?_)
  ·obtain ⟨i,hi,rfl⟩:=bp l
   exact (m.2 i _ (aq hi)).2.1
  ·have:=(m.2 i u hi).2.2
   simpa [Value.cells,List.getD_eq_getElem?_getD,Array.getD_eq_getD_getElem?] using this
 have ones:P.cellsOf t=1->cD v=true->vs.head?=some (vs.headD .undef)/\ @b7 mJ CQ AJ w (vs.headD .undef) v:=by
  intro e j
  match vs,q with
  |[u],_=>
   refine ⟨rfl, ?_⟩
   have:=(m.2 0 u rfl).2.2
   rw [Z6 j] at this
   exact this
  |[],h=>rw [e] at h;cases h
  |_::_::_,h=>rw [e] at h;simp at h
 cases n with
 |zero=>simp [wu] at c
 |succ n=>
  simp only [wu] at c
  unfold a8f
  rw [p]
  unfold Value.okWide at f
  cases l:P.underlying t with
  |none=>rw [l] at c;cases c
  |some td=>
   rw [l] at c f
   cases td with
   |struct fs=>obtain ⟨cs,e,_⟩:=f;exact ⟨_,rfl,aggs cs e⟩
   |array k e=>obtain ⟨cs,e,_⟩:=f;exact ⟨_,rfl,aggs cs e⟩
   |bool=>
    simp only [beq_iff_eq] at c
    have j:cD v=true:=by
     simp only [Cell.okWide,Cell.ok,l] at f
     cases v<;>simp_all [cD]
    exact ⟨_,(ones c j).1,(ones c j).2⟩
   |int k=>
    simp only [beq_iff_eq] at c
    have j:cD v=true:=by
     simp only [Cell.okWide,Cell.ok,l] at f
     cases v<;>simp_all [cD]
    exact ⟨_,(ones c j).1,(ones c j).2⟩
   |string=>
    simp only [beq_iff_eq] at c
    have j:cD v=true:=by
     simp only [Cell.okWide,Cell.ok,l] at f
     cases v<;>simp_all [cD]
    exact ⟨_,(ones c j).1,(ones c j).2⟩
   |slice e=>
    simp only [aB,beq_iff_eq] at c
    have j:cD v=true:=by
     simp only [Cell.okWide,Cell.ok,l] at f
     cases v<;>simp_all [cD]
    exact ⟨_,(ones c.1.1 j).1,(ones c.1.1 j).2⟩
   |_=>cases c
theorem YM {n:Nat} {r:Go.Reach} {b:Nat}: ∀{ts:List TypeId} {vs:List Value} {ds:List (DataW H)} {ps:List MemPlace},ts.all (wu P n)=true->(∀(j:Nat) t v,ts[j]? =some t->vs[j]? =some v->Value.okWide P w r b t v)->
 DataW.TrodAll enc P w 0 sp held ts vs ds ps-> ∃as,F4 P n ts ds=some as/\as.length=vs.length/\ds.length=ts.length/\ ∀(i:Nat) (a:V),as[i]? =some a-> @b7 mJ CQ AJ w a (vs.getD i undef)
 |[],[],[],ps,_,_,_=>⟨[],rfl,rfl,rfl,fun i a h=>by simp at h⟩
 |t::ts,v::vs,d::ds,ps,hp,hok,h=>by
  obtain ⟨p,q,h1,h2,_⟩:=h
  simp only [cC,aB] at hp
  obtain ⟨a,a1,a2⟩:=b9I hp.1 (hok 0 t v rfl rfl) h1
  obtain ⟨as,b1,b2,b3,b4⟩:=YM hp.2 (fun j t v h3 h4=>hok (j+1) t v (by simpa using h3) (by simpa using h4)) h2
  refine ⟨a::as,by simp [F4,a1,b1],by simp [b2],by simp [b3],fun i u hu=> ?_⟩
  cases i with
  |zero=>simp at hu;subst hu;exact a2
  |succ i=>exact b4 i u (by simpa using hu)
 |[],[],_::_,_,_,_,h=>by simp [DataW.TrodAll] at h
 |[],_::_,_,_,_,_,h=>by simp [DataW.TrodAll] at h
 |_::_,[],_,_,_,_,h=>by simp [DataW.TrodAll] at h
 |_::_,_::_,[],_,_,_,h=>by simp [DataW.TrodAll] at h
theorem Iv (e:laidOutB P=true) {W W':World} (f:Below W.heap.size W W'): ∀{ts:List TypeId} {vs:List Value} {ds:List (DataW H)} {ps:List MemPlace},ts.all (fun t=>P.readableRec t&&decide (t<P.types.size))=true->
 DataW.TrodAll enc P W 0 (fun _=>true) true ts vs ds ps->DataW.TrodAll enc P W' 0 (fun b=>decide (b<W.heap.size)) true ts vs ds ps
 |[],[],[],ps,_,h=>h
 |t::ts,v::vs,d::ds,ps,a,h=>by
  have c:=DataW.TrodAll.lt h
  obtain ⟨p,q,i,j,rfl⟩:=h
  simp only [cC,aB,aA] at a
  exact ⟨p,q,Below.trod e a.1.1 a.1.2 i f (fun x k=>c x (List.mem_append_left _ k)),Iv e f a.2 j,rfl⟩
 |[],[],_::_,_,_,h=>by simp [DataW.TrodAll] at h
 |[],_::_,_,_,_,h=>by simp [DataW.TrodAll] at h
 |_::_,[],_,_,_,h=>by simp [DataW.TrodAll] at h
 |_::_,_::_,[],_,_,h=>by simp [DataW.TrodAll] at h
theorem a2p (w:World): @bG mJ CQ (bT []) w:=
 @bG.mk mJ CQ (bT []) w (fun _ _ _ h=>by simp [CQ] at h) (fun _ _ h=>by simp [CQ] at h) (fun _ _ h=>by simp [bT] at h) (fun _ _ h=>by simp [bT] at h) (fun _ _ h=>by simp [CQ] at h) (fun _ h=>h.elim)
theorem a96 {T:Tab} {ow:ff} (hT:Bn P T) {f:FuncId} {fn:Func} {n:Nat} {s:ChangeSpec} {tb:TypeId} {af:j4} (haf:T f=some (.code af)) (hfn:P.funcs[f]? =some fn) (o:fn.params.toList.all (wu P n)=true)
 (y:laidOutB P=true) (z:fn.params.toList.all (fun t=>P.readableRec t&&decide (t<P.types.size))=true) (hres:fn.resultTypes= #[tb]) (hbool:P.underlying tb=some .bool) (m:s.vars=[])
 (d: ∀ds:List (DataW H),ds.length=fn.params.size->s.fn H ds={ results:=[.lit (.bool true)],args:=ds })
 {W:World} {b:Nat} {args:Array Value} {ds gs:List (DataW H)} {before:List MemPlace} (hval: ∀(j:Nat) t v,fn.params[j]? =some t->args[j]? =some v->Value.okWide P W .any b t v)
 (hW:DataW.Whole enc P fn.params.toList s.vars false W args.toList ds gs before)
 (hlaw: ∀as,F4 P n fn.params.toList ds=some as->Call T ow f as []=some (.lit (.bool true),[])):
 Calls P f args W fun e W'=> ∃v,e= .returned v/\s.post enc P fn false true false false W args v W':=by
 have hW':=hW
 obtain ⟨p,q,hA,hV,rfl,hfz,hnd⟩:=hW
 obtain ⟨as,h1,h2,h3,h4⟩:=YM (r:= .any) (b:=b) o (fun j t v g1 g2=>hval j t v (by simpa using g1) (by simpa using g2)) hA
 have hgs:gs=[]:=by
  rw [m] at hV
  cases gs with
  |nil=>rfl
  |cons a b=>simp [DataW.TrodVars] at hV
 subst hgs
 have hcall:=DQ hT f as [] _ _ (hlaw as h1) mJ CQ W args (a2p W) (by rw [h2,Array.length_toList]) (fun i a hi=>by
  have:=h4 i a hi
  have e:bT []=AJ:=by funext i;simp [bT,AJ]
  rw [e]
  rw [List.getD_eq_getElem?_getD] at this
  rw [Array.getD_eq_getD_getElem?, <-Array.getElem?_toList]
  exact this)
 rcases hcall with ⟨x,w',hrun,_⟩|⟨_,hc⟩
 ·exfalso
  obtain ⟨fn',hn,hfn',hname,l⟩:=hT.code f af haf
  have hb:fn'.body≠none:=by
   intro hb
   unfold uV at l
   rw [hb] at l
   cases l
  have u: ¬fn'.name= "runtime.NumGoroutine" :=by simpa using hname
  have hp:(program).run P W= .ok P W:=rfl
  simp [callFunc,Sem.run_bind,hp,hfn',u,hb] at hrun
 ·refine hc.mono (fun e W' he=> ?_)
  cases e with
  |returned v=>
   obtain ⟨μ',H',C',V',_,_⟩:=he
   have hv:v= .bool true:=by
    cases V'
    rfl
   subst hv
   have ev:=NS C'
   have w:Below W.heap.size W W':=⟨c1K ev,a1T ev,b1q ev,VT ev,fun k hk=>(a3V ev k hk ⟨fun b hb=>by simp [CQ] at hb,fun h=>h⟩).1⟩
   refine ⟨_,rfl,ds,[],p++q,[],p,[],hW', ?_, ?_, ?_,w.frame _,fun h=>by cases h⟩
   ·rw [bM,d ds (by simpa using h3),hres]
    exact trodAll_mk1 (shut_bool hbool true)
   ·rw [bM,d ds (by simpa using h3)]
    exact Iv y w z hA
   ·rw [bM,d ds (by simpa using h3),m]
    rfl
  |panicked c=>exact he.elim
  |outgrown=>exact he.elim
end
end
section
def P5 (k:FuncId) (a:j4):Tab:=fun f=>if f=k then some (.code a) else none
def QU:ff:=fun _=>[]
theorem MF (k:FuncId) (a:j4):P5 k a k=some (.code a):=by simp [P5]
theorem Yr {P:Program} {k:FuncId} {a:j4} (h: ∃fn hn,P.funcs[k]? =some fn/\(fn.name== "runtime.NumGoroutine")=false/\uV P fn hn=some a):Bn P (P5 k a):=by
 refine ⟨fun f af b=> ?_,fun f g b=> ?_⟩
 ·unfold P5 at b
  split at b
  ·rename_i e;cases b;subst e;exact h
  ·cases b
 ·unfold P5 at b
  split at b
  ·cases b
  ·cases b
theorem Tb {T:Tab} {ow:ff} {f:FuncId} {g:List V->List Blk->Option (V×List Blk)} (c:T f=some (.ext g)) (a:List V) (b:List Blk):Call T ow f a b=g a b:=by
 rw [a4R,c]
def Iy (P:Program) (f:FuncId) (g:List V->List Blk->Option (V×List Blk)):Prop:=
 ∀args blks r blks',g args blks=some (r,blks')-> ∀(F:Frame) (μ:Mu) (w:World) (xs:Array Value), @bG F μ (bT blks) w->xs.size=args.length->
  (∀(i:Nat) (v:V),args[i]? =some v-> @b7 F μ (bT blks) w v (xs.getD i undef))->Reach P f xs w (pJ F μ (bT blks) w r blks')
noncomputable def c78 (k:FuncId) (a:j4):List V->List Blk->Option (V×List Blk)
 |[.imm _ []],[]=>some (.imm 1 [],[])
 |[.imm e (r::rs)],[]=>Call (P5 k a) QU k [.imm e (r::rs)] []
 |_,_=>none
end
section
noncomputable def Ym (k:FuncId) (a:j4) (m:Nat):List V->List Blk->Option (V×List Blk)
 |[.imm _ []],[]=>some (.sl 0 0 0,[⟨m,false,[]⟩])
 |[.imm e (r::rs)],[]=>Call (P5 k a) QU k [.imm e (r::rs)] []
 |_,_=>none
theorem a8S {P:Program} {k:FuncId} {a:j4} {m:Nat} (h: ∃fn hn,P.funcs[k]? =some fn/\(fn.name== "runtime.NumGoroutine")=false/\uV P fn hn=some a)
 (hn: ∀cap, ∃n,mP a 0 (dE (gj (P5 k a) QU n) QU n a.body (start [.lit (.slice none 0 cap)] []))=some (.lit (.slice none 0 0),[]))
 (q: ∀ad cap,Call (P5 k a) QU k [.lit (.slice (some ad) 0 cap)] []=some (.sl 0 0 0,[⟨m,false,[]⟩])):
 ∀args blks r blks',Ym k a m args blks=some (r,blks')-> ∀(F:Frame) (μ:Mu) (w:World) (xs:Array Value), @bG F μ (bT blks) w->xs.size=args.length->
 (∀(i:Nat) (v:V),args[i]? =some v-> @b7 F μ (bT blks) w v (xs.getD i undef))->Reach P k xs w (pJ F μ (bT blks) w r blks'):=by
 intro args blks r blks' b F μ w xs H e j
 have l:=DQ (ow:=QU) (Yr h)
 unfold Ym at b
 split at b
 ·cases b
  have h0:=j 0 _ rfl
  generalize s:xs.getD 0 undef=X at h0
  have c: ∃ad cap,X= .slice ad 0 cap:=by
   cases h0 with
   |emp ad=>exact ⟨ad,0,rfl⟩
   |imm0 _ ad cap=>exact ⟨ad,cap,rfl⟩
   |imm _ _ _ _ _ _ _ t=>exact absurd rfl t
  obtain ⟨ad,cap,rfl⟩:=c
  have d: ∀(i:Nat) (v:V),([.lit (.slice ad 0 cap)]:List V)[i]? =some v-> @b7 F μ (bT []) w v (xs.getD i undef):=by
   intro i v hi
   cases i with
   |zero=>simp at hi;subst hi;rw [s];exact @b7.lit F _ _ _ _
   |succ i=>simp at hi
  cases ad with
  |some ad=>exact l k [.lit (.slice (some ad) 0 cap)] [] _ _ (q ad cap) F μ w xs H e d
  |none=>
   obtain ⟨n,hn⟩:=hn cap
   have f:=Sd (ow:=QU) (Yr h) (C0 (Yr h) n) (MF k a) hn H e d
   refine f.mono (fun x w' f=> ?_)
   obtain ⟨μ',H1,C1,V1,_,_⟩:=f
   have u:=dw V1
   subst u
   have o:bT [(⟨m,false,[]⟩:Blk)]=ci (bT []) 0 ⟨m,false,[]⟩:=by
    funext i
    unfold ci
    cases i<;>rfl
   obtain ⟨q1,q2⟩:= @bG.newNil F _ _ _ H1 0 m rfl
   refine ⟨μ',by rw [o];exact q1,by rw [o];exact @Chg.trans _ _ _ F _ _ _ _ _ _ C1 q2, ?_,rfl,fun k p=>by simp at p;subst p;exact fun h=>by cases h⟩
   exact @b7.sl F _ _ _ 0 0 0 _ ⟨m,false,[]⟩ rfl (.inr (am _)) ⟨_,_,rfl⟩ (fun _ _=>⟨_,_,rfl,.inl ⟨rfl,rfl⟩⟩)
 ·exact l k _ _ _ _ b F μ w xs H e j
 ·cases b
end
end Go.AI
