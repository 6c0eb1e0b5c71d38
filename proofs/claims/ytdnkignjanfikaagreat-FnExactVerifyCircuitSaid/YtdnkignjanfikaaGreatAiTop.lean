/- Part. -/
import Derived.Test.YtdnkignjanfikaaGreatAiCtl
import Derived.Carry
import Derived.ChangeOld
import Derived.SizedLaws
import Derived.RowKit
import Derived.OpenShut
set_option linter.unusedVariables false
set_option linter.unusedSimpArgs false
namespace Go.AI
section
open Go.RowKit Go.ChangeShapes
section
variable {H:Type}
def IF (g:DataW H->Option (List V)):List (DataW H)->Option (List (List V))
 |[]=>some []
 |d::r=>match g d,IF g r with
  |some a,some b=>some (a::b)
  |_,_=>none
def qv (g:TypeId->DataW H->Option (List V)):List Field->List (DataW H)->Option (List V)
 |[],[]=>some []
 |f::fs,d::ds=>match g f.type d,qv g fs ds with
  |some a,some b=>some (a++b)
  |_,_=>none
 |_,_=>none
def dE (P:Program):Nat->TypeId->DataW H->Option (List V)
 |0,_,_=>none
 |n+1,t,d=>match P.underlying t,d with
  |some .bool,.lit (.bool b)=>some [.lit (.bool b)]
  |some (.int k),.lit (.int k' m)=>if k'=k/\(Lit.int k m).wf=true then some [.lit (.int k m)] else none
  |some .string,.lit (.string bs)=>if bs.length<=maxLen then some [.lit (.string ⟨bs.toArray⟩)] else none
  |some (.slice e),.nil=>some [.imm 1 []]
  |some (.slice e),.slice es _=>if es.length<=maxLen then (match IF (dE P n e) es with
   |some rows=>some [(V.imm (P.cellsOf e) rows).cz]
   |none=>none) else none
  |some (.struct fs),.agg ps=>qv (dE P n) fs.toList ps
  |some (.array k e),.agg ps=>if ps.length=k then (match IF (dE P n e) ps with
   |some rows=>some rows.flatten
   |none=>none) else none
  |_,_=>none
def PF (P:Program):Nat->List Field->Option Nat
 |o,[]=>some o
 |o,f::fs=>if f.offset=o then PF P (o+P.cellsOf f.type) fs else none
def tc (P:Program):Nat->TypeId->Bool
 |0,_=>false
 |n+1,t=>match P.underlying t with
  |some .bool|some (.int _)|some .string=>P.cellsOf t==1
  |some (.slice e)=>P.cellsOf t==1&&decide (0<P.cellsOf e)&&tc P n e
  |some (.struct fs)=>PF P 0 fs.toList==some (P.cellsOf t)&&fs.toList.all (fun f=>tc P n f.type)
  |some (.array k e)=>k*P.cellsOf e==P.cellsOf t&&tc P n e
  |_=>false
@[reducible] def ko:Frame:=⟨fun _=>False⟩
def Cg:Mu:=fun _=>none
def yv:b8:=fun _=>none
variable {enc:TypeId×Value->H} {P:Program} {w:World} {sp:Nat->Bool} {held:Bool}
def sM (w:World) (vs:List V) (cs:List Value):Prop:=
 vs.length=cs.length/\ ∀(i:Nat) (v:V),vs[i]? =some v->v.cl=true/\v.cell=true/\ @aY ko Cg yv w v (cs.getD i undef)
theorem sM.one {v:V} {x:Value} (b:v.cl=true) (c:v.cell=true) (d: @aY ko Cg yv w v x):sM w [v] [x]:=
 ⟨rfl,fun i u a=>by
  cases i with
  |zero=>simp at a;subst a;exact ⟨b,c,d⟩
  |succ i=>simp at a⟩
theorem sM.append {vs us:List V} {cs ds:List Value} (a:sM w vs cs) (b:sM w us ds):sM w (vs++us) (cs++ds):=by
 refine ⟨by simp [a.1,b.1],fun i v hi=> ?_⟩
 rcases cA i vs.length with c|d
 ·rw [bG c] at hi
  e:=a.2 i v hi
  rw [bo,bG (by rw [<-a.1];exact c), <-bo]
  exact this
 ·rw [bQ d] at hi
  e:=b.2 _ v hi
  rw [bo,bQ (by rw [<-a.1];exact d), <-bo, <-a.1]
  exact this
theorem a0k {g:DataW H->Option (List V)}: ∀{es:List (DataW H)},(∀d∈es, ∃a,g d=some a)-> ∃rows,IF g es=some rows/\rows.length=es.length/\ ∀(i:Nat) (d:DataW H) (row:List V),es[i]? =some d->rows[i]? =some row->g d=some row
 |[],_=>⟨[],rfl,rfl,fun i d row h=>by simp at h⟩
 |d::r,h=>by
  obtain ⟨a,e⟩:=h d (by simp)
  obtain ⟨rows,f,j,k⟩:=a0k (es:=r) (fun d b=>h d (by simp [b]))
  refine ⟨a::rows,by simp [IF,e,f],by simp [j],fun i d' row b c=> ?_⟩
  cases i with
  |zero=>simp at b c;subst b;subst c;exact e
  |succ i=>exact k i d' row (by simpa using b) (by simpa using c)
theorem a92 {base:Nat} {a:Addr} {n:Nat} {cs:List Value} (h:w.cells? base a n=some cs):cs.length=n/\ ∀j,j<n->w.cell? (a.add j)=some (cs.getD j undef):=by
 unfold World.cells? at h
 split at h
 ·b c:=mapM_some_length h
  rw [List.length_range] at c
  refine ⟨c,fun j d=> ?_⟩
  b:=mapM_some_get h j j (by simp [d])
  rw [this,bo]
  obtain ⟨x,e⟩:=ep (l:=cs) (i:=j) (by omega)
  rw [e];rfl
 ·cases h
theorem Z5 {a:Addr} {cs:List Value} {n base:Nat} (h:w.cells? base a n=some cs) (h0:0<n):a.spot=none/\ ∀j,j<n->w.cell? ⟨a.block,a.off+j,none⟩=some (cs.getD j undef):=by
 obtain ⟨m,i⟩:=a92 h
 c d:=i 0 h0
 c f:a.spot=none:=by
   unfold Addr.add at d
   rw [ae rfl] at d
   unfold World.cell? at d
   split at d
   ·split at d
    ·cases d
    ·rename_i k;simpa using k
   ·cases d
 refine ⟨f,fun j l=> ?_⟩
 c:=i j l
 unfold Addr.add at this
 obtain ⟨b,o,p⟩:=a
 simp only at f
 subst f
 split at this
 ·rename_i e;subst e;simpa using this
 ·exact this
theorem RM {n m:Nat} {cs:List Value} (ih: ∀(t:TypeId) (cs:List Value) (x:DataW H×List MemPlace),tc P n t=true->DataW.trod enc P w 0 sp c m t cs=some x-> ∃vs,dE P n t x.1=some vs/\vs.length=P.cellsOf t/\sM w vs cs):
 ∀(fs:List Field) (xs:List (DataW H×List MemPlace)) (o e:Nat),PF P o fs=some e->fs.all (fun f=>tc P n f.type)=true->xs.length=fs.length->e<=cs.length->
 (∀(i:Nat) (f:Field),fs[i]? =some f->DataW.trod enc P w 0 sp c m f.type ((cs.drop f.offset).take (P.cellsOf f.type))=xs[i]?)->
 ∃vs,qv (dE P n) fs (xs.map (·.1))=some vs/\o<=e/\vs.length=e-o/\sM w vs ((cs.drop o).take (e-o))
 |[],xs,o,e,a,d,j,k,h=>by
  simp [PF] at a
  subst a
  b:xs=[]:=bS (by simpa using j)
  subst this
  exact ⟨[],rfl,aw _,by simp,by simp,fun i v hi=>by simp at hi⟩
 |f::fs,[],o,e,a,d,j,k,h=>by simp at j
 |f::fs,x::xs,o,e,a,d,j,k,h=>by
  simp only [PF] at a
  split at a
  ·rename_i l
   simp only [cj,aD] at d
   obtain ⟨vs2,p,g2,q,r⟩:=RM ih fs xs _ e a d.2 (by simpa using j) k (fun i f' s=>h (i+1) f' (by simpa using s))
   b h0:=h 0 f rfl
   simp only [ja] at h0
   obtain ⟨vs1,u,y,z⟩:=ih f.type _ x d.1 h0
   refine ⟨vs1++vs2,by simp [qv,u,p],by omega,by simp [y,q];omega, ?_⟩
   b:(cs.drop o).take (e-o)=(cs.drop f.offset).take (P.cellsOf f.type)++(cs.drop (o+P.cellsOf f.type)).take (e-(o+P.cellsOf f.type)):=by
    rw [l,show e-o=P.cellsOf f.type+(e-(o+P.cellsOf f.type)) by omega,List.take_add,List.drop_drop]
   rw [this]
   exact z.append r
  ·cases a
theorem L2: ∀{n fuel:Nat} {t:TypeId} {cs:List Value} {x:DataW H×List MemPlace},tc P n t=true->DataW.trod enc P w 0 sp held fuel t cs=some x->
 ∃vs,dE P n t x.1=some vs/\vs.length=P.cellsOf t/\sM w vs cs
 |0,fuel,t,cs,x,p,h=>by simp [tc] at p
 |n+1,fuel,t,cs,x,p,h=>by
  simp only [tc] at p
  cases u:P.underlying t with
  |none=>rw [u] at p;cases p
  |some d=>
   rw [u] at p
   cases d with
   |bool=>
    simp only [beq_iff_eq] at p
    obtain ⟨b,rfl,rfl⟩:=DataW.trod_bool u h
    exact ⟨[.lit (.bool b)],by simp [dE,u],by simp [p],sM.one rfl rfl (@aY.lit ko _ _ _ _)⟩
   |int k=>
    simp only [beq_iff_eq] at p
    obtain ⟨m,rfl,rfl,hw⟩:=DataW.trod_int u h
    exact ⟨[.lit (.int k m)],by simp [dE,u,hw],by simp [p],sM.one rfl rfl (@aY.lit ko _ _ _ _)⟩
   |string=>
    simp only [beq_iff_eq] at p
    obtain ⟨s,rfl,rfl,hl⟩:=DataW.trod_string u h
    exact ⟨[.lit (.string s)],by simp [dE,u];exact hl,by simp [p],sM.one rfl rfl (@aY.lit ko _ _ _ _)⟩
   |slice e=>
    simp only [aD,beq_iff_eq,aC] at p
    obtain ⟨⟨p1,p2⟩,p3⟩:=p
    rcases DataW.trod_slice u h with ⟨rfl,rfl⟩|⟨a,len,cap,elems,rest,m,rfl,rfl,rfl,hb,hlc,hcm,hel,hat,_⟩
    ·exact ⟨[.imm 1 []],by simp [dE,u],by simp [p1],sM.one rfl rfl (@aY.imm0 ko _ _ _ 1 none 0 (by decide))⟩
    ·c each: ∀i,i<len-> ∃cs x vs,w.cells? 0 (a.add (i*P.cellsOf e)) (P.cellsOf e)=some cs/\elems[i]? =some x/\dE P n e x.1=some vs/\vs.length=P.cellsOf e/\sM w vs cs:=by
       intro i hi
       c h1:=hat i hi
       obtain ⟨x,hx⟩:=ep (l:=elems) (i:=i) (by omega)
       rw [hx] at h1
       cases hcs:w.cells? 0 (a.add (i*P.cellsOf e)) (P.cellsOf e) with
       |none=>rw [hcs] at h1;cases h1
       |some cs=>
        rw [hcs] at h1
        obtain ⟨vs,g1,r,z⟩:=L2 p3 h1
        exact ⟨cs,x,vs,rfl,hx,g1,r,z⟩
     obtain ⟨rows,r1,r2,r3⟩:=a0k (g:=dE P n e) (es:=elems.map (·.1)) (fun d hd=>by
      obtain ⟨x,hx,rfl⟩:=bq.1 hd
      obtain ⟨i,hi,rfl⟩:=bp hx
      obtain ⟨cs,x,vs,_,r,z,_⟩:=each i (by omega)
      rw [aq hi] at r
      cases r
      exact ⟨vs,z⟩)
     c rl:rows.length=len:=by rw [r2];simpa using hel
     c rowAt: ∀i row,rows[i]? =some row-> ∃cs,w.cells? 0 (a.add (i*P.cellsOf e)) (P.cellsOf e)=some cs/\row.length=P.cellsOf e/\sM w row cs:=by
       intro i row hr
       c hi:=dv hr
       obtain ⟨cs,x,vs,g1,r,z,g4,g5⟩:=each i (by omega)
       c:=r3 i x.1 row (by simp [r]) hr
       rw [z] at this
       cases this
       exact ⟨cs,g1,g4,g5⟩
     refine ⟨[(V.imm (P.cellsOf e) rows).cz], ?_,by simp [p1],sM.one (a7O rfl) (LG rfl) (@aY.cz ko _ _ _ _ _ ?_)⟩
     ·simp only [dE,u,aO,r1]
      rw [ae (by omega)]
     ·by_cases h0:rows=[]
      ·subst h0
       c:len=0:=by rw [<-rl];rfl
       subst this
       exact @aY.imm0 ko Cg yv w (P.cellsOf e) (some a) cap (by omega)
      ·c hpos:0<rows.length:=by cases rows with
         |nil=>exact absurd rfl h0
         |cons x y=>simp
       obtain ⟨row0,hr0⟩:=ep hpos
       obtain ⟨cs0,c0,_,_⟩:=rowAt 0 row0 hr0
       rw [lF] at c0
       c hadd0:a.add 0=a:=by unfold Addr.add;rw [ae rfl]
       rw [hadd0] at c0
       obtain ⟨hs,hcell0⟩:=Z5 c0 p2
       c haddr: ∀k,a.add k=⟨a.block,a.off+k,none⟩:=by
         intro k
         obtain ⟨b,o,q⟩:=a
         simp only at hs
         subst hs
         unfold Addr.add
         split
         ·rename_i e0;subst e0;rfl
         ·rfl
       c ha:a=⟨a.block,a.off,none⟩:=by rw [<-hadd0,haddr 0]
       c hblk:a.block<w.heap.size:=World.cells?_block c0 p2
       c:= @aY.imm ko Cg yv w (P.cellsOf e) rows a.block a.off cap (fun i j=>(w.cell? ⟨a.block,a.off+(i*P.cellsOf e+j),none⟩).getD undef) p2 h0 (by omega) hblk
        ⟨fun b hb=>by simp [Cg] at hb,fun hf=>hf⟩
        (fun row hrow=>by
         obtain ⟨i,hi,rfl⟩:=bp hrow
         obtain ⟨cs,g1,r,z⟩:=rowAt i _ (aq hi)
         refine ⟨r,fun v hv=> ?_⟩
         obtain ⟨j,hj,rfl⟩:=bp hv
         c:=z.2 j _ (aq hj)
         exact ⟨this.1,this.2.1⟩)
        (fun i j hi hj=>by
         obtain ⟨row,hr⟩:=ep hi
         obtain ⟨cs,g1,r,z⟩:=rowAt i row hr
         obtain ⟨_,hc⟩:=Z5 g1 p2
         c:=hc j hj
         rw [haddr] at this
         simp only [fx] at this ⊢
         rw [this];rfl)
        (fun i row j v hi hj=>by
         obtain ⟨cs,g1,r,z⟩:=rowAt i row hi
         obtain ⟨_,hc⟩:=Z5 g1 p2
         c h1:=hc j (by rw [<-r];exact dv hj)
         rw [haddr] at h1
         simp only [fx] at h1 ⊢
         rw [h1]
         exact (z.2 j v hj).2.2)
       rw [rl, <-ha] at this
       exact this
   |struct fs=>
    simp only [aD,beq_iff_eq] at p
    obtain ⟨xs,m,rfl,rfl,hcl,hxl,hat⟩:=DataW.trod_struct u h
    obtain ⟨vs,g1,r,z,g4⟩:=RM (fun t cs x h1 h2=>L2 h1 h2) fs.toList xs 0 _ p.1 p.2 (by simpa using hxl) (by omega) (fun i f hf=>hat i f (by simpa using hf))
    refine ⟨vs,by simp only [dE,u];exact g1,by omega, ?_⟩
    rw [fR,oF, <-hcl,bk] at g4
    exact g4
   |array k e=>
    simp only [aD,beq_iff_eq] at p
    obtain ⟨xs,m,rfl,rfl,hcl,hxl,hat⟩:=DataW.trod_array u h
    c each: ∀i,i<k-> ∃x vs,xs[i]? =some x/\dE P n e x.1=some vs/\vs.length=P.cellsOf e/\sM w vs ((cs.drop (i*P.cellsOf e)).take (P.cellsOf e)):=by
      intro i hi
      obtain ⟨x,hx⟩:=ep (l:=xs) (i:=i) (by omega)
      obtain ⟨vs,g1,r,z⟩:=L2 p.2 ((hat i hi).trans hx)
      exact ⟨x,vs,hx,g1,r,z⟩
    c key: ∀(ys:List (DataW H×List MemPlace)) (i:Nat),(∀j,j<ys.length->ys[j]? =xs[i+j]?)->i+ys.length=k->
     ∃rows,IF (dE P n e) (ys.map (·.1))=some rows/\rows.flatten.length=ys.length*P.cellsOf e/\sM w rows.flatten ((cs.drop (i*P.cellsOf e)).take (ys.length*P.cellsOf e)):=by
      intro ys
      induction ys with
      |nil=>intro i _ _;exact ⟨[],rfl,by simp,by simp,fun i v hi=>by simp at hi⟩
      |cons y ys ih=>
       intro i hys hik
       simp only [ah] at hik
       obtain ⟨rows,q1,q2,q3⟩:=ih (i+1) (fun j hj=>by
        c:=hys (j+1) (by simpa using hj)
        rw [show i+1+j=i+(j+1) by omega, <-this];simp) (by omega)
       obtain ⟨x,vs,g1,r,z,g4⟩:=each i (by omega)
       c hy:y=x:=by
         c:=hys 0 (by simp)
         rw [cQ,g1] at this
         simpa using this
       subst hy
       refine ⟨vs::rows,by simp [IF,r,q1],by simp [q2,z,Nat.add_mul];omega, ?_⟩
       rw [n5,ah,Nat.add_mul,cB,jh (ys.length*P.cellsOf e),List.take_add,List.drop_drop]
       rw [Nat.add_mul,cB] at q3
       exact g4.append q3
    obtain ⟨rows,q1,q2,q3⟩:=key xs 0 (fun j _=>by rw [cy]) (by omega)
    refine ⟨rows.flatten, ?_,by rw [q2,hxl,p.1], ?_⟩
    ·simp only [dE,u,aO,q1]
     rw [ae hxl]
    ·rw [lF,fR,hxl,p.1, <-hcl,bk] at q3
     exact q3
   |_=>cases p
def XD (P:Program) (n:Nat) (t:TypeId) (d:DataW H):Option V:=match dE P n t d with
 |some vs=>(match P.underlying t with
  |some (.struct _)|some (.array _ _)=>some (.agg vs)
  |_=>vs.head?)
 |none=>none
def Ec (P:Program) (n:Nat):List TypeId->List (DataW H)->Option (List V)
 |[],[]=>some []
 |t::ts,d::ds=>match XD P n t d,Ec P n ts ds with
  |some v,some vs=>some (v::vs)
  |_,_=>none
 |_,_=>none
theorem a2O {x:Value} (h:ci x=true):x.cells.toList=[x]:=by rw [kq h]
theorem b7R {n:Nat} {t:TypeId} {v:Value} {d:DataW H} {ps:List MemPlace} {r:Go.Reach} {b:Nat} (f:tc P n t=true) (j:Value.okWide P w r b t v) (h:DataW.Trod enc P w 0 sp p t v d ps):
 ∃a,XD P n t d=some a/\ @aY ko Cg yv w a v:=by
 obtain ⟨fuel,q⟩:=h
 obtain ⟨vs,s,x,o⟩:=L2 f q
 c aggs: ∀cs,v= .agg cs-> @aY ko Cg yv w (.agg vs) v:=by
   intro cs e
   subst e
   refine @aY.agg ko Cg yv w vs cs (by c:=o.1;simp [Value.cells] at this;exact this.symm) (fun u m=> ?_) (fun i u hi=> ?_)
   ·obtain ⟨i,hi,rfl⟩:=bp m
    exact (o.2 i _ (aq hi)).2.1
   ·c:=(o.2 i u hi).2.2
    simpa [Value.cells,bo,Array.getD_eq_getD_getElem?] using this
 c ones:P.cellsOf t=1->ci v=true->vs.head?=some (vs.headD .undef)/\ @aY ko Cg yv w (vs.headD .undef) v:=by
   intro e l
   match vs,x with
   |[u],_=>
    refine ⟨rfl, ?_⟩
    c:=(o.2 0 u rfl).2.2
    rw [a2O l] at this
    exact this
   |[],h=>rw [e] at h;cases h
   |_::_::_,h=>rw [e] at h;simp at h
 cases n with
 |zero=>simp [tc] at f
 |succ n=>
  simp only [tc] at f
  unfold XD
  rw [s]
  unfold Value.okWide at j
  cases m:P.underlying t with
  |none=>rw [m] at f;cases f
  |some td=>
   rw [m] at f j
   cases td with
   |struct fs=>obtain ⟨cs,e,_⟩:=j;exact ⟨_,rfl,aggs cs e⟩
   |array k e=>obtain ⟨cs,e,_⟩:=j;exact ⟨_,rfl,aggs cs e⟩
   |bool=>
    simp only [beq_iff_eq] at f
    c l:ci v=true:=by
      simp only [Cell.okWide,Cell.ok,m] at j
      cases v<;>simp_all [ci]
    exact ⟨_,(ones f l).1,(ones f l).2⟩
   |int k=>
    simp only [beq_iff_eq] at f
    c l:ci v=true:=by
      simp only [Cell.okWide,Cell.ok,m] at j
      cases v<;>simp_all [ci]
    exact ⟨_,(ones f l).1,(ones f l).2⟩
   |string=>
    simp only [beq_iff_eq] at f
    c l:ci v=true:=by
      simp only [Cell.okWide,Cell.ok,m] at j
      cases v<;>simp_all [ci]
    exact ⟨_,(ones f l).1,(ones f l).2⟩
   |slice e=>
    simp only [aD,beq_iff_eq] at f
    c l:ci v=true:=by
      simp only [Cell.okWide,Cell.ok,m] at j
      cases v<;>simp_all [ci]
    exact ⟨_,(ones f.1.1 l).1,(ones f.1.1 l).2⟩
   |_=>cases f
theorem a0g {n:Nat} {r:Go.Reach} {b:Nat}: ∀{ts:List TypeId} {vs:List Value} {ds:List (DataW H)} {ps:List MemPlace},ts.all (tc P n)=true->(∀(j:Nat) t v,ts[j]? =some t->vs[j]? =some v->Value.okWide P w r b t v)->
 DataW.TrodAll enc P w 0 sp k ts vs ds ps-> ∃as,Ec P n ts ds=some as/\as.length=vs.length/\ds.length=ts.length/\ ∀(i:Nat) (a:V),as[i]? =some a-> @aY ko Cg yv w a (vs.getD i undef)
 |[],[],[],ps,_,_,_=>⟨[],rfl,rfl,rfl,fun i a h=>by simp at h⟩
 |t::ts,v::vs,d::ds,ps,e,c,h=>by
  obtain ⟨p,q,l,m,_⟩:=h
  simp only [cj,aD] at e
  obtain ⟨a,o,a2⟩:=b7R e.1 (c 0 t v rfl rfl) l
  obtain ⟨as,s,x,y,z⟩:=a0g e.2 (fun j t v h3 h4=>c (j+1) t v (by simpa using h3) (by simpa using h4)) m
  refine ⟨a::as,by simp [Ec,o,s],by simp [x],by simp [y],fun i u f=> ?_⟩
  cases i with
  |zero=>simp at f;subst f;exact a2
  |succ i=>exact z i u (by simpa using f)
 |[],[],_::_,_,_,_,h=>by simp [DataW.TrodAll] at h
 |[],_::_,_,_,_,_,h=>by simp [DataW.TrodAll] at h
 |_::_,[],_,_,_,_,h=>by simp [DataW.TrodAll] at h
 |_::_,_::_,[],_,_,_,h=>by simp [DataW.TrodAll] at h
theorem J7 (e:laidOutB P=true) {W W':World} (f:Below W.heap.size W W'): ∀{ts:List TypeId} {vs:List Value} {ds:List (DataW H)} {ps:List MemPlace},ts.all (fun t=>P.readableRec t&&decide (t<P.types.size))=true->
 DataW.TrodAll enc P W 0 (fun _=>true) true ts vs ds ps->DataW.TrodAll enc P W' 0 (fun b=>decide (b<W.heap.size)) true ts vs ds ps
 |[],[],[],ps,_,h=>h
 |t::ts,v::vs,d::ds,ps,a,h=>by
  i c:=DataW.TrodAll.lt h
  obtain ⟨p,q,j,k,rfl⟩:=h
  simp only [cj,aD,aC] at a
  exact ⟨p,q,Below.trod e a.1.1 a.1.2 j f (fun x l=>c x (List.mem_append_left _ l)),J7 e f a.2 k,rfl⟩
 |[],[],_::_,_,_,h=>by simp [DataW.TrodAll] at h
 |[],_::_,_,_,_,h=>by simp [DataW.TrodAll] at h
 |_::_,[],_,_,_,h=>by simp [DataW.TrodAll] at h
 |_::_,_::_,[],_,_,h=>by simp [DataW.TrodAll] at h
theorem a5P (w:World): @bB ko Cg (bJ []) w:=
 @bB.mk ko Cg (bJ []) w (fun _ _ _ h=>by simp [Cg] at h) (fun _ _ h=>by simp [Cg] at h) (fun _ _ h=>by simp [bJ] at h) (fun _ _ h=>by simp [bJ] at h) (fun _ _ h=>by simp [Cg] at h) (fun _ h=>h.elim)
theorem a87 {T:Tab} {ow:ec} (hT:Ad P T) {f:FuncId} {fn:Func} {n:Nat} {s:ChangeSpec} {tb:TypeId} {af:aJ} (haf:T f=some (.code af)) (hfn:P.funcs[f]? =some fn) (u:fn.params.toList.all (tc P n)=true)
 (z:laidOutB P=true) (hread:fn.params.toList.all (fun t=>P.readableRec t&&decide (t<P.types.size))=true) (hres:fn.resultTypes= #[tb]) (hbool:P.underlying tb=some .bool) (o:s.vars=[])
 (l: ∀ds:List (DataW H),ds.length=fn.params.size->s.fn H ds={ results:=[.lit (.bool true)],args:=ds })
 {W:World} {b:Nat} {args:Array Value} {ds gs:List (DataW H)} {before:List MemPlace} (hval: ∀(j:Nat) t v,fn.params[j]? =some t->args[j]? =some v->Value.okWide P W .any b t v)
 (hW:DataW.Whole enc P fn.params.toList s.vars false W args.toList ds gs before)
 (hlaw: ∀as,Ec P n fn.params.toList ds=some as->Call T ow f as []=some (.lit (.bool true),[])):
 Calls P f args W fun e W'=> ∃v,e= .returned v/\s.post enc P fn false true false false W args v W':=by
 d hW':=hW
 obtain ⟨p,q,hA,hV,rfl,hfz,hnd⟩:=hW
 obtain ⟨as,h1,h2,h3,h4⟩:=a0g (r:= .any) (b:=b) u (fun j t v g1 g2=>hval j t v (by simpa using g1) (by simpa using g2)) hA
 d hgs:gs=[]:=by
   rw [o] at hV
   cases gs with
   |nil=>rfl
   |cons a b=>simp [DataW.TrodVars] at hV
 subst hgs
 d hcall:=Db hT f as [] _ _ (hlaw as h1) ko Cg W args (a5P W) (by rw [h2,Array.length_toList]) (fun i a hi=>by
   d:=h4 i a hi
   d e:bJ []=yv:=by funext i;simp [bJ,yv]
   rw [e]
   rw [bo] at this
   rw [Array.getD_eq_getD_getElem?, <-Array.getElem?_toList]
   exact this)
 rcases hcall with ⟨x,w',hrun,_⟩|⟨_,hc⟩
 ·exfalso
  obtain ⟨fn',hn,hfn',hname,m⟩:=hT.code f af haf
  d hb:fn'.body≠none:=by
    intro hb
    unfold rE at m
    rw [hb] at m
    cases m
  d w: ¬fn'.name= "runtime.NumGoroutine" :=by simpa using hname
  d hp:(program).run P W= .ok P W:=rfl
  simp [callFunc,Sem.run_bind,hp,hfn',w,hb] at hrun
 ·refine hc.mono (fun e W' he=> ?_)
  cases e with
  |returned v=>
   obtain ⟨μ',H',C',V',_,_⟩:=he
   d hv:v= .bool true:=by
     cases V'
     rfl
   subst hv
   d ev:=Mh C'
   d y:Below W.heap.size W W':=⟨c64 ev,a5Z ev,b6f ev,XY ev,fun k hk=>(a5H ev k hk ⟨fun b hb=>by simp [Cg] at hb,fun h=>h⟩).1⟩
   refine ⟨_,rfl,ds,[],p++q,[],p,[],hW', ?_, ?_, ?_,y.frame _,fun h=>by cases h⟩
   ·rw [bV,l ds (by simpa using h3),hres]
    exact trodAll_mk1 (shut_bool hbool true)
   ·rw [bV,l ds (by simpa using h3)]
    exact J7 z y hread hA
   ·rw [bV,l ds (by simpa using h3),o]
    rfl
  |panicked c=>exact he.elim
  |outgrown=>exact he.elim
end
end
section
def Oq (k:FuncId) (a:aJ):Tab:=fun f=>if f=k then some (.code a) else none
def SW:ec:=fun _=>[]
theorem M7 (k:FuncId) (a:aJ):Oq k a k=some (.code a):=by simp [Oq]
theorem Za {P:Program} {k:FuncId} {a:aJ} (h: ∃fn c,P.funcs[k]? =some fn/\(fn.name== "runtime.NumGoroutine")=false/\rE P fn c=some a):Ad P (Oq k a):=by
 refine ⟨fun f af b=> ?_,fun f g b=> ?_⟩
 ·unfold Oq at b
  split at b
  ·rename_i e;cases b;subst e;exact h
  ·cases b
 ·unfold Oq at b
  split at b
  ·cases b
  ·cases b
theorem R2 {T:Tab} {ow:ec} {f:FuncId} {g:List V->List Blk->Option (V×List Blk)} (c:T f=some (.ext g)) (a:List V) (b:List Blk):Call T ow f a b=g a b:=by
 rw [a7b,c]
def NN (P:Program) (f:FuncId) (g:List V->List Blk->Option (V×List Blk)):Prop:=
 ∀args blks r blks',g args blks=some (r,blks')-> ∀(F:Frame) (μ:Mu) (w:World) (xs:Array Value), @bB F μ (bJ blks) w->xs.size=args.length->
  (∀(i:Nat) (v:V),args[i]? =some v-> @aY F μ (bJ blks) w v (xs.getD i undef))->Reach P f xs w (n4 F μ (bJ blks) w r blks')
noncomputable def c8g (k:FuncId) (a:aJ):List V->List Blk->Option (V×List Blk)
 |[.imm _ []],[]=>some (.imm 1 [],[])
 |[.imm e (r::rs)],[]=>Call (Oq k a) SW k [.imm e (r::rs)] []
 |_,_=>none
end
section
noncomputable def WF (k:FuncId) (a:aJ) (m:Nat):List V->List Blk->Option (V×List Blk)
 |[.imm _ []],[]=>some (.sl 0 0 0,[⟨m,false,[]⟩])
 |[.imm e (r::rs)],[]=>Call (Oq k a) SW k [.imm e (r::rs)] []
 |_,_=>none
theorem a9Q {P:Program} {k:FuncId} {a:aJ} {m:Nat} (h: ∃fn c,P.funcs[k]? =some fn/\(fn.name== "runtime.NumGoroutine")=false/\rE P fn c=some a)
 (c: ∀cap, ∃n,kG a 0 (dh (fh (Oq k a) SW n) SW n a.body (start [.lit (.slice none 0 cap)] []))=some (.lit (.slice none 0 0),[]))
 (t: ∀ad cap,Call (Oq k a) SW k [.lit (.slice (some ad) 0 cap)] []=some (.sl 0 0 0,[⟨m,false,[]⟩])):
 ∀args blks r blks',WF k a m args blks=some (r,blks')-> ∀(F:Frame) (μ:Mu) (w:World) (xs:Array Value), @bB F μ (bJ blks) w->xs.size=args.length->
 (∀(i:Nat) (v:V),args[i]? =some v-> @aY F μ (bJ blks) w v (xs.getD i undef))->Reach P k xs w (n4 F μ (bJ blks) w r blks'):=by
 intro args blks r blks' d F μ w xs H j o
 b p:=Db (ow:=SW) (Za h)
 unfold WF at d
 split at d
 ·cases d
  b h0:=o 0 _ rfl
  generalize u:xs.getD 0 undef=X at h0
  b e: ∃ad cap,X= .slice ad 0 cap:=by
    cases h0 with
    |emp ad=>exact ⟨ad,0,rfl⟩
    |imm0 _ ad cap=>exact ⟨ad,cap,rfl⟩
    |imm _ _ _ _ _ _ _ y=>exact absurd rfl y
  obtain ⟨ad,cap,rfl⟩:=e
  b f: ∀(i:Nat) (v:V),([.lit (.slice ad 0 cap)]:List V)[i]? =some v-> @aY F μ (bJ []) w v (xs.getD i undef):=by
    intro i v hi
    cases i with
    |zero=>simp at hi;subst hi;rw [u];exact @aY.lit F _ _ _ _
    |succ i=>simp at hi
  cases ad with
  |some ad=>exact p k [.lit (.slice (some ad) 0 cap)] [] _ _ (t ad cap) F μ w xs H j f
  |none=>
   obtain ⟨n,c⟩:=c cap
   b l:=QF (ow:=SW) (Za h) (Ao (Za h) n) (M7 k a) c H j f
   refine l.mono (fun x w' l=> ?_)
   obtain ⟨μ',H1,C1,V1,_,_⟩:=l
   b z:=de V1
   subst z
   b q:bJ [(⟨m,false,[]⟩:Blk)]=bT (bJ []) 0 ⟨m,false,[]⟩:=by
     funext i
     unfold bT
     cases i<;>rfl
   obtain ⟨q1,q2⟩:= @bB.newNil F _ _ _ H1 0 m rfl
   refine ⟨μ',by rw [q];exact q1,by rw [q];exact @Chg.trans _ _ _ F _ _ _ _ _ _ C1 q2, ?_,rfl,fun k s=>by simp at s;subst s;exact fun h=>by cases h⟩
   exact @aY.sl F _ _ _ 0 0 0 _ ⟨m,false,[]⟩ rfl (.inr (aw _)) ⟨_,_,rfl⟩ (fun _ _=>⟨_,_,rfl,.inl ⟨rfl,rfl⟩⟩)
 ·exact p k _ _ _ _ d F μ w xs H j o
 ·cases d
end
end Go.AI
