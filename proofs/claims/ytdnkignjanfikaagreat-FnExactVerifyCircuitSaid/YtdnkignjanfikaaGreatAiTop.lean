/- What a row's arguments are to the abstract machine. -/
import Derived.Test.YtdnkignjanfikaaGreatAiCtl
import Derived.Carry
import Derived.ChangeOld
import Derived.SizedLaws
import Derived.RowKit
import Derived.OpenShut
set_option linter.unusedVariables false
set_option linter.unusedSimpArgs false
namespace Go.AI
section
open Go.RowKit Go.ChangeShapes
section
variable {H:Type}
def Jg (g:DataW H->Option (List V)):List (DataW H)->Option (List (List V))
 |[]=>some []
 |d::r=>match g d,Jg g r with
  |some a,some b=>some (a::b)
  |_,_=>none
def qN (g:TypeId->DataW H->Option (List V)):List Field->List (DataW H)->Option (List V)
 |[],[]=>some []
 |f::fs,d::ds=>match g f.type d,qN g fs ds with
  |some a,some b=>some (a++b)
  |_,_=>none
 |_,_=>none
def dE (P:Program):Nat->TypeId->DataW H->Option (List V)
 |0,_,_=>none
 |n+1,t,d=>match P.underlying t,d with
  |some .bool,.lit (.bool b)=>some [.lit (.bool b)]
  |some (.int k),.lit (.int k' m)=>if k'=k/\(Lit.int k m).wf=true then some [.lit (.int k m)] else none
  |some .string,.lit (.string bs)=>if bs.length<=maxLen then some [.lit (.string ⟨bs.toArray⟩)] else none
  |some (.slice e),.nil=>some [.imm 1 []]
  |some (.slice e),.slice es _=>if es.length<=maxLen then (match Jg (dE P n e) es with
   |some rows=>some [(V.imm (P.cellsOf e) rows).cz]
   |none=>none) else none
  |some (.struct fs),.agg ps=>qN (dE P n) fs.toList ps
  |some (.array k e),.agg ps=>if ps.length=k then (match Jg (dE P n e) ps with
   |some rows=>some rows.flatten
   |none=>none) else none
  |_,_=>none
def Uq (P:Program):Nat->List Field->Option Nat
 |o,[]=>some o
 |o,f::fs=>if f.offset=o then Uq P (o+P.cellsOf f.type) fs else none
def u2 (P:Program):Nat->TypeId->Bool
 |0,_=>false
 |n+1,t=>match P.underlying t with
  |some .bool|some (.int _)|some .string=>P.cellsOf t==1
  |some (.slice e)=>P.cellsOf t==1&&decide (0<P.cellsOf e)&&u2 P n e
  |some (.struct fs)=>Uq P 0 fs.toList==some (P.cellsOf t)&&fs.toList.all (fun f=>u2 P n f.type)
  |some (.array k e)=>k*P.cellsOf e==P.cellsOf t&&u2 P n e
  |_=>false
@[reducible] def ko:Frame:=⟨fun _=>False⟩
def Co:Mu:=fun _=>none
def yN:aZ:=fun _=>none
variable {enc:TypeId×Value->H} {P:Program} {w:World} {sp:Nat->Bool} {held:Bool}
def to (w:World) (vs:List V) (cs:List Value):Prop:=
 vs.length=cs.length/\ ∀(i:Nat) (v:V),vs[i]? =some v->v.cl=true/\v.cell=true/\ @aX ko Co yN w v (cs.getD i undef)
theorem to.one {v:V} {x:Value} (h1:v.cl=true) (h2:v.cell=true) (h3: @aX ko Co yN w v x):to w [v] [x]:=
 ⟨rfl,fun i u hu=>by
  cases i with
  |zero=>simp at hu;subst hu;exact ⟨h1,h2,h3⟩
  |succ i=>simp at hu⟩
theorem to.append {vs us:List V} {cs ds:List Value} (a:to w vs cs) (b:to w us ds):to w (vs++us) (cs++ds):=by
 refine ⟨by simp [a.1,b.1],fun i v hi=> ?_⟩
 rcases cA i vs.length with hlt|hge
 ·rw [bI hlt] at hi
  have:=a.2 i v hi
  rw [bp,bI (by rw [<-a.1];exact hlt), <-bp]
  exact this
 ·rw [bS hge] at hi
  have:=b.2 _ v hi
  rw [bp,bS (by rw [<-a.1];exact hge), <-bp, <-a.1]
  exact this
theorem a2P {g:DataW H->Option (List V)}: ∀{es:List (DataW H)},(∀d∈es, ∃a,g d=some a)-> ∃rows,Jg g es=some rows/\rows.length=es.length/\ ∀(i:Nat) (d:DataW H) (row:List V),es[i]? =some d->rows[i]? =some row->g d=some row
 |[],_=>⟨[],rfl,rfl,fun i d row h=>by simp at h⟩
 |d::r,h=>by
  obtain ⟨a,ha⟩:=h d (by simp)
  obtain ⟨rows,h1,h2,h3⟩:=a2P (es:=r) (fun d hd=>h d (by simp [hd]))
  refine ⟨a::rows,by simp [Jg,ha,h1],by simp [h2],fun i d' row hd hr=> ?_⟩
  cases i with
  |zero=>simp at hd hr;subst hd;subst hr;exact ha
  |succ i=>exact h3 i d' row (by simpa using hd) (by simpa using hr)
theorem b0h {base:Nat} {a:Addr} {n:Nat} {cs:List Value} (h:w.cells? base a n=some cs):cs.length=n/\ ∀j,j<n->w.cell? (a.add j)=some (cs.getD j undef):=by
 unfold World.cells? at h
 split at h
 ·have hl:=mapM_some_length h
  rw [List.length_range] at hl
  refine ⟨hl,fun j hj=> ?_⟩
  have:=mapM_some_get h j j (by simp [hj])
  rw [this,bp]
  obtain ⟨x,hx⟩:=ey (l:=cs) (i:=j) (by omega)
  rw [hx];rfl
 ·cases h
theorem a0e {a:Addr} {cs:List Value} {n base:Nat} (h:w.cells? base a n=some cs) (h0:0<n):a.spot=none/\ ∀j,j<n->w.cell? ⟨a.block,a.off+j,none⟩=some (cs.getD j undef):=by
 obtain ⟨hl,hc⟩:=b0h h
 have h1:=hc 0 h0
 have hs:a.spot=none:=by
  unfold Addr.add at h1
  rw [ae rfl] at h1
  unfold World.cell? at h1
  split at h1
  ·split at h1
   ·cases h1
   ·rename_i hn;simpa using hn
  ·cases h1
 refine ⟨hs,fun j hj=> ?_⟩
 have:=hc j hj
 unfold Addr.add at this
 obtain ⟨b,o,p⟩:=a
 simp only at hs
 subst hs
 split at this
 ·rename_i e;subst e;simpa using this
 ·exact this
theorem Qz {n m:Nat} {cs:List Value} (ih: ∀(t:TypeId) (cs:List Value) (x:DataW H×List MemPlace),u2 P n t=true->DataW.trod enc P w 0 sp held m t cs=some x-> ∃vs,dE P n t x.1=some vs/\vs.length=P.cellsOf t/\to w vs cs):
 ∀(fs:List Field) (xs:List (DataW H×List MemPlace)) (o e:Nat),Uq P o fs=some e->fs.all (fun f=>u2 P n f.type)=true->xs.length=fs.length->e<=cs.length->
 (∀(i:Nat) (f:Field),fs[i]? =some f->DataW.trod enc P w 0 sp held m f.type ((cs.drop f.offset).take (P.cellsOf f.type))=xs[i]?)->
 ∃vs,qN (dE P n) fs (xs.map (·.1))=some vs/\o<=e/\vs.length=e-o/\to w vs ((cs.drop o).take (e-o))
 |[],xs,o,e,hc,hp,hl,he,h=>by
  simp [Uq] at hc
  subst hc
  have:xs=[]:=bU (by simpa using hl)
  subst this
  exact ⟨[],rfl,aw _,by simp,by simp,fun i v hi=>by simp at hi⟩
 |f::fs,[],o,e,hc,hp,hl,he,h=>by simp at hl
 |f::fs,x::xs,o,e,hc,hp,hl,he,h=>by
  simp only [Uq] at hc
  split at hc
  ·rename_i ho
   simp only [cr,aC] at hp
   obtain ⟨vs2,g1,g2,g3,g4⟩:=Qz ih fs xs _ e hc hp.2 (by simpa using hl) he (fun i f' hf=>h (i+1) f' (by simpa using hf))
   have h0:=h 0 f rfl
   simp only [ji] at h0
   obtain ⟨vs1,k1,k2,k3⟩:=ih f.type _ x hp.1 h0
   refine ⟨vs1++vs2,by simp [qN,k1,g1],by omega,by simp [k2,g3];omega, ?_⟩
   have:(cs.drop o).take (e-o)=(cs.drop f.offset).take (P.cellsOf f.type)++(cs.drop (o+P.cellsOf f.type)).take (e-(o+P.cellsOf f.type)):=by
    rw [ho,show e-o=P.cellsOf f.type+(e-(o+P.cellsOf f.type)) by omega,List.take_add,List.drop_drop]
   rw [this]
   exact k3.append g4
  ·cases hc
theorem LQ: ∀{n fuel:Nat} {t:TypeId} {cs:List Value} {x:DataW H×List MemPlace},u2 P n t=true->DataW.trod enc P w 0 sp held fuel t cs=some x->
 ∃vs,dE P n t x.1=some vs/\vs.length=P.cellsOf t/\to w vs cs
 |0,fuel,t,cs,x,hp,h=>by simp [u2] at hp
 |n+1,fuel,t,cs,x,hp,h=>by
  simp only [u2] at hp
  cases hu:P.underlying t with
  |none=>rw [hu] at hp;cases hp
  |some d=>
   rw [hu] at hp
   cases d with
   |bool=>
    simp only [beq_iff_eq] at hp
    obtain ⟨b,rfl,rfl⟩:=DataW.trod_bool hu h
    exact ⟨[.lit (.bool b)],by simp [dE,hu],by simp [hp],to.one rfl rfl (@aX.lit ko _ _ _ _)⟩
   |int k=>
    simp only [beq_iff_eq] at hp
    obtain ⟨m,rfl,rfl,hw⟩:=DataW.trod_int hu h
    exact ⟨[.lit (.int k m)],by simp [dE,hu,hw],by simp [hp],to.one rfl rfl (@aX.lit ko _ _ _ _)⟩
   |string=>
    simp only [beq_iff_eq] at hp
    obtain ⟨s,rfl,rfl,hl⟩:=DataW.trod_string hu h
    exact ⟨[.lit (.string s)],by simp [dE,hu];exact hl,by simp [hp],to.one rfl rfl (@aX.lit ko _ _ _ _)⟩
   |slice e=>
    simp only [aC,beq_iff_eq,aG] at hp
    obtain ⟨⟨p1,p2⟩,p3⟩:=hp
    rcases DataW.trod_slice hu h with ⟨rfl,rfl⟩|⟨a,len,cap,elems,rest,m,rfl,rfl,rfl,hb,hlc,hcm,hel,hat,_⟩
    ·exact ⟨[.imm 1 []],by simp [dE,hu],by simp [p1],to.one rfl rfl (@aX.imm0 ko _ _ _ 1 none 0 (by decide))⟩
    ·have each: ∀i,i<len-> ∃cs x vs,w.cells? 0 (a.add (i*P.cellsOf e)) (P.cellsOf e)=some cs/\elems[i]? =some x/\dE P n e x.1=some vs/\vs.length=P.cellsOf e/\to w vs cs:=by
      intro i hi
      have h1:=hat i hi
      obtain ⟨x,hx⟩:=ey (l:=elems) (i:=i) (by omega)
      rw [hx] at h1
      cases hcs:w.cells? 0 (a.add (i*P.cellsOf e)) (P.cellsOf e) with
      |none=>rw [hcs] at h1;cases h1
      |some cs=>
       rw [hcs] at h1
       obtain ⟨vs,g1,g2,g3⟩:=LQ p3 h1
       exact ⟨cs,x,vs,rfl,hx,g1,g2,g3⟩
     obtain ⟨rows,r1,r2,r3⟩:=a2P (g:=dE P n e) (es:=elems.map (·.1)) (fun d hd=>by
      obtain ⟨x,hx,rfl⟩:=bu.1 hd
      obtain ⟨i,hi,rfl⟩:=bq hx
      obtain ⟨cs,x,vs,_,g2,g3,_⟩:=each i (by omega)
      rw [aq hi] at g2
      cases g2
      exact ⟨vs,g3⟩)
     have rl:rows.length=len:=by rw [r2];simpa using hel
     have rowAt: ∀i row,rows[i]? =some row-> ∃cs,w.cells? 0 (a.add (i*P.cellsOf e)) (P.cellsOf e)=some cs/\row.length=P.cellsOf e/\to w row cs:=by
      intro i row hr
      have hi:=dw hr
      obtain ⟨cs,x,vs,g1,g2,g3,g4,g5⟩:=each i (by omega)
      have:=r3 i x.1 row (by simp [g2]) hr
      rw [g3] at this
      cases this
      exact ⟨cs,g1,g4,g5⟩
     refine ⟨[(V.imm (P.cellsOf e) rows).cz], ?_,by simp [p1],to.one (a8q rfl) (KK rfl) (@aX.cz ko _ _ _ _ _ ?_)⟩
     ·simp only [dE,hu,aM,r1]
      rw [ae (by omega)]
     ·by_cases h0:rows=[]
      ·subst h0
       have:len=0:=by rw [<-rl];rfl
       subst this
       exact @aX.imm0 ko Co yN w (P.cellsOf e) (some a) cap (by omega)
      ·have hpos:0<rows.length:=by cases rows with
        |nil=>exact absurd rfl h0
        |cons x y=>simp
       obtain ⟨row0,hr0⟩:=ey hpos
       obtain ⟨cs0,c0,_,_⟩:=rowAt 0 row0 hr0
       rw [lR] at c0
       have hadd0:a.add 0=a:=by unfold Addr.add;rw [ae rfl]
       rw [hadd0] at c0
       obtain ⟨hs,hcell0⟩:=a0e c0 p2
       have haddr: ∀k,a.add k=⟨a.block,a.off+k,none⟩:=by
        intro k
        obtain ⟨b,o,q⟩:=a
        simp only at hs
        subst hs
        unfold Addr.add
        split
        ·rename_i e0;subst e0;rfl
        ·rfl
       have ha:a=⟨a.block,a.off,none⟩:=by rw [<-hadd0,haddr 0]
       have hblk:a.block<w.heap.size:=World.cells?_block c0 p2
       have:= @aX.imm ko Co yN w (P.cellsOf e) rows a.block a.off cap (fun i j=>(w.cell? ⟨a.block,a.off+(i*P.cellsOf e+j),none⟩).getD undef) p2 h0 (by omega) hblk
        ⟨fun b hb=>by simp [Co] at hb,fun hf=>hf⟩
        (fun row hrow=>by
         obtain ⟨i,hi,rfl⟩:=bq hrow
         obtain ⟨cs,g1,g2,g3⟩:=rowAt i _ (aq hi)
         refine ⟨g2,fun v hv=> ?_⟩
         obtain ⟨j,hj,rfl⟩:=bq hv
         have:=g3.2 j _ (aq hj)
         exact ⟨this.1,this.2.1⟩)
        (fun i j hi hj=>by
         obtain ⟨row,hr⟩:=ey hi
         obtain ⟨cs,g1,g2,g3⟩:=rowAt i row hr
         obtain ⟨_,hc⟩:=a0e g1 p2
         have:=hc j hj
         rw [haddr] at this
         simp only [fA] at this ⊢
         rw [this];rfl)
        (fun i row j v hi hj=>by
         obtain ⟨cs,g1,g2,g3⟩:=rowAt i row hi
         obtain ⟨_,hc⟩:=a0e g1 p2
         have h1:=hc j (by rw [<-g2];exact dw hj)
         rw [haddr] at h1
         simp only [fA] at h1 ⊢
         rw [h1]
         exact (g3.2 j v hj).2.2)
       rw [rl, <-ha] at this
       exact this
   |struct fs=>
    simp only [aC,beq_iff_eq] at hp
    obtain ⟨xs,m,rfl,rfl,hcl,hxl,hat⟩:=DataW.trod_struct hu h
    obtain ⟨vs,g1,g2,g3,g4⟩:=Qz (fun t cs x h1 h2=>LQ h1 h2) fs.toList xs 0 _ hp.1 hp.2 (by simpa using hxl) (by omega) (fun i f hf=>hat i f (by simpa using hf))
    refine ⟨vs,by simp only [dE,hu];exact g1,by omega, ?_⟩
    rw [io,oM, <-hcl,bm] at g4
    exact g4
   |array k e=>
    simp only [aC,beq_iff_eq] at hp
    obtain ⟨xs,m,rfl,rfl,hcl,hxl,hat⟩:=DataW.trod_array hu h
    have each: ∀i,i<k-> ∃x vs,xs[i]? =some x/\dE P n e x.1=some vs/\vs.length=P.cellsOf e/\to w vs ((cs.drop (i*P.cellsOf e)).take (P.cellsOf e)):=by
     intro i hi
     obtain ⟨x,hx⟩:=ey (l:=xs) (i:=i) (by omega)
     obtain ⟨vs,g1,g2,g3⟩:=LQ hp.2 ((hat i hi).trans hx)
     exact ⟨x,vs,hx,g1,g2,g3⟩
    have key: ∀(ys:List (DataW H×List MemPlace)) (i:Nat),(∀j,j<ys.length->ys[j]? =xs[i+j]?)->i+ys.length=k->
     ∃rows,Jg (dE P n e) (ys.map (·.1))=some rows/\rows.flatten.length=ys.length*P.cellsOf e/\to w rows.flatten ((cs.drop (i*P.cellsOf e)).take (ys.length*P.cellsOf e)):=by
     intro ys
     induction ys with
     |nil=>intro i _ _;exact ⟨[],rfl,by simp,by simp,fun i v hi=>by simp at hi⟩
     |cons y ys ih=>
      intro i hys hik
      simp only [ah] at hik
      obtain ⟨rows,q1,q2,q3⟩:=ih (i+1) (fun j hj=>by
       have:=hys (j+1) (by simpa using hj)
       rw [show i+1+j=i+(j+1) by omega, <-this];simp) (by omega)
      obtain ⟨x,vs,g1,g2,g3,g4⟩:=each i (by omega)
      have hy:y=x:=by
       have:=hys 0 (by simp)
       rw [cQ,g1] at this
       simpa using this
      subst hy
      refine ⟨vs::rows,by simp [Jg,g2,q1],by simp [q2,g3,Nat.add_mul];omega, ?_⟩
      rw [List.flatten_cons,ah,Nat.add_mul,cB,jp (ys.length*P.cellsOf e),List.take_add,List.drop_drop]
      rw [Nat.add_mul,cB] at q3
      exact g4.append q3
    obtain ⟨rows,q1,q2,q3⟩:=key xs 0 (fun j _=>by rw [cI]) (by omega)
    refine ⟨rows.flatten, ?_,by rw [q2,hxl,hp.1], ?_⟩
    ·simp only [dE,hu,aM,q1]
     rw [ae hxl]
    ·rw [lR,io,hxl,hp.1, <-hcl,bm] at q3
     exact q3
   |_=>cases hp
def a1x (P:Program) (n:Nat) (t:TypeId) (d:DataW H):Option V:=match dE P n t d with
 |some vs=>(match P.underlying t with
  |some (.struct _)|some (.array _ _)=>some (.agg vs)
  |_=>vs.head?)
 |none=>none
def Ex (P:Program) (n:Nat):List TypeId->List (DataW H)->Option (List V)
 |[],[]=>some []
 |t::ts,d::ds=>match a1x P n t d,Ex P n ts ds with
  |some v,some vs=>some (v::vs)
  |_,_=>none
 |_,_=>none
theorem a5h {x:Value} (h:ck x=true):x.cells.toList=[x]:=by rw [kC h]
theorem b8c {n:Nat} {t:TypeId} {v:Value} {d:DataW H} {ps:List MemPlace} {r:Go.Reach} {b:Nat} (hp:u2 P n t=true) (hok:Value.okWide P w r b t v) (h:DataW.Trod enc P w 0 sp held t v d ps):
 ∃a,a1x P n t d=some a/\ @aX ko Co yN w a v:=by
 obtain ⟨fuel,hf⟩:=h
 obtain ⟨vs,h1,h2,h3⟩:=LQ hp hf
 have aggs: ∀cs,v= .agg cs-> @aX ko Co yN w (.agg vs) v:=by
  intro cs e
  subst e
  refine @aX.agg ko Co yN w vs cs (by have:=h3.1;simp [Value.cells] at this;exact this.symm) (fun u hu=> ?_) (fun i u hi=> ?_)
  ·obtain ⟨i,hi,rfl⟩:=bq hu
   exact (h3.2 i _ (aq hi)).2.1
  ·have:=(h3.2 i u hi).2.2
   simpa [Value.cells,bp,Array.getD_eq_getD_getElem?] using this
 have ones:P.cellsOf t=1->ck v=true->vs.head?=some (vs.headD .undef)/\ @aX ko Co yN w (vs.headD .undef) v:=by
  intro e hl
  match vs,h2 with
  |[u],_=>
   refine ⟨rfl, ?_⟩
   have:=(h3.2 0 u rfl).2.2
   rw [a5h hl] at this
   exact this
  |[],h=>rw [e] at h;cases h
  |_::_::_,h=>rw [e] at h;simp at h
 cases n with
 |zero=>simp [u2] at hp
 |succ n=>
  simp only [u2] at hp
  unfold a1x
  rw [h1]
  unfold Value.okWide at hok
  cases hu:P.underlying t with
  |none=>rw [hu] at hp;cases hp
  |some td=>
   rw [hu] at hp hok
   cases td with
   |struct fs=>obtain ⟨cs,e,_⟩:=hok;exact ⟨_,rfl,aggs cs e⟩
   |array k e=>obtain ⟨cs,e,_⟩:=hok;exact ⟨_,rfl,aggs cs e⟩
   |bool=>
    simp only [beq_iff_eq] at hp
    have hl:ck v=true:=by
     simp only [Cell.okWide,Cell.ok,hu] at hok
     cases v<;>simp_all [ck]
    exact ⟨_,(ones hp hl).1,(ones hp hl).2⟩
   |int k=>
    simp only [beq_iff_eq] at hp
    have hl:ck v=true:=by
     simp only [Cell.okWide,Cell.ok,hu] at hok
     cases v<;>simp_all [ck]
    exact ⟨_,(ones hp hl).1,(ones hp hl).2⟩
   |string=>
    simp only [beq_iff_eq] at hp
    have hl:ck v=true:=by
     simp only [Cell.okWide,Cell.ok,hu] at hok
     cases v<;>simp_all [ck]
    exact ⟨_,(ones hp hl).1,(ones hp hl).2⟩
   |slice e=>
    simp only [aC,beq_iff_eq] at hp
    have hl:ck v=true:=by
     simp only [Cell.okWide,Cell.ok,hu] at hok
     cases v<;>simp_all [ck]
    exact ⟨_,(ones hp.1.1 hl).1,(ones hp.1.1 hl).2⟩
   |_=>cases hp
theorem a3c {n:Nat} {r:Go.Reach} {b:Nat}: ∀{ts:List TypeId} {vs:List Value} {ds:List (DataW H)} {ps:List MemPlace},ts.all (u2 P n)=true->(∀(j:Nat) t v,ts[j]? =some t->vs[j]? =some v->Value.okWide P w r b t v)->
 DataW.TrodAll enc P w 0 sp held ts vs ds ps-> ∃as,Ex P n ts ds=some as/\as.length=vs.length/\ds.length=ts.length/\ ∀(i:Nat) (a:V),as[i]? =some a-> @aX ko Co yN w a (vs.getD i undef)
 |[],[],[],ps,_,_,_=>⟨[],rfl,rfl,rfl,fun i a h=>by simp at h⟩
 |t::ts,v::vs,d::ds,ps,hp,hok,h=>by
  obtain ⟨p,q,h1,h2,_⟩:=h
  simp only [cr,aC] at hp
  obtain ⟨a,a1,a2⟩:=b8c hp.1 (hok 0 t v rfl rfl) h1
  obtain ⟨as,b1,b2,b3,b4⟩:=a3c hp.2 (fun j t v h3 h4=>hok (j+1) t v (by simpa using h3) (by simpa using h4)) h2
  refine ⟨a::as,by simp [Ex,a1,b1],by simp [b2],by simp [b3],fun i u hu=> ?_⟩
  cases i with
  |zero=>simp at hu;subst hu;exact a2
  |succ i=>exact b4 i u (by simpa using hu)
 |[],[],_::_,_,_,_,h=>by simp [DataW.TrodAll] at h
 |[],_::_,_,_,_,_,h=>by simp [DataW.TrodAll] at h
 |_::_,[],_,_,_,_,h=>by simp [DataW.TrodAll] at h
 |_::_,_::_,[],_,_,_,h=>by simp [DataW.TrodAll] at h
theorem J3 (hl:laidOutB P=true) {W W':World} (hb:Below W.heap.size W W'): ∀{ts:List TypeId} {vs:List Value} {ds:List (DataW H)} {ps:List MemPlace},ts.all (fun t=>P.readableRec t&&decide (t<P.types.size))=true->
 DataW.TrodAll enc P W 0 (fun _=>true) true ts vs ds ps->DataW.TrodAll enc P W' 0 (fun b=>decide (b<W.heap.size)) true ts vs ds ps
 |[],[],[],ps,_,h=>h
 |t::ts,v::vs,d::ds,ps,hr,h=>by
  have hlt:=DataW.TrodAll.lt h
  obtain ⟨p,q,h1,h2,rfl⟩:=h
  simp only [cr,aC,aG] at hr
  exact ⟨p,q,Below.trod hl hr.1.1 hr.1.2 h1 hb (fun x hx=>hlt x (List.mem_append_left _ hx)),J3 hl hb hr.2 h2,rfl⟩
 |[],[],_::_,_,_,h=>by simp [DataW.TrodAll] at h
 |[],_::_,_,_,_,h=>by simp [DataW.TrodAll] at h
 |_::_,[],_,_,_,h=>by simp [DataW.TrodAll] at h
 |_::_,_::_,[],_,_,h=>by simp [DataW.TrodAll] at h
theorem a7a (w:World): @bD ko Co (bL []) w:=
 @bD.mk ko Co (bL []) w (fun _ _ _ h=>by simp [Co] at h) (fun _ _ h=>by simp [Co] at h) (fun _ _ h=>by simp [bL] at h) (fun _ _ h=>by simp [bL] at h) (fun _ _ h=>by simp [Co] at h) (fun _ h=>h.elim)
theorem b1h {T:Tab} {ow:en} (hT:A9 P T) {f:FuncId} {fn:Func} {n:Nat} {s:ChangeSpec} {tb:TypeId} {af:aJ} (haf:T f=some (.code af)) (hfn:P.funcs[f]? =some fn) (hplain:fn.params.toList.all (u2 P n)=true)
 (hlaid:laidOutB P=true) (hread:fn.params.toList.all (fun t=>P.readableRec t&&decide (t<P.types.size))=true) (hres:fn.resultTypes= #[tb]) (hbool:P.underlying tb=some .bool) (hvars:s.vars=[])
 (hspec: ∀ds:List (DataW H),ds.length=fn.params.size->s.fn H ds={ results:=[.lit (.bool true)],args:=ds })
 {W:World} {b:Nat} {args:Array Value} {ds gs:List (DataW H)} {before:List MemPlace} (hval: ∀(j:Nat) t v,fn.params[j]? =some t->args[j]? =some v->Value.okWide P W .any b t v)
 (hW:DataW.Whole enc P fn.params.toList s.vars false W args.toList ds gs before)
 (hlaw: ∀as,Ex P n fn.params.toList ds=some as->Call T ow f as []=some (.lit (.bool true),[])):
 Calls P f args W fun e W'=> ∃v,e= .returned v/\s.post enc P fn false true false false W args v W':=by
 have hW':=hW
 obtain ⟨p,q,hA,hV,rfl,hfz,hnd⟩:=hW
 obtain ⟨as,h1,h2,h3,h4⟩:=a3c (r:= .any) (b:=b) hplain (fun j t v g1 g2=>hval j t v (by simpa using g1) (by simpa using g2)) hA
 have hgs:gs=[]:=by
  rw [hvars] at hV
  cases gs with
  |nil=>rfl
  |cons a b=>simp [DataW.TrodVars] at hV
 subst hgs
 have hcall:=DV hT f as [] _ _ (hlaw as h1) ko Co W args (a7a W) (by rw [h2,Array.length_toList]) (fun i a hi=>by
  have:=h4 i a hi
  have e:bL []=yN:=by funext i;simp [bL,yN]
  rw [e]
  rw [bp] at this
  rw [Array.getD_eq_getD_getElem?, <-Array.getElem?_toList]
  exact this)
 rcases hcall with ⟨x,w',hrun,_⟩|⟨_,hc⟩
 ·exfalso
  obtain ⟨fn',hn,hfn',hname,hcomp⟩:=hT.code f af haf
  have hb:fn'.body≠none:=by
   intro hb
   unfold s7 at hcomp
   rw [hb] at hcomp
   cases hcomp
  have hname': ¬fn'.name= "runtime.NumGoroutine" :=by simpa using hname
  have hp:(program).run P W= .ok P W:=rfl
  simp [callFunc,Sem.run_bind,hp,hfn',hname',hb] at hrun
 ·refine hc.mono (fun e W' he=> ?_)
  cases e with
  |returned v=>
   obtain ⟨μ',H',C',V',_,_⟩:=he
   have hv:v= .bool true:=by
    cases V'
    rfl
   subst hv
   have ev:=Nl C'
   have hbel:Below W.heap.size W W':=⟨c2E ev,a6C ev,b6v ev,YY ev,fun k hk=>(a7r ev k hk ⟨fun b hb=>by simp [Co] at hb,fun h=>h⟩).1⟩
   refine ⟨_,rfl,ds,[],p++q,[],p,[],hW', ?_, ?_, ?_,hbel.frame _,fun h=>by cases h⟩
   ·rw [bW,hspec ds (by simpa using h3),hres]
    exact trodAll_mk1 (shut_bool hbool true)
   ·rw [bW,hspec ds (by simpa using h3)]
    exact J3 hlaid hbel hread hA
   ·rw [bW,hspec ds (by simpa using h3),hvars]
    rfl
  |panicked c=>exact he.elim
  |outgrown=>exact he.elim
end
end
section
def P4 (k:FuncId) (a:aJ):Tab:=fun f=>if f=k then some (.code a) else none
def U2:en:=fun _=>[]
theorem MJ (k:FuncId) (a:aJ):P4 k a k=some (.code a):=by simp [P4]
theorem Ze {P:Program} {k:FuncId} {a:aJ} (h: ∃fn hn,P.funcs[k]? =some fn/\(fn.name== "runtime.NumGoroutine")=false/\s7 P fn hn=some a):A9 P (P4 k a):=by
 refine ⟨fun f af hf=> ?_,fun f g hf=> ?_⟩
 ·unfold P4 at hf
  split at hf
  ·rename_i e;cases hf;subst e;exact h
  ·cases hf
 ·unfold P4 at hf
  split at hf
  ·cases hf
  ·cases hf
theorem TD {T:Tab} {ow:en} {f:FuncId} {g:List V->List Blk->Option (V×List Blk)} (hT:T f=some (.ext g)) (a:List V) (b:List Blk):Call T ow f a b=g a b:=by
 rw [a7R,hT]
def NO (P:Program) (f:FuncId) (g:List V->List Blk->Option (V×List Blk)):Prop:=
 ∀args blks r blks',g args blks=some (r,blks')-> ∀(F:Frame) (μ:Mu) (w:World) (xs:Array Value), @bD F μ (bL blks) w->xs.size=args.length->
  (∀(i:Nat) (v:V),args[i]? =some v-> @aX F μ (bL blks) w v (xs.getD i undef))->Reach P f xs w (nD F μ (bL blks) w r blks')
noncomputable def c5Q (k:FuncId) (a:aJ):List V->List Blk->Option (V×List Blk)
 |[.imm _ []],[]=>some (.imm 1 [],[])
 |[.imm e (r::rs)],[]=>Call (P4 k a) U2 k [.imm e (r::rs)] []
 |_,_=>none
end
section
noncomputable def ZB (k:FuncId) (a:aJ) (m:Nat):List V->List Blk->Option (V×List Blk)
 |[.imm _ []],[]=>some (.sl 0 0 0,[⟨m,false,[]⟩])
 |[.imm e (r::rs)],[]=>Call (P4 k a) U2 k [.imm e (r::rs)] []
 |_,_=>none
theorem a9g {P:Program} {k:FuncId} {a:aJ} {m:Nat} (h: ∃fn hn,P.funcs[k]? =some fn/\(fn.name== "runtime.NumGoroutine")=false/\s7 P fn hn=some a)
 (hn: ∀cap, ∃n,kP a 0 (di (fu (P4 k a) U2 n) U2 n a.body (start [.lit (.slice none 0 cap)] []))=some (.lit (.slice none 0 0),[]))
 (he: ∀ad cap,Call (P4 k a) U2 k [.lit (.slice (some ad) 0 cap)] []=some (.sl 0 0 0,[⟨m,false,[]⟩])):
 ∀args blks r blks',ZB k a m args blks=some (r,blks')-> ∀(F:Frame) (μ:Mu) (w:World) (xs:Array Value), @bD F μ (bL blks) w->xs.size=args.length->
 (∀(i:Nat) (v:V),args[i]? =some v-> @aX F μ (bL blks) w v (xs.getD i undef))->Reach P k xs w (nD F μ (bL blks) w r blks'):=by
 intro args blks r blks' hg F μ w xs H hl hv
 have hs:=DV (ow:=U2) (Ze h)
 unfold ZB at hg
 split at hg
 ·cases hg
  have h0:=hv 0 _ rfl
  generalize hX:xs.getD 0 undef=X at h0
  have hlit: ∃ad cap,X= .slice ad 0 cap:=by
   cases h0 with
   |emp ad=>exact ⟨ad,0,rfl⟩
   |imm0 _ ad cap=>exact ⟨ad,cap,rfl⟩
   |imm _ _ _ _ _ _ _ hr=>exact absurd rfl hr
  obtain ⟨ad,cap,rfl⟩:=hlit
  have hv': ∀(i:Nat) (v:V),([.lit (.slice ad 0 cap)]:List V)[i]? =some v-> @aX F μ (bL []) w v (xs.getD i undef):=by
   intro i v hi
   cases i with
   |zero=>simp at hi;subst hi;rw [hX];exact @aX.lit F _ _ _ _
   |succ i=>simp at hi
  cases ad with
  |some ad=>exact hs k [.lit (.slice (some ad) 0 cap)] [] _ _ (he ad cap) F μ w xs H hl hv'
  |none=>
   obtain ⟨n,hn⟩:=hn cap
   have hp:=Ql (ow:=U2) (Ze h) (AV (Ze h) n) (MJ k a) hn H hl hv'
   refine hp.mono (fun x w' hp=> ?_)
   obtain ⟨μ',H1,C1,V1,_,_⟩:=hp
   have hx:=de V1
   subst hx
   have hb:bL [(⟨m,false,[]⟩:Blk)]=bV (bL []) 0 ⟨m,false,[]⟩:=by
    funext i
    unfold bV
    cases i<;>rfl
   obtain ⟨q1,q2⟩:= @bD.newNil F _ _ _ H1 0 m rfl
   refine ⟨μ',by rw [hb];exact q1,by rw [hb];exact @Chg.trans _ _ _ F _ _ _ _ _ _ C1 q2, ?_,rfl,fun k hk=>by simp at hk;subst hk;exact fun h=>by cases h⟩
   exact @aX.sl F _ _ _ 0 0 0 _ ⟨m,false,[]⟩ rfl (.inr (aw _)) ⟨_,_,rfl⟩ (fun _ _=>⟨_,_,rfl,.inl ⟨rfl,rfl⟩⟩)
 ·exact hs k _ _ _ _ hg F μ w xs H hl hv
 ·cases hg
end
end Go.AI
