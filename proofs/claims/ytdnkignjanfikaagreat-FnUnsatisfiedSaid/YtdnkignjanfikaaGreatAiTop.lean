/- What a row's arguments are to the abstract machine. -/
import Derived.Test.YtdnkignjanfikaaGreatAiCtl
import Derived.Carry
import Derived.ChangeOld
import Derived.SizedLaws
import Derived.RowKit
import Derived.OpenShut
set_option linter.unusedVariables false
set_option linter.unusedSimpArgs false
namespace Go.AI
open Go.RowKit Go.ChangeShapes
section
variable {H:Type}
def AH (g:DataW H→Option (List V)):List (DataW H)→Option (List (List V))
 |[]=>some []
 |d::r=>match g d,AH g r with
  |some a,some b=>some (a::b)
  |_,_=>none
def ng (g:TypeId→DataW H→Option (List V)):List Field→List (DataW H)→Option (List V)
 |[],[]=>some []
 |f::fs,d::ds=>match g f.type d,ng g fs ds with
  |some a,some b=>some (a++b)
  |_,_=>none
 |_,_=>none
def cm (P:Program):Nat→TypeId→DataW H→Option (List V)
 |0,_,_=>none
 |n+1,t,d=>match P.underlying t,d with
  |some .bool,.lit (.bool b)=>some [.lit (.bool b)]
  |some (.int k),.lit (.int k' m)=>if k'=k∧(Lit.int k m).wf=true then some [.lit (.int k m)] else none
  |some .string,.lit (.string bs)=>if bs.length≤maxLen then some [.lit (.string ⟨bs.toArray⟩)] else none
  |some (.slice e),.nil=>some [.imm 1 []]
  |some (.slice e),.slice es _=>if es.length≤maxLen then (match AH (cm P n e) es with
   |some rows=>some [(V.imm (P.cellsOf e) rows).cz]
   |none=>none) else none
  |some (.struct fs),.agg ps=>ng (cm P n) fs.toList ps
  |some (.array k e),.agg ps=>if ps.length=k then (match AH (cm P n e) ps with
   |some rows=>some rows.flatten
   |none=>none) else none
  |_,_=>none
def N6 (P:Program):Nat→List Field→Option Nat
 |o,[]=>some o
 |o,f::fs=>if f.offset=o then N6 P (o+P.cellsOf f.type) fs else none
def pT (P:Program):Nat→TypeId→Bool
 |0,_=>false
 |n+1,t=>match P.underlying t with
  |some .bool|some (.int _)|some .string=>P.cellsOf t==1
  |some (.slice e)=>P.cellsOf t==1&&decide (0<P.cellsOf e)&&pT P n e
  |some (.struct fs)=>N6 P 0 fs.toList==some (P.cellsOf t)&&fs.toList.all (fun f=>pT P n f.type)
  |some (.array k e)=>k*P.cellsOf e==P.cellsOf t&&pT P n e
  |_=>false
@[reducible] def gY:Frame:=⟨fun _=>False⟩
def yt:Mu:=fun _=>none
def wk:au:=fun _=>none
variable {enc:TypeId×Value→H} {P:Program} {w:World} {sp:Nat→Bool} {held:Bool}
def pA (w:World) (vs:List V) (cs:List Value):Prop:=
 vs.length=cs.length∧ ∀(i:Nat) (v:V),vs[i]? =some v→v.cl=true∧v.cell=true∧ @an gY yt wk w v (cs.getD i undef)
theorem pA.one {v:V} {x:Value} (h1:v.cl=true) (h2:v.cell=true) (h3: @an gY yt wk w v x):pA w [v] [x]:=
 ⟨rfl,fun i u hu=>by
  cases i with
  |zero=>simp at hu;subst hu;exact ⟨h1,h2,h3⟩
  |succ i=>simp at hu⟩
theorem pA.append {vs us:List V} {cs ds:List Value} (a:pA w vs cs) (b:pA w us ds):pA w (vs++us) (cs++ds):=by
 refine ⟨by simp [a.1,b.1],fun i v hi=> ?_⟩
 rcases Nat.lt_or_ge i vs.length with hlt|hge
 ·rw [List.getElem?_append_left hlt] at hi
  have:=a.2 i v hi
  rw [List.getD_eq_getElem?_getD,List.getElem?_append_left (by rw [←a.1];exact hlt), ←List.getD_eq_getElem?_getD]
  exact this
 ·rw [List.getElem?_append_right hge] at hi
  have:=b.2 _ v hi
  rw [List.getD_eq_getElem?_getD,List.getElem?_append_right (by rw [←a.1];exact hge), ←List.getD_eq_getElem?_getD, ←a.1]
  exact this
theorem XM {g:DataW H→Option (List V)}: ∀{es:List (DataW H)},(∀d∈es, ∃a,g d=some a)→ ∃rows,AH g es=some rows∧rows.length=es.length∧ ∀(i:Nat) (d:DataW H) (row:List V),es[i]? =some d→rows[i]? =some row→g d=some row
 |[],_=>⟨[],rfl,rfl,fun i d row h=>by simp at h⟩
 |d::r,h=>by
  obtain ⟨a,ha⟩:=h d (by simp)
  obtain ⟨rows,h1,h2,h3⟩:=XM (es:=r) (fun d hd=>h d (by simp [hd]))
  refine ⟨a::rows,by simp [AH,ha,h1],by simp [h2],fun i d' row hd hr=> ?_⟩
  cases i with
  |zero=>simp at hd hr;subst hd;subst hr;exact ha
  |succ i=>exact h3 i d' row (by simpa using hd) (by simpa using hr)
theorem a3H {base:Nat} {a:Addr} {n:Nat} {cs:List Value} (h:w.cells? base a n=some cs):cs.length=n∧ ∀j,j<n→w.cell? (a.add j)=some (cs.getD j undef):=by
 unfold World.cells? at h
 split at h
 ·have hl:=mapM_some_length h
  rw [List.length_range] at hl
  refine ⟨hl,fun j hj=> ?_⟩
  have:=mapM_some_get h j j (by simp [hj])
  rw [this,List.getD_eq_getElem?_getD]
  obtain ⟨x,hx⟩:=cD (l:=cs) (i:=j) (by omega)
  rw [hx];rfl
 ·cases h
theorem RX {a:Addr} {cs:List Value} {n base:Nat} (h:w.cells? base a n=some cs) (h0:0<n):a.spot=none∧ ∀j,j<n→w.cell? ⟨a.block,a.off+j,none⟩=some (cs.getD j undef):=by
 obtain ⟨hl,hc⟩:=a3H h
 have h1:=hc 0 h0
 have hs:a.spot=none:=by
  unfold Addr.add at h1
  rw [if_pos rfl] at h1
  unfold World.cell? at h1
  split at h1
  ·split at h1
   ·cases h1
   ·rename_i hn;simpa using hn
  ·cases h1
 refine ⟨hs,fun j hj=> ?_⟩
 have:=hc j hj
 unfold Addr.add at this
 obtain ⟨b,o,p⟩:=a
 simp only at hs
 subst hs
 split at this
 ·rename_i e;subst e;simpa using this
 ·exact this
theorem Np {n m:Nat} {cs:List Value} (ih: ∀(t:TypeId) (cs:List Value) (x:DataW H×List MemPlace),pT P n t=true→DataW.trod enc P w 0 sp held m t cs=some x→ ∃vs,cm P n t x.1=some vs∧vs.length=P.cellsOf t∧pA w vs cs):
 ∀(fs:List Field) (xs:List (DataW H×List MemPlace)) (o e:Nat),N6 P o fs=some e→fs.all (fun f=>pT P n f.type)=true→xs.length=fs.length→e≤cs.length→
 (∀(i:Nat) (f:Field),fs[i]? =some f→DataW.trod enc P w 0 sp held m f.type ((cs.drop f.offset).take (P.cellsOf f.type))=xs[i]?)→
 ∃vs,ng (cm P n) fs (xs.map (·.1))=some vs∧o≤e∧vs.length=e-o∧pA w vs ((cs.drop o).take (e-o))
 |[],xs,o,e,hc,hp,hl,he,h=>by
  simp [N6] at hc
  subst hc
  have:xs=[]:=List.eq_nil_of_length_eq_zero (by simpa using hl)
  subst this
  exact ⟨[],rfl,Nat.le_refl _,by simp,by simp,fun i v hi=>by simp at hi⟩
 |f::fs,[],o,e,hc,hp,hl,he,h=>by simp at hl
 |f::fs,x::xs,o,e,hc,hp,hl,he,h=>by
  simp only [N6] at hc
  split at hc
  ·rename_i ho
   simp only [List.all_cons,Bool.and_eq_true] at hp
   obtain ⟨vs2,g1,g2,g3,g4⟩:=Np ih fs xs _ e hc hp.2 (by simpa using hl) he (fun i f' hf=>h (i+1) f' (by simpa using hf))
   have h0:=h 0 f rfl
   simp only [List.getElem?_cons_zero] at h0
   obtain ⟨vs1,k1,k2,k3⟩:=ih f.type _ x hp.1 h0
   refine ⟨vs1++vs2,by simp [ng,k1,g1],by omega,by simp [k2,g3];omega, ?_⟩
   have:(cs.drop o).take (e-o)=(cs.drop f.offset).take (P.cellsOf f.type)++(cs.drop (o+P.cellsOf f.type)).take (e-(o+P.cellsOf f.type)):=by
    rw [ho,show e-o=P.cellsOf f.type+(e-(o+P.cellsOf f.type)) by omega,List.take_add,List.drop_drop]
   rw [this]
   exact k3.append g4
  ·cases hc
theorem GV: ∀{n fuel:Nat} {t:TypeId} {cs:List Value} {x:DataW H×List MemPlace},pT P n t=true→DataW.trod enc P w 0 sp held fuel t cs=some x→
 ∃vs,cm P n t x.1=some vs∧vs.length=P.cellsOf t∧pA w vs cs
 |0,fuel,t,cs,x,hp,h=>by simp [pT] at hp
 |n+1,fuel,t,cs,x,hp,h=>by
  simp only [pT] at hp
  cases hu:P.underlying t with
  |none=>rw [hu] at hp;cases hp
  |some d=>
   rw [hu] at hp
   cases d with
   |bool=>
    simp only [beq_iff_eq] at hp
    obtain ⟨b,rfl,rfl⟩:=DataW.trod_bool hu h
    exact ⟨[.lit (.bool b)],by simp [cm,hu],by simp [hp],pA.one rfl rfl (@an.lit gY _ _ _ _)⟩
   |int k=>
    simp only [beq_iff_eq] at hp
    obtain ⟨m,rfl,rfl,hw⟩:=DataW.trod_int hu h
    exact ⟨[.lit (.int k m)],by simp [cm,hu,hw],by simp [hp],pA.one rfl rfl (@an.lit gY _ _ _ _)⟩
   |string=>
    simp only [beq_iff_eq] at hp
    obtain ⟨s,rfl,rfl,hl⟩:=DataW.trod_string hu h
    exact ⟨[.lit (.string s)],by simp [cm,hu];exact hl,by simp [hp],pA.one rfl rfl (@an.lit gY _ _ _ _)⟩
   |slice e=>
    simp only [Bool.and_eq_true,beq_iff_eq,decide_eq_true_eq] at hp
    obtain ⟨⟨p1,p2⟩,p3⟩:=hp
    rcases DataW.trod_slice hu h with ⟨rfl,rfl⟩|⟨a,len,cap,elems,rest,m,rfl,rfl,rfl,hb,hlc,hcm,hel,hat,_⟩
    ·exact ⟨[.imm 1 []],by simp [cm,hu],by simp [p1],pA.one rfl rfl (@an.imm0 gY _ _ _ 1 none 0 (by decide))⟩
    ·have each: ∀i,i<len→ ∃cs x vs,w.cells? 0 (a.add (i*P.cellsOf e)) (P.cellsOf e)=some cs∧elems[i]? =some x∧cm P n e x.1=some vs∧vs.length=P.cellsOf e∧pA w vs cs:=by
      intro i hi
      have h1:=hat i hi
      obtain ⟨x,hx⟩:=cD (l:=elems) (i:=i) (by omega)
      rw [hx] at h1
      cases hcs:w.cells? 0 (a.add (i*P.cellsOf e)) (P.cellsOf e) with
      |none=>rw [hcs] at h1;cases h1
      |some cs=>
       rw [hcs] at h1
       obtain ⟨vs,g1,g2,g3⟩:=GV p3 h1
       exact ⟨cs,x,vs,rfl,hx,g1,g2,g3⟩
     obtain ⟨rows,r1,r2,r3⟩:=XM (g:=cm P n e) (es:=elems.map (·.1)) (fun d hd=>by
      obtain ⟨x,hx,rfl⟩:=List.mem_map.1 hd
      obtain ⟨i,hi,rfl⟩:=List.getElem_of_mem hx
      obtain ⟨cs,x,vs,_,g2,g3,_⟩:=each i (by omega)
      rw [List.getElem?_eq_getElem hi] at g2
      cases g2
      exact ⟨vs,g3⟩)
     have rl:rows.length=len:=by rw [r2];simpa using hel
     have rowAt: ∀i row,rows[i]? =some row→ ∃cs,w.cells? 0 (a.add (i*P.cellsOf e)) (P.cellsOf e)=some cs∧row.length=P.cellsOf e∧pA w row cs:=by
      intro i row hr
      have hi:=bT hr
      obtain ⟨cs,x,vs,g1,g2,g3,g4,g5⟩:=each i (by omega)
      have:=r3 i x.1 row (by simp [g2]) hr
      rw [g3] at this
      cases this
      exact ⟨cs,g1,g4,g5⟩
     refine ⟨[(V.imm (P.cellsOf e) rows).cz], ?_,by simp [p1],pA.one (a1s rfl) (GC rfl) (@an.cz gY _ _ _ _ _ ?_)⟩
     ·simp only [cm,hu,List.length_map,r1]
      rw [if_pos (by omega)]
     ·by_cases h0:rows=[]
      ·subst h0
       have:len=0:=by rw [←rl];rfl
       subst this
       exact @an.imm0 gY yt wk w (P.cellsOf e) (some a) cap (by omega)
      ·have hpos:0<rows.length:=by cases rows with
        |nil=>exact absurd rfl h0
        |cons x y=>simp
       obtain ⟨row0,hr0⟩:=cD hpos
       obtain ⟨cs0,c0,_,_⟩:=rowAt 0 row0 hr0
       rw [Nat.zero_mul] at c0
       have hadd0:a.add 0=a:=by unfold Addr.add;rw [if_pos rfl]
       rw [hadd0] at c0
       obtain ⟨hs,hcell0⟩:=RX c0 p2
       have haddr: ∀k,a.add k=⟨a.block,a.off+k,none⟩:=by
        intro k
        obtain ⟨b,o,q⟩:=a
        simp only at hs
        subst hs
        unfold Addr.add
        split
        ·rename_i e0;subst e0;rfl
        ·rfl
       have ha:a=⟨a.block,a.off,none⟩:=by rw [←hadd0,haddr 0]
       have hblk:a.block<w.heap.size:=World.cells?_block c0 p2
       have:= @an.imm gY yt wk w (P.cellsOf e) rows a.block a.off cap (fun i j=>(w.cell? ⟨a.block,a.off+(i*P.cellsOf e+j),none⟩).getD undef) p2 h0 (by omega) hblk
        ⟨fun b hb=>by simp [yt] at hb,fun hf=>hf⟩
        (fun row hrow=>by
         obtain ⟨i,hi,rfl⟩:=List.getElem_of_mem hrow
         obtain ⟨cs,g1,g2,g3⟩:=rowAt i _ (List.getElem?_eq_getElem hi)
         refine ⟨g2,fun v hv=> ?_⟩
         obtain ⟨j,hj,rfl⟩:=List.getElem_of_mem hv
         have:=g3.2 j _ (List.getElem?_eq_getElem hj)
         exact ⟨this.1,this.2.1⟩)
        (fun i j hi hj=>by
         obtain ⟨row,hr⟩:=cD hi
         obtain ⟨cs,g1,g2,g3⟩:=rowAt i row hr
         obtain ⟨_,hc⟩:=RX g1 p2
         have:=hc j hj
         rw [haddr] at this
         simp only [Nat.add_assoc] at this ⊢
         rw [this];rfl)
        (fun i row j v hi hj=>by
         obtain ⟨cs,g1,g2,g3⟩:=rowAt i row hi
         obtain ⟨_,hc⟩:=RX g1 p2
         have h1:=hc j (by rw [←g2];exact bT hj)
         rw [haddr] at h1
         simp only [Nat.add_assoc] at h1 ⊢
         rw [h1]
         exact (g3.2 j v hj).2.2)
       rw [rl, ←ha] at this
       exact this
   |struct fs=>
    simp only [Bool.and_eq_true,beq_iff_eq] at hp
    obtain ⟨xs,m,rfl,rfl,hcl,hxl,hat⟩:=DataW.trod_struct hu h
    obtain ⟨vs,g1,g2,g3,g4⟩:=Np (fun t cs x h1 h2=>GV h1 h2) fs.toList xs 0 _ hp.1 hp.2 (by simpa using hxl) (by omega) (fun i f hf=>hat i f (by simpa using hf))
    refine ⟨vs,by simp only [cm,hu];exact g1,by omega, ?_⟩
    rw [List.drop_zero,Nat.sub_zero, ←hcl,List.take_length] at g4
    exact g4
   |array k e=>
    simp only [Bool.and_eq_true,beq_iff_eq] at hp
    obtain ⟨xs,m,rfl,rfl,hcl,hxl,hat⟩:=DataW.trod_array hu h
    have each: ∀i,i<k→ ∃x vs,xs[i]? =some x∧cm P n e x.1=some vs∧vs.length=P.cellsOf e∧pA w vs ((cs.drop (i*P.cellsOf e)).take (P.cellsOf e)):=by
     intro i hi
     obtain ⟨x,hx⟩:=cD (l:=xs) (i:=i) (by omega)
     obtain ⟨vs,g1,g2,g3⟩:=GV hp.2 ((hat i hi).trans hx)
     exact ⟨x,vs,hx,g1,g2,g3⟩
    have key: ∀(ys:List (DataW H×List MemPlace)) (i:Nat),(∀j,j<ys.length→ys[j]? =xs[i+j]?)→i+ys.length=k→
     ∃rows,AH (cm P n e) (ys.map (·.1))=some rows∧rows.flatten.length=ys.length*P.cellsOf e∧pA w rows.flatten ((cs.drop (i*P.cellsOf e)).take (ys.length*P.cellsOf e)):=by
     intro ys
     induction ys with
     |nil=>intro i _ _;exact ⟨[],rfl,by simp,by simp,fun i v hi=>by simp at hi⟩
     |cons y ys ih=>
      intro i hys hik
      simp only [List.length_cons] at hik
      obtain ⟨rows,q1,q2,q3⟩:=ih (i+1) (fun j hj=>by
       have:=hys (j+1) (by simpa using hj)
       rw [show i+1+j=i+(j+1) by omega, ←this];simp) (by omega)
      obtain ⟨x,vs,g1,g2,g3,g4⟩:=each i (by omega)
      have hy:y=x:=by
       have:=hys 0 (by simp)
       rw [Nat.add_zero,g1] at this
       simpa using this
      subst hy
      refine ⟨vs::rows,by simp [AH,g2,q1],by simp [q2,g3,Nat.add_mul];omega, ?_⟩
      rw [List.flatten_cons,List.length_cons,Nat.add_mul,Nat.one_mul,Nat.add_comm (ys.length*P.cellsOf e),List.take_add,List.drop_drop]
      rw [Nat.add_mul,Nat.one_mul] at q3
      exact g4.append q3
    obtain ⟨rows,q1,q2,q3⟩:=key xs 0 (fun j _=>by rw [Nat.zero_add]) (by omega)
    refine ⟨rows.flatten, ?_,by rw [q2,hxl,hp.1], ?_⟩
    ·simp only [cm,hu,List.length_map,q1]
     rw [if_pos hxl]
    ·rw [Nat.zero_mul,List.drop_zero,hxl,hp.1, ←hcl,List.take_length] at q3
     exact q3
   |_=>cases hp
def JV (P:Program) (n:Nat) (t:TypeId) (d:DataW H):Option V:=match cm P n t d with
 |some vs=>(match P.underlying t with
  |some (.struct _)|some (.array _ _)=>some (.agg vs)
  |_=>vs.head?)
 |none=>none
def Ay (P:Program) (n:Nat):List TypeId→List (DataW H)→Option (List V)
 |[],[]=>some []
 |t::ts,d::ds=>match JV P n t d,Ay P n ts ds with
  |some v,some vs=>some (v::vs)
  |_,_=>none
 |_,_=>none
theorem Wg {x:Value} (h:ba x=true):x.cells.toList=[x]:=by rw [hJ h]
theorem b4p {n:Nat} {t:TypeId} {v:Value} {d:DataW H} {ps:List MemPlace} {r:Go.Reach} {b:Nat} (hp:pT P n t=true) (hok:Value.okWide P w r b t v) (h:DataW.Trod enc P w 0 sp held t v d ps):
 ∃a,JV P n t d=some a∧ @an gY yt wk w a v:=by
 obtain ⟨fuel,hf⟩:=h
 obtain ⟨vs,h1,h2,h3⟩:=GV hp hf
 have aggs: ∀cs,v= .agg cs→ @an gY yt wk w (.agg vs) v:=by
  intro cs e
  subst e
  refine @an.agg gY yt wk w vs cs (by have:=h3.1;simp [Value.cells] at this;exact this.symm) (fun u hu=> ?_) (fun i u hi=> ?_)
  ·obtain ⟨i,hi,rfl⟩:=List.getElem_of_mem hu
   exact (h3.2 i _ (List.getElem?_eq_getElem hi)).2.1
  ·have:=(h3.2 i u hi).2.2
   simpa [Value.cells,List.getD_eq_getElem?_getD,Array.getD_eq_getD_getElem?] using this
 have ones:P.cellsOf t=1→ba v=true→vs.head?=some (vs.headD .undef)∧ @an gY yt wk w (vs.headD .undef) v:=by
  intro e hl
  match vs,h2 with
  |[u],_=>
   refine ⟨rfl, ?_⟩
   have:=(h3.2 0 u rfl).2.2
   rw [Wg hl] at this
   exact this
  |[],h=>rw [e] at h;cases h
  |_::_::_,h=>rw [e] at h;simp at h
 cases n with
 |zero=>simp [pT] at hp
 |succ n=>
  simp only [pT] at hp
  unfold JV
  rw [h1]
  unfold Value.okWide at hok
  cases hu:P.underlying t with
  |none=>rw [hu] at hp;cases hp
  |some td=>
   rw [hu] at hp hok
   cases td with
   |struct fs=>obtain ⟨cs,e,_⟩:=hok;exact ⟨_,rfl,aggs cs e⟩
   |array k e=>obtain ⟨cs,e,_⟩:=hok;exact ⟨_,rfl,aggs cs e⟩
   |bool=>
    simp only [beq_iff_eq] at hp
    have hl:ba v=true:=by
     simp only [Cell.okWide,Cell.ok,hu] at hok
     cases v<;>simp_all [ba]
    exact ⟨_,(ones hp hl).1,(ones hp hl).2⟩
   |int k=>
    simp only [beq_iff_eq] at hp
    have hl:ba v=true:=by
     simp only [Cell.okWide,Cell.ok,hu] at hok
     cases v<;>simp_all [ba]
    exact ⟨_,(ones hp hl).1,(ones hp hl).2⟩
   |string=>
    simp only [beq_iff_eq] at hp
    have hl:ba v=true:=by
     simp only [Cell.okWide,Cell.ok,hu] at hok
     cases v<;>simp_all [ba]
    exact ⟨_,(ones hp hl).1,(ones hp hl).2⟩
   |slice e=>
    simp only [Bool.and_eq_true,beq_iff_eq] at hp
    have hl:ba v=true:=by
     simp only [Cell.okWide,Cell.ok,hu] at hok
     cases v<;>simp_all [ba]
    exact ⟨_,(ones hp.1.1 hl).1,(ones hp.1.1 hl).2⟩
   |_=>cases hp
theorem UI {n:Nat} {r:Go.Reach} {b:Nat}: ∀{ts:List TypeId} {vs:List Value} {ds:List (DataW H)} {ps:List MemPlace},ts.all (pT P n)=true→(∀(j:Nat) t v,ts[j]? =some t→vs[j]? =some v→Value.okWide P w r b t v)→
 DataW.TrodAll enc P w 0 sp held ts vs ds ps→ ∃as,Ay P n ts ds=some as∧as.length=vs.length∧ds.length=ts.length∧ ∀(i:Nat) (a:V),as[i]? =some a→ @an gY yt wk w a (vs.getD i undef)
 |[],[],[],ps,_,_,_=>⟨[],rfl,rfl,rfl,fun i a h=>by simp at h⟩
 |t::ts,v::vs,d::ds,ps,hp,hok,h=>by
  obtain ⟨p,q,h1,h2,_⟩:=h
  simp only [List.all_cons,Bool.and_eq_true] at hp
  obtain ⟨a,a1,a2⟩:=b4p hp.1 (hok 0 t v rfl rfl) h1
  obtain ⟨as,b1,b2,b3,b4⟩:=UI hp.2 (fun j t v h3 h4=>hok (j+1) t v (by simpa using h3) (by simpa using h4)) h2
  refine ⟨a::as,by simp [Ay,a1,b1],by simp [b2],by simp [b3],fun i u hu=> ?_⟩
  cases i with
  |zero=>simp at hu;subst hu;exact a2
  |succ i=>exact b4 i u (by simpa using hu)
 |[],[],_::_,_,_,_,h=>by simp [DataW.TrodAll] at h
 |[],_::_,_,_,_,_,h=>by simp [DataW.TrodAll] at h
 |_::_,[],_,_,_,_,h=>by simp [DataW.TrodAll] at h
 |_::_,_::_,[],_,_,_,h=>by simp [DataW.TrodAll] at h
theorem Ea (hl:laidOutB P=true) {W W':World} (hb:Below W.heap.size W W'): ∀{ts:List TypeId} {vs:List Value} {ds:List (DataW H)} {ps:List MemPlace},ts.all (fun t=>P.readableRec t&&decide (t<P.types.size))=true→
 DataW.TrodAll enc P W 0 (fun _=>true) true ts vs ds ps→DataW.TrodAll enc P W' 0 (fun b=>decide (b<W.heap.size)) true ts vs ds ps
 |[],[],[],ps,_,h=>h
 |t::ts,v::vs,d::ds,ps,hr,h=>by
  have hlt:=DataW.TrodAll.lt h
  obtain ⟨p,q,h1,h2,rfl⟩:=h
  simp only [List.all_cons,Bool.and_eq_true,decide_eq_true_eq] at hr
  exact ⟨p,q,Below.trod hl hr.1.1 hr.1.2 h1 hb (fun x hx=>hlt x (List.mem_append_left _ hx)),Ea hl hb hr.2 h2,rfl⟩
 |[],[],_::_,_,_,h=>by simp [DataW.TrodAll] at h
 |[],_::_,_,_,_,h=>by simp [DataW.TrodAll] at h
 |_::_,[],_,_,_,h=>by simp [DataW.TrodAll] at h
 |_::_,_::_,[],_,_,h=>by simp [DataW.TrodAll] at h
theorem Yz (w:World): @aI gY yt (aN []) w:=
 @aI.mk gY yt (aN []) w (fun _ _ _ h=>by simp [yt] at h) (fun _ _ h=>by simp [yt] at h) (fun _ _ h=>by simp [aN] at h) (fun _ _ h=>by simp [aN] at h) (fun _ _ h=>by simp [yt] at h) (fun _ h=>h.elim)
theorem a5u {T:Tab} {ow:cy} (hT:xv P T) {f:FuncId} {fn:Func} {n:Nat} {s:ChangeSpec} {tb:TypeId} {af:al} (haf:T f=some (.code af)) (hfn:P.funcs[f]? =some fn) (hplain:fn.params.toList.all (pT P n)=true)
 (hlaid:laidOutB P=true) (hread:fn.params.toList.all (fun t=>P.readableRec t&&decide (t<P.types.size))=true) (hres:fn.resultTypes= #[tb]) (hbool:P.underlying tb=some .bool) (hvars:s.vars=[])
 (hspec: ∀ds:List (DataW H),ds.length=fn.params.size→s.fn H ds={ results:=[.lit (.bool true)],args:=ds })
 {W:World} {b:Nat} {args:Array Value} {ds gs:List (DataW H)} {before:List MemPlace} (hval: ∀(j:Nat) t v,fn.params[j]? =some t→args[j]? =some v→Value.okWide P W .any b t v)
 (hW:DataW.Whole enc P fn.params.toList s.vars false W args.toList ds gs before)
 (hlaw: ∀as,Ay P n fn.params.toList ds=some as→Call T ow f as []=some (.lit (.bool true),[])):
 Calls P f args W fun e W'=> ∃v,e= .returned v∧s.post enc P fn false true false false W args v W':=by
 have hW':=hW
 obtain ⟨p,q,hA,hV,rfl,hfz,hnd⟩:=hW
 obtain ⟨as,h1,h2,h3,h4⟩:=UI (r:= .any) (b:=b) hplain (fun j t v g1 g2=>hval j t v (by simpa using g1) (by simpa using g2)) hA
 have hgs:gs=[]:=by
  rw [hvars] at hV
  cases gs with
  |nil=>rfl
  |cons a b=>simp [DataW.TrodVars] at hV
 subst hgs
 have hcall:=vk hT f as [] _ _ (hlaw as h1) gY yt W args (Yz W) (by rw [h2,Array.length_toList]) (fun i a hi=>by
  have:=h4 i a hi
  have e:aN []=wk:=by funext i;simp [aN,wk]
  rw [e]
  rw [List.getD_eq_getElem?_getD] at this
  rw [Array.getD_eq_getD_getElem?, ←Array.getElem?_toList]
  exact this)
 rcases hcall with ⟨x,w',hrun,_⟩|⟨_,hc⟩
 ·exfalso
  obtain ⟨fn',hn,hfn',hname,hcomp⟩:=hT.code f af haf
  have hb:fn'.body≠none:=by
   intro hb
   unfold mG at hcomp
   rw [hb] at hcomp
   cases hcomp
  have hname': ¬fn'.name= "runtime.NumGoroutine" :=by simpa using hname
  have hp:(program).run P W= .ok P W:=rfl
  simp [callFunc,Sem.run_bind,hp,hfn',hname',hb] at hrun
 ·refine hc.mono (fun e W' he=> ?_)
  cases e with
  |returned v=>
   obtain ⟨μ',H',C',V',_,_⟩:=he
   have hv:v= .bool true:=by
    cases V'
    rfl
   subst hv
   have ev:=JN C'
   have hbel:Below W.heap.size W W':=⟨b8r ev,Zs ev,b1Z ev,Rx ev,fun k hk=>(ZD ev k hk ⟨fun b hb=>by simp [yt] at hb,fun h=>h⟩).1⟩
   refine ⟨_,rfl,ds,[],p++q,[],p,[],hW', ?_, ?_, ?_,hbel.frame _,fun h=>by cases h⟩
   ·rw [List.append_nil,hspec ds (by simpa using h3),hres]
    exact trodAll_mk1 (shut_bool hbool true)
   ·rw [List.append_nil,hspec ds (by simpa using h3)]
    exact Ea hlaid hbel hread hA
   ·rw [List.append_nil,hspec ds (by simpa using h3),hvars]
    rfl
  |panicked c=>exact he.elim
  |outgrown=>exact he.elim
end
end Go.AI
set_option linter.unusedVariables false
namespace Go.AI
def IX (k:FuncId) (a:al):Tab:=fun f=>if f=k then some (.code a) else none
def K5:cy:=fun _=>[]
theorem K9 (k:FuncId) (a:al):IX k a k=some (.code a):=by simp [IX]
theorem Mj {P:Program} {k:FuncId} {a:al} (h: ∃fn hn,P.funcs[k]? =some fn∧(fn.name== "runtime.NumGoroutine")=false∧mG P fn hn=some a):xv P (IX k a):=by
 refine ⟨fun f af hf=> ?_,fun f g hf=> ?_⟩
 ·unfold IX at hf
  split at hf
  ·rename_i e;cases hf;subst e;exact h
  ·cases hf
 ·unfold IX at hf
  split at hf
  ·cases hf
  ·cases hf
theorem MU {T:Tab} {ow:cy} {f:FuncId} {g:List V→List Blk→Option (V×List Blk)} (hT:T f=some (.ext g)) (a:List V) (b:List Blk):Call T ow f a b=g a b:=by
 rw [a2y,hT]
def Kg (P:Program) (f:FuncId) (g:List V→List Blk→Option (V×List Blk)):Prop:=
 ∀args blks r blks',g args blks=some (r,blks')→ ∀(F:Frame) (μ:Mu) (w:World) (xs:Array Value), @aI F μ (aN blks) w→xs.size=args.length→
  (∀(i:Nat) (v:V),args[i]? =some v→ @an F μ (aN blks) w v (xs.getD i undef))→Reach P f xs w (ja F μ (aN blks) w r blks')
noncomputable def a9r (k:FuncId) (a:al):List V→List Blk→Option (V×List Blk)
 |[.imm _ []],[]=>some (.imm 1 [],[])
 |[.imm e (r::rs)],[]=>Call (IX k a) K5 k [.imm e (r::rs)] []
 |_,_=>none
theorem c2I {P:Program} {k:FuncId} {a:al} (h: ∃fn hn,P.funcs[k]? =some fn∧(fn.name== "runtime.NumGoroutine")=false∧mG P fn hn=some a)
 (he: ∀ad cap,Call (IX k a) K5 k [.lit (.slice ad 0 cap)] []=some (.imm 1 [],[])):
 ∀args blks r blks',a9r k a args blks=some (r,blks')→ ∀(F:Frame) (μ:Mu) (w:World) (xs:Array Value), @aI F μ (aN blks) w→xs.size=args.length→
 (∀(i:Nat) (v:V),args[i]? =some v→ @an F μ (aN blks) w v (xs.getD i undef))→Reach P k xs w (ja F μ (aN blks) w r blks'):=by
 intro args blks r blks' hg F μ w xs H hl hv
 have hs:=vk (ow:=K5) (Mj h)
 unfold a9r at hg
 split at hg
 ·cases hg
  have h0:=hv 0 _ rfl
  generalize hX:xs.getD 0 undef=X at h0
  have hlit: ∃ad cap,X= .slice ad 0 cap:=by
   cases h0 with
   |emp ad=>exact ⟨ad,0,rfl⟩
   |imm0 _ ad cap=>exact ⟨ad,cap,rfl⟩
   |imm _ _ _ _ _ _ _ hr=>exact absurd rfl hr
  obtain ⟨ad,cap,rfl⟩:=hlit
  refine hs k [.lit (.slice ad 0 cap)] [] _ _ (he ad cap) F μ w xs H hl (fun i v hi=> ?_)
  cases i with
  |zero=>simp at hi;subst hi;rw [hX];exact @an.lit F _ _ _ _
  |succ i=>simp at hi
 ·exact hs k _ _ _ _ hg F μ w xs H hl hv
 ·cases hg
end Go.AI
namespace Go.AI
noncomputable def UC (k:FuncId) (a:al) (m:Nat):List V→List Blk→Option (V×List Blk)
 |[.imm _ []],[]=>some (.sl 0 0 0,[⟨m,false,[]⟩])
 |[.imm e (r::rs)],[]=>Call (IX k a) K5 k [.imm e (r::rs)] []
 |_,_=>none
theorem a68 {P:Program} {k:FuncId} {a:al} {m:Nat} (h: ∃fn hn,P.funcs[k]? =some fn∧(fn.name== "runtime.NumGoroutine")=false∧mG P fn hn=some a)
 (hn: ∀cap, ∃n,ik a 0 (bL (cS (IX k a) K5 n) K5 n a.body (start [.lit (.slice none 0 cap)] []))=some (.lit (.slice none 0 0),[]))
 (he: ∀ad cap,Call (IX k a) K5 k [.lit (.slice (some ad) 0 cap)] []=some (.sl 0 0 0,[⟨m,false,[]⟩])):
 ∀args blks r blks',UC k a m args blks=some (r,blks')→ ∀(F:Frame) (μ:Mu) (w:World) (xs:Array Value), @aI F μ (aN blks) w→xs.size=args.length→
 (∀(i:Nat) (v:V),args[i]? =some v→ @an F μ (aN blks) w v (xs.getD i undef))→Reach P k xs w (ja F μ (aN blks) w r blks'):=by
 intro args blks r blks' hg F μ w xs H hl hv
 have hs:=vk (ow:=K5) (Mj h)
 unfold UC at hg
 split at hg
 ·cases hg
  have h0:=hv 0 _ rfl
  generalize hX:xs.getD 0 undef=X at h0
  have hlit: ∃ad cap,X= .slice ad 0 cap:=by
   cases h0 with
   |emp ad=>exact ⟨ad,0,rfl⟩
   |imm0 _ ad cap=>exact ⟨ad,cap,rfl⟩
   |imm _ _ _ _ _ _ _ hr=>exact absurd rfl hr
  obtain ⟨ad,cap,rfl⟩:=hlit
  have hv': ∀(i:Nat) (v:V),([.lit (.slice ad 0 cap)]:List V)[i]? =some v→ @an F μ (aN []) w v (xs.getD i undef):=by
   intro i v hi
   cases i with
   |zero=>simp at hi;subst hi;rw [hX];exact @an.lit F _ _ _ _
   |succ i=>simp at hi
  cases ad with
  |some ad=>exact hs k [.lit (.slice (some ad) 0 cap)] [] _ _ (he ad cap) F μ w xs H hl hv'
  |none=>
   obtain ⟨n,hn⟩:=hn cap
   have hp:=P9 (ow:=K5) (Mj h) (wR (Mj h) n) (K9 k a) hn H hl hv'
   refine hp.mono (fun x w' hp=> ?_)
   obtain ⟨μ',H1,C1,V1,_,_⟩:=hp
   have hx:=bF V1
   subst hx
   have hb:aN [(⟨m,false,[]⟩:Blk)]=aW (aN []) 0 ⟨m,false,[]⟩:=by
    funext i
    unfold aW
    cases i<;>rfl
   obtain ⟨q1,q2⟩:= @aI.newNil F _ _ _ H1 0 m rfl
   refine ⟨μ',by rw [hb];exact q1,by rw [hb];exact @Chg.trans _ _ _ F _ _ _ _ _ _ C1 q2, ?_,rfl,fun k hk=>by simp at hk;subst hk;exact fun h=>by cases h⟩
   exact @an.sl F _ _ _ 0 0 0 _ ⟨m,false,[]⟩ rfl (.inr (Nat.le_refl _)) ⟨_,_,rfl⟩ (fun _ _=>⟨_,_,rfl,.inl ⟨rfl,rfl⟩⟩)
 ·exact hs k _ _ _ _ hg F μ w xs H hl hv
 ·cases hg
end Go.AI
