/- The operations of the abstract machine and the model's. Third part: aggregates, numbers, texts. -/
import Derived.Test.YtdmhkkcihecndaaGreatAiOps2
set_option linter.unusedVariables false
set_option linter.unusedSimpArgs false
namespace Go.AI
section
variable {P:Program} {μ:Mu} {h:ak} {w:World} {f:Nat→V} {a:Act}
theorem Ww {α β:Type} (g:α→Sem β) (gv:α→β) (w:World): ∀(l:List α),(∀x∈l,(g x).run P w= .ok (gv x) w)→(l.mapM g).run P w= .ok (l.map gv) w
 |[],_=>by simp
 |x::l,hl=>by
  rw [List.mapM_cons]
  have h1:=hl x (by simp)
  have h2:=Ww g gv w l (fun y hy=>hl y (by simp [hy]))
  simp [h1,h2]
def FB [Frame] (μ:Mu) (h:ak) (w:World) (cs:List V) (arr:Array Value):Prop:=
 arr.size=cs.length∧(∀v∈cs,v.cell=true)∧ ∀j v,cs[j]? =some v→aj μ h w v (arr.getD j undef)
theorem a6n (xs:List Value) (off n:Nat): ∀(arr:Array Value),off+n+xs.length≤arr.size→
 ((xs.zipIdx n).foldl (fun cs (p:Value×Nat)=>cs.setIfInBounds (off+p.2) p.1) arr).size=arr.size∧
 ∀j,((xs.zipIdx n).foldl (fun cs (p:Value×Nat)=>cs.setIfInBounds (off+p.2) p.1) arr).getD j undef=
  if off+n≤j∧j<off+n+xs.length then xs.getD (j-(off+n)) undef else arr.getD j undef:=by
 induction xs generalizing n with
 |nil=>intro arr _;exact ⟨rfl,fun j=>by rw [if_neg (by simp only [List.length_nil];omega)];rfl⟩
 |cons x xs ih=>
  intro arr hle
  simp only [List.length_cons] at hle
  simp only [List.zipIdx_cons,List.foldl_cons]
  obtain ⟨h1,h2⟩:=ih (n+1) (arr.setIfInBounds (off+n) x) (by rw [Array.size_setIfInBounds];omega)
  refine ⟨by rw [h1,Array.size_setIfInBounds],fun j=> ?_⟩
  rw [h2 j]
  simp only [List.length_cons]
  by_cases e:j=off+n
  ·subst e
   rw [if_neg (by omega),if_pos (by omega)]
   have hi:off+n<arr.size:=by omega
   simp [hi]
  ·have hne:(arr.setIfInBounds (off+n) x).getD j undef=arr.getD j undef:=by
    rw [Array.getD_eq_getD_getElem?,Array.getD_eq_getD_getElem?,Array.getElem?_setIfInBounds_ne (Ne.symm e)]
   rw [hne]
   by_cases h3:off+(n+1)≤j∧j<off+(n+1)+xs.length
   ·rw [if_pos h3,if_pos (by omega)]
    have:j-(off+n)=(j-(off+(n+1)))+1:=by omega
    rw [this];simp
   ·rw [if_neg h3,if_neg (by omega)]
theorem Fq [Frame] (x:Array Value) (off:Nat) (arr:Array Value) (hle:off+x.size≤arr.size):
 (x.zipIdx.foldl (fun cs (p:Value×Nat)=>cs.setIfInBounds (off+p.2) p.1) arr).size=arr.size∧
 ∀j,(x.zipIdx.foldl (fun cs (p:Value×Nat)=>cs.setIfInBounds (off+p.2) p.1) arr).getD j undef=
  if off≤j∧j<off+x.size then x.getD (j-off) undef else arr.getD j undef:=by
 have:=a6n x.toList off 0 arr (by simpa using hle)
 rw [←Array.foldl_toList,Array.toList_zipIdx]
 refine ⟨this.1,fun j=> ?_⟩
 rw [this.2 j]
 simp only [Nat.add_zero,Array.length_toList]
 by_cases hc:off≤j∧j<off+x.size
 ·rw [if_pos hc,if_pos hc];simp [List.getD_eq_getElem?_getD,Array.getD_eq_getD_getElem?]
 ·rw [if_neg hc,if_neg hc]
theorem Kk [Frame] (place:Nat→Option (Nat×Nat)): ∀(ps:List (Nat×Value)) (qs:List (Nat×Nat×V)) (cs cs':List V) (arr:Array Value),
 FB μ h w cs arr→Da cs qs=some cs'→ps.length=qs.length→
 (∀(j:Nat) (p:Nat×Value) (q:Nat×Nat×V),ps[j]? =some p→qs[j]? =some q→place p.1=some (q.1,q.2.1)∧aj μ h w q.2.2 p.2)→
 ∃arr',Instr.fill place arr ps=some arr'∧FB μ h w cs' arr'
 |[],[],cs,cs',arr,hc,hf,_,_=>by simp [Da] at hf;subst hf;exact ⟨arr,rfl,hc⟩
 |[],_::_,_,_,_,_,_,hl,_=>by simp at hl
 |_::_,[],_,_,_,_,_,hl,_=>by simp at hl
 |p::ps,q::qs,cs,cs',arr,hc,hf,hl,hr=>by
  obtain ⟨i,x⟩:=p
  obtain ⟨off,size,v⟩:=q
  obtain ⟨hpl,hv⟩:=hr 0 (i,x) (off,size,v) rfl rfl
  simp only [Da] at hf
  split at hf
  ·rename_i hcond
   obtain ⟨c1,c2,c3⟩:=hcond
   obtain ⟨g1,g2⟩:=hv.cellsRel c3
   obtain ⟨a1,a2,a3⟩:=hc
   dsimp only at hpl g1 g2
   obtain ⟨s1,s2⟩:=Fq x.cells off arr (by omega)
   have hnew:FB μ h w (cs.take off++(v.cells++cs.drop (off+size))) (x.cells.zipIdx.foldl (fun cs (p:Value×Nat)=>cs.setIfInBounds (off+p.2) p.1) arr):=by
    refine ⟨?_,fun u hu=> ?_,fun j u hj=> ?_⟩
    ·rw [s1,a1, ←c1,AS _ _ _ (by omega)]
    ·rcases List.mem_append.1 hu with hu|hu
     ·exact a2 u (List.mem_of_mem_take hu)
     ·rcases List.mem_append.1 hu with hu|hu
      ·exact List.all_eq_true.1 c3 u hu
      ·exact a2 u (List.mem_of_mem_drop hu)
    ·rw [←c1,pC _ _ _ (by omega)] at hj
     rw [s2 j]
     by_cases hin:off≤j∧j<off+v.cells.length
     ·rw [if_pos hin] at hj
      rw [if_pos (by omega)]
      exact g2 _ u hj
     ·rw [if_neg hin] at hj
      rw [if_neg (by omega)]
      exact a3 j u hj
   obtain ⟨arr',hfill,hrel⟩:=Kk place ps qs _ cs' _ hnew hf (by simpa using hl) (fun j p q hp hq=>hr (j+1) p q (by simpa using hp) (by simpa using hq))
   refine ⟨arr', ?_,hrel⟩
   simp only [Instr.fill,hpl]
   rw [if_neg (by
    intro hcon
    simp only [Bool.or_eq_true,decide_eq_true_eq,ne_eq,gt_iff_lt] at hcon
    rcases hcon with h1|h1
    ·omega
    ·omega)]
   exact hfill
  ·cases hf
theorem WH [Frame] {z:List Value} {zv:Value} (hz:zv.cells.toList=z) (hall:z.all aN=true):FB μ h w (z.map .lit) zv.cells:=by
 refine ⟨by rw [List.length_map, ←hz];simp,fun v hv=> ?_,fun j v hj=> ?_⟩
 ·obtain ⟨y,hy,rfl⟩:=List.mem_map.1 hv;exact List.all_eq_true.1 hall y hy
 ·rw [List.getElem?_map] at hj
  cases hy:z[j]? with
  |none=>rw [hy] at hj;cases hj
  |some y=>
   rw [hy] at hj;cases hj
   have:zv.cells[j]? =some y:=by rw [←Array.getElem?_toList,hz];exact hy
   simp only [Array.getD_eq_getD_getElem?,this,Option.getD_some]
   exact .lit y
theorem Ix [Frame] (E:dN μ h w f a) {fs:List Field}: ∀{ps:List (Nat×Operand)} {qs:List (Nat×Nat×Opd)},Bx P fs ps=some qs→
 qs.length=ps.length∧ ∀(j:Nat) (p:Nat×Operand) (q:Nat×Nat×Opd),ps[j]? =some p→qs[j]? =some q→(∃fd:Field,fs[p.1]? =some fd∧fd.offset=q.1∧fF P fd.type=some q.2.1)∧aj μ h w (q.2.2.ev f) (a.eval p.2)
 |[],qs,hq=>by simp [Bx] at hq;subst hq;exact ⟨rfl,fun j p q hp=>by simp at hp⟩
 | (i,x)::ps,qs,hq=>by
   simp only [Bx] at hq
   split at hq
   ·rename_i fd y r' h1 h2 h3
    split at hq
    ·rename_i s hs
     cases hq
     obtain ⟨l,r⟩:=Ix E h3
     refine ⟨by simp [l],fun j p q hp hqj=> ?_⟩
     cases j with
     |zero=>simp at hp hqj;subst hp;subst hqj;exact ⟨⟨fd,h1,rfl,hs⟩,aS E h2⟩
     |succ j=>exact r j p q (by simpa using hp) (by simpa using hqj)
    ·cases hq
   ·cases hq
theorem Ko [Frame] (E:dN μ h w f a) {s:Nat}: ∀{ps:List (Nat×Operand)} {qs:List (Nat×Nat×Opd)},Gx s ps=some qs→
 qs.length=ps.length∧ ∀(j:Nat) (p:Nat×Operand) (q:Nat×Nat×Opd),ps[j]? =some p→qs[j]? =some q→(p.1*s=q.1∧s=q.2.1)∧aj μ h w (q.2.2.ev f) (a.eval p.2)
 |[],qs,hq=>by simp [Gx] at hq;subst hq;exact ⟨rfl,fun j p q hp=>by simp at hp⟩
 | (i,x)::ps,qs,hq=>by
   simp only [Gx] at hq
   split at hq
   ·rename_i y r' h2 h3
    cases hq
    obtain ⟨l,r⟩:=Ko E h3
    refine ⟨by simp [l],fun j p q hp hqj=> ?_⟩
    cases j with
    |zero=>simp at hp hqj;subst hp;subst hqj;exact ⟨⟨rfl,rfl⟩,aS E h2⟩
    |succ j=>exact r j p q (by simpa using hp) (by simpa using hqj)
   ·cases hq
theorem zO (ev:Opd→V): ∀(qs:List (Nat×Nat×Opd)),(ej ev qs).length=qs.length∧ ∀(j:Nat) (q:Nat×Nat×V),(ej ev qs)[j]? =some q→ ∃q0:Nat×Nat×Opd,qs[j]? =some q0∧q=(q0.1,q0.2.1,ev q0.2.2)
 |[]=>⟨rfl,fun j q h=>by simp [ej] at h⟩
 | (x,y,z)::qs=>by
   obtain ⟨l,r⟩:=zO ev qs
   refine ⟨by simp [ej,l],fun j q hq=> ?_⟩
   cases j with
   |zero=>simp [ej] at hq;subst hq;exact ⟨_,rfl,rfl⟩
   |succ j=>simp only [ej,List.getElem?_cons_succ] at hq ⊢;exact r j q hq
theorem a1s [Frame] (H:aE μ h w) (E:dN μ h w f a) {o:Oper} {t:TypeId} {ps:Array (Nat×Operand)} {ao:AOp} (hop:o.op= .build t ps) (hc:cN P (.build t ps)=some ao)
 {C:aU} {ow:FuncId→List Nat} {new:Nat} {v:V} {u:Upd} (hs:ai C ow ao (Opd.ev f) h new=some (v,u)):fC P o a μ h w v u:=by
 simp only [cN] at hc
 split at hc
 ·rename_i fs z hu hz
  split at hc
  ·rename_i hall
   cases hq:Bx P fs.toList ps.toList with
   |none=>rw [hq] at hc;cases hc
   |some qs=>
    rw [hq] at hc;cases hc
    simp only [ai] at hs
    split at hs
    ·rename_i hcond
     split at hs
     ·rename_i cs hfill
      cases hs
      obtain ⟨i,zv,hi,hzv,hcs,hzr⟩:=nk hz
      obtain ⟨l1,r1⟩:=Ix (P:=P) E hq
      obtain ⟨l2,r2⟩:=zO (Opd.ev f) qs
      let places:=fs.toList.map fun fd=>(fd.offset,(fF P fd.type).getD 0)
      obtain ⟨arr',hf',hrel⟩:=Kk (fun i=>places[i]?) (ps.toList.map fun p=>(p.1,a.eval p.2)) (ej (Opd.ev f) qs) (z.map .lit) cs zv.cells (WH hcs hcond) hfill (by simp [l1,l2])
       (fun j p q hp hq'=>by
        rw [List.getElem?_map] at hp
        cases hpj:ps.toList[j]? with
        |none=>rw [hpj] at hp;cases hp
        |some p0=>
         rw [hpj] at hp;cases hp
         obtain ⟨q0,hq0,rfl⟩:=r2 j q hq'
         obtain ⟨⟨fd,h1,h2,h3⟩,h4⟩:=r1 j p0 q0 hpj hq0
         refine ⟨?_,h4⟩
         show (fs.toList.map _)[p0.1]? =_
         rw [List.getElem?_map,h1]
         simp [h2,h3])
      have hmap:(Array.mapM (fun f:Field=>Prod.mk f.offset<$>sizeOf f.type) fs).run P w= .ok places.toArray w:=by
       rw [Array.mapM_eq_mapM_toList]
       have:=Ww (P:=P) (fun f:Field=>Prod.mk f.offset<$>sizeOf f.type) (fun fd=>(fd.offset,(fF P fd.type).getD 0)) w fs.toList (fun fd hfd=>by
        have h1:=List.all_eq_true.1 hall fd hfd
        obtain ⟨s,hs⟩:=Option.isSome_iff_exists.1 h1
        simp [dg hs,hs])
       rw [Sem.run_map,this]
       rfl
      refine .quiet H (x:= .agg arr') ?_ (.agg _ _ hrel.1 hrel.2.1 hrel.2.2)
      have e1:(fun x:Nat=>places.toArray[x]?)=fun i=>places[i]? :=by funext i;simp
      simp only [execOp,hop,Instr.build]
      simp [hzr,run_underlying hu]
      rw [hmap]
      simp only [Result.andThen_ok]
      rw [e1,hf']
      rfl
     ·cases hs
    ·cases hs
  ·cases hc
 ·rename_i n e z hu hz
  split at hc
  ·rename_i s hsz
   cases hq:Gx s ps.toList with
   |none=>rw [hq] at hc;cases hc
   |some qs=>
    rw [hq] at hc;cases hc
    simp only [ai] at hs
    split at hs
    ·rename_i hcond
     split at hs
     ·rename_i cs hfill
      cases hs
      obtain ⟨i,zv,hi,hzv,hcs,hzr⟩:=nk hz
      obtain ⟨l1,r1⟩:=Ko E hq
      obtain ⟨l2,r2⟩:=zO (Opd.ev f) qs
      obtain ⟨arr',hf',hrel⟩:=Kk (fun i=>some (i*s,s)) (ps.toList.map fun p=>(p.1,a.eval p.2)) (ej (Opd.ev f) qs) (z.map .lit) cs zv.cells (WH hcs hcond) hfill (by simp [l1,l2])
       (fun j p q hp hq'=>by
        rw [List.getElem?_map] at hp
        cases hpj:ps.toList[j]? with
        |none=>rw [hpj] at hp;cases hp
        |some p0=>
         rw [hpj] at hp;cases hp
         obtain ⟨q0,hq0,rfl⟩:=r2 j q hq'
         obtain ⟨⟨h1,h2⟩,h4⟩:=r1 j p0 q0 hpj hq0
         exact ⟨by simp [h1, ←h2],h4⟩)
      refine .quiet H (x:= .agg arr') ?_ (.agg _ _ hrel.1 hrel.2.1 hrel.2.2)
      simp only [execOp,hop,Instr.build]
      simp [hzr,run_underlying hu,dg hsz]
      rw [hf']
      rfl
     ·cases hs
    ·cases hs
  ·cases hc
 ·cases hc
end
end Go.AI
