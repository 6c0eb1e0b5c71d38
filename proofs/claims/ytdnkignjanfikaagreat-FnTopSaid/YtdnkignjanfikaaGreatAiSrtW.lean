/- Part. -/
import Derived.Test.YtdnkignjanfikaaGreatAiExa
import Derived.Test.YtdnkignjanfikaaGreatAiSrt
import Derived.Shelf.SlSortCmp.NoneTotal
set_option linter.unusedVariables false
set_option linter.unusedSimpArgs false
namespace Go.AI
open Go.Sort Go.Proofs Go.Shelf Go.Lib Go.RowKit
def Ck (t:Tri):List Value:=[.int .i64 t.1,.int .i64 t.2.1,.int .i64 t.2.2]
theorem a0c:(Go.Proofs.ltOf mcf)=Af:=by funext x y;exact c2w x y
theorem b9S:SWO (Go.Proofs.ltOf mcf):=by
 rw [a0c]
 refine ⟨fun x=> ?_,fun x y z a b=> ?_,fun x y z a b=> ?_⟩
 ·rw [BS];omega
 ·rw [a8O] at*;omega
 ·rw [BS] at*;omega
def a2J:List (List V)->Option (List Tri)
 |[]=>some []
 |[.lit (.int .i64 a),.lit (.int .i64 b),.lit (.int .i64 v)]::r=>match a2J r with
  |some L=>some ((a,b,v)::L)
  |none=>none
 |_=>none
theorem a1D: ∀L:List Tri,a2J (L.map n7)=some L
 |[]=>rfl
 | (a,b,v)::r=>by simp only [aM,n7,a2J];rw [a1D r]
theorem YP: ∀{rows:List (List V)} {L:List Tri},a2J rows=some L->rows=L.map n7
 |[],L,h=>by simp [a2J] at h;subst h;rfl
 |row::r,L,h=>by
  unfold a2J at h
  split at h
  ·rename_i e;cases e
  ·rename_i a b v r' e
   cases e
   split at h
   ·rename_i L' h'
    cases h
    rw [YP h'];rfl
   ·cases h
  ·cases h
def SX (g:FuncId):List V->List Blk->Option (V×List Blk)
 |[.sl 0 0 n,.fn g' []],[⟨3,false,rows⟩]=>match a2J rows with
  |some L=>if g'=g/\n=L.length/\pa L=true/\L.length<4611686018427387904 then some (.tup [],[⟨3,false,(i0 L).map n7⟩]) else none
  |none=>none
 |_,_=>none
theorem b8D {d d':Array Tri} (h:PermIn 0 d.size d d'):d'.toList.Perm d.toList:=by
 obtain ⟨b,_,a⟩:=h
 have e1:d'.extract 0 d.size=d':=by rw [<-b];exact Array.extract_size
 have e2:d.extract 0 d.size=d:=Array.extract_size
 rw [e1,e2] at a
 exact a
theorem a7u {d:Array Tri} {n:Nat} (hn:d.size=n) (h:SortedIn Af 0 n d):d.toList.Pairwise (fun x y=>Af y x=false):=by
 rw [o6]
 intro i j hi b a
 have:=h i j (tH _) a (by rw [<-hn];simpa using b)
 rw [getElem!_pos d j (by simpa using b),getElem!_pos d i (by simpa using hi)] at this
 simpa using this
theorem YD (L:List Tri) (i:Nat) (hi:i<L.length*3):(flatK Ck 3 L.toArray)[i]! =(Ck (L[i/3]'om))[i%3]! :=by
 rw [get_flatK Ck 3 L.toArray i (by simpa using hi),getElem!_pos L.toArray (i/3) (by simp;omega)]
 simp
theorem SI (t:Tri): ∀(j:Nat) (v:V),(n7 t)[j]? =some v->v= .lit ((Ck t)[j]!)/\j<3
 |0,v,h=>by simp [n7] at h;subst h;exact ⟨rfl,by omega⟩
 |1,v,h=>by simp [n7] at h;subst h;exact ⟨rfl,by omega⟩
 |2,v,h=>by simp [n7] at h;subst h;exact ⟨rfl,by omega⟩
 |j+3,v,h=>by simp [n7] at h
theorem b5G {P:Program} {ρ:Ren} {T0:Tab} {ow0:ff} (L:SlLaysF0.n6 P ρ) (aE: ∀w,(isAgg (ρ.t 24)).run P w= .ok true w) (zE: ∀w,(Go.sizeOf (ρ.t 24)).run P w= .ok 3 w) {g:FuncId} (hT:Bn P T0)
 (hc: ∀x y:Tri,Call T0 ow0 g [.agg (n7 x),.agg (n7 y)] []=some (.lit (.int .i64 (mcf x y)),[])) (eg: ∀args w,(callFunc g args).run P w= .ok (.enter g args) w)
 (eF: ∀args w,(callFunc (ρ.f 6) args).run P w= .ok (.enter (ρ.f 6) args) w):Iy P (ρ.f 6) (SX g):=by
 intro args blks r blks' h F μ w xs H hl a
 unfold SX at h
 split at h
 ·rename_i n g' rows
  split at h
  ·rename_i M hM
   split at h
   ·rename_i hcond
    obtain ⟨rfl,rfl,hkd,hsz⟩:=hcond
    cases h
    have hrows:=YP hM
    subst hrows
    have hx0:=a 0 _ rfl
    have hx1:=a 1 _ rfl
    have hxs:xs= #[xs.getD 0 undef,xs.getD 1 undef]:=by
     apply Array.ext
     ·simpa using hl
     ·intro i p h2
      match i,p with
      |0,h=>simp [Array.getD_eq_getD_getElem?,aH h]
      |1,h=>simp [Array.getD_eq_getD_getElem?,aH h]
    generalize xs.getD 0 undef=X0 at hx0 hxs
    generalize xs.getD 1 undef=X1 at hx1 hxs
    subst hxs
    have hf:X1= .func (.func g') #[] #[]:=by
     cases hx1 with
     |fn _ _ ys hl2 _=>
      have:ys= #[]:=Array.eq_empty_of_size_eq_zero (by simpa using hl2)
      rw [this]
    subst hf
    refine .inr ⟨eF _ _, ?_⟩
    have hk0:bT [(⟨3,false,M.map n7⟩:Blk)] 0=some ⟨3,false,M.map n7⟩:=rfl
    cases hx0 with
    |sl _ _ _ _ k' hk' hn' hx' hp=>
     rw [hk0] at hk';cases hk'
     obtain ⟨ad,cap,rfl,hok⟩:=hp sm sm
     by_cases hM0:M=[]
     ·subst hM0
      refine (Go.Proofs.AnyF.slices_SortFunc_none L ad cap _ w).mono (fun e w' he=> ?_)
      obtain ⟨rfl,rfl⟩:=he
      have ht:i0 ([]:List Tri)=[]:=List.length_eq_zero_iff.1 (oD []).length_eq
      rw [ht]
      exact ⟨μ,H, @Chg.refl F _ _ _, @b7.tup F _ _ _ [] #[] rfl (fun i v h=>by simp at h),rfl,fun k hk=>by simp at hk;subst hk;exact fun h=>by cases h⟩
     ·have hpos:0<M.length:=List.length_pos_iff.2 hM0
      rcases hok with ⟨h0,_⟩|⟨c,hm,rfl,hcap,hnc⟩
      ·omega
      ·have z:= @bG.lt F μ (bT [(⟨3,false,M.map n7⟩:Blk)]) w H 0 c hm
       rcases b5M H 0 _ hk0 with ⟨g1,_,_⟩|⟨_,c',arr,t,lo,hi,hm',hh,b,hal,hav⟩|⟨g0,_⟩
       ·simp at g1;exact absurd g1 hM0
       rotate_left
       ·simp at g0
       ·rw [hm] at hm';cases hm'
        simp only [aw] at hal
        have hcell: ∀i,i<M.length*3->arr[i]? =some ((flatK Ck 3 M.toArray)[i]!):=by
         intro i hi
         have p:i/3<M.length:=by omega
         have hr:(M.map n7)[i/3]? =some (n7 M[i/3]):=by rw [b6,aq p];rfl
         have hj:i%3<3:=fN _ om
         obtain ⟨v,hvv⟩: ∃v,(n7 M[i/3])[i%3]? =some v:=⟨_,aq (l:=n7 M[i/3]) (i:=i%3) hj⟩
         have:=hav (i/3) _ (i%3) v hr hvv
         obtain ⟨rfl,_⟩:=SI _ _ _ hvv
         have e:= @dw _ _ _ F _ _ this
         rw [YD M i hi, <-e]
         have s:i/3*3+i%3=i:=by omega
         rw [s,Array.getD_eq_getD_getElem?,aH om]
         rfl
        have hH:HoldsK Ck 3 w c 0 M.toArray:=by
         intro j hj
         have hj':j<M.length*3:=by simpa using hj
         have hja:j<arr.size:=by omega
         refine ⟨?_, ?_⟩
         ·simp only [World.cell?,hh,ce]
          exact hcell j hj'
         ·simp only [World.frozen?,hh,ce]
          rcases b with b|b
          ·subst b
           simp only [m7,cg]
           omega
          ·simp only [m7,cg]
           omega
        have hcmp:Go.Proofs.CmpLays P g' #[] Ck 3 mcf c 0 M.toArray.size w:=by
         intro m os dk _ x y
         have:=a9N hT (hc x y) eg (xs:= #[.agg (Ck x).toArray,.agg (Ck y).toArray]) rfl (fun F μ h w i u hi=>by
          have agg: ∀t:Tri, @b7 F μ h w (.agg (n7 t)) (.agg (Ck t).toArray):=fun t=>by
           refine @b7.agg F μ h w (n7 t) (Ck t).toArray rfl (fun v a=> ?_) (fun j v hj=> ?_)
           ·simp [n7] at a;rcases a with rfl|rfl|rfl<;>rfl
           ·obtain ⟨rfl,hj3⟩:=SI t j v hj
            have:(Ck t).toArray.getD j undef=(Ck t)[j]! :=by
             have h3:j<(Ck t).length:=hj3
             simp [Array.getD_eq_getD_getElem?,h3]
            rw [this]
            exact @b7.lit F μ h w _
          match i,hi with
          |0,hi=>cases hi;exact agg x
          |1,hi=>cases hi;exact agg y) (sortWorldK Ck 3 w c 0 m dk os)
         exact this
        refine (Go.Proofs.AnyQ.slices_SortFunc L 3 aE zE Ck (fun _=>rfl) (fun x v a=>by simp [Ck] at a;rcases a with rfl|rfl|rfl<;>rfl) mcf b9S g' #[] c 0 cap M.toArray w eg hcmp hH z (by simpa using hsz)).mono (fun e w' he=> ?_)
        obtain ⟨rfl,d',q,os,d,o,hw⟩:=he
        have hd:d'.toList=i0 M:=by
         rw [a0c] at o
         have hsz':d'.size=M.toArray.size:=d.1
         exact ES hkd (by simpa using b8D d) (a7u hsz' o)
        have hd':d'=(i0 M).toArray:=by apply fL;simpa using hd
        subst hd'
        have hlen:(i0 M).length=M.length:=(oD M).length_eq
        have hwh:w'.heap=(w.heap.modify c (onCells (putCells id 0 (flatK Ck 3 (i0 M).toArray))))++os:=by rw [hw];rfl
        have hold: ∀c',c'<w.heap.size->c'≠c->w'.heap[c']? =w.heap[c']? :=by
         intro c' p h2
         rw [hwh,fU (by simpa using p),eO,a7 (Ne.symm h2)]
        have hnew:w'.heap[c]? =some (.cells (putCells id 0 (flatK Ck 3 (i0 M).toArray) arr) t (lo,hi)):=by
         rw [hwh,fU (by simpa using z),eO,aa rfl,hh]
         rfl
        have hput:= @bG.put F μ _ w w' H 0 c ⟨3,false,M.map n7⟩ ⟨3,false,(i0 M).map n7⟩ hk0 sm (.inl hm) (by rw [hw];rfl) (by rw [hw];rfl) (by rw [hw];rfl)
         (by rw [hwh];simp) (by rw [hw];exact Nat.le_add_right _ _) hold _ t lo hi hnew (by simpa [putCells] using b) rfl
         (by simp only [aw,hlen];simpa [putCells] using hal)
         (fun row hrow=>by
          obtain ⟨x,_,rfl⟩:=bf.1 hrow
          exact ⟨rfl,fun v a=>by simp [n7] at a;rcases a with rfl|rfl|rfl<;>exact ⟨rfl,fun _=>rfl⟩⟩)
         (.inr ⟨by simp [hlen],hm,by unfold bsize;rw [hh];simp [putCells]⟩)
         (fun i row j v p h2=>by
          have hi:i<(i0 M).length:=by have:=dg p;simpa using this
          have hr:row=n7 (i0 M)[i]:=by simp [aq hi] at p;exact p.symm
          subst hr
          obtain ⟨rfl,hj⟩:=SI _ _ _ h2
          have hsz3:i*3+j<arr.size:=by omega
          have s:i*3+j<(i0 M).length*3:=by omega
          have:(putCells id 0 (flatK Ck 3 (i0 M).toArray) arr).getD (i*3+j) undef=(Ck (i0 M)[i])[j]! :=by
           rw [Array.getD_eq_getD_getElem?,aH (by simpa [putCells] using hsz3)]
           simp only [putCells,Array.getElem_mapIdx,tH,true_and,ce,size_flatK,List.size_toArray,dL,nv,id]
           rw [aa s,YD (i0 M) _ s]
           have e1:(i*3+j)/3=i:=by omega
           have e2:(i*3+j)%3=j:=by omega
           simp only [e1,e2]
          rw [this]
          exact @b7.lit F μ _ w _)
        have hbh:bT [(⟨3,false,(i0 M).map n7⟩:Blk)]=ci (bT [(⟨3,false,M.map n7⟩:Blk)]) 0 ⟨3,false,(i0 M).map n7⟩:=by
         funext i;cases i<;>rfl
        refine ⟨cM μ 0 (some c), ?_, ?_, @b7.tup F _ _ _ [] #[] rfl (fun i v h=>by simp at h),rfl,fun k hk=>by simp at hk;subst hk;exact fun h=>by cases h⟩
        ·rw [hbh];exact hput.1
        ·rw [hbh];exact hput.2
   ·cases h
  ·cases h
 ·cases h
end Go.AI
