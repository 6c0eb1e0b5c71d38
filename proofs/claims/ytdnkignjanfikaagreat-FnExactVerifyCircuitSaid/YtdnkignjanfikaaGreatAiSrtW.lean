/- slices.SortFunc on rows of three numbers, as a word of the machine. -/
import Derived.Test.YtdnkignjanfikaaGreatAiExa
import Derived.Test.YtdnkignjanfikaaGreatAiSrt
import Derived.Shelf.SlSortCmp.NoneTotal
set_option linter.unusedVariables false
set_option linter.unusedSimpArgs false
namespace Go.AI
open Go.Sort Go.Proofs Go.Shelf Go.Lib Go.RowKit
def B6 (t:Tri):List Value:=[.int .i64 t.1,.int .i64 t.2.1,.int .i64 t.2.2]
theorem a2y:(Go.Proofs.ltOf mcf)=zl:=by funext x y;exact c1n x y
theorem b82:SWO (Go.Proofs.ltOf mcf):=by
 rw [a2y]
 refine ⟨fun x=> ?_,fun x y z h1 h2=> ?_,fun x y z h1 h2=> ?_⟩
 ·rw [Ar];omega
 ·rw [b1x] at*;omega
 ·rw [Ar] at*;omega
def a6e:List (List V)->Option (List Tri)
 |[]=>some []
 |[.lit (.int .i64 a),.lit (.int .i64 b),.lit (.int .i64 v)]::r=>match a6e r with
  |some L=>some ((a,b,v)::L)
  |none=>none
 |_=>none
theorem a2e: ∀L:List Tri,a6e (L.map kZ)=some L
 |[]=>rfl
 | (a,b,v)::r=>by simp only [aS,kZ,a6e];rw [a2e r]
theorem a2I: ∀{rows:List (List V)} {L:List Tri},a6e rows=some L->rows=L.map kZ
 |[],L,h=>by simp [a6e] at h;subst h;rfl
 |row::r,L,h=>by
  unfold a6e at h
  split at h
  ·rename_i e;cases e
  ·rename_i a b v r' e
   cases e
   split at h
   ·rename_i L' h'
    cases h
    rw [a2I h'];rfl
   ·cases h
  ·cases h
def Ri (g:FuncId):List V->List Blk->Option (V×List Blk)
 |[.sl 0 0 n,.fn g' []],[⟨3,false,rows⟩]=>match a6e rows with
  |some L=>if g'=g/\n=L.length/\mW L=true/\L.length<4611686018427387904 then some (.tup [],[⟨3,false,(fV L).map kZ⟩]) else none
  |none=>none
 |_,_=>none
theorem b9v {d d':Array Tri} (h:PermIn 0 d.size d d'):d'.toList.Perm d.toList:=by
 obtain ⟨h1,_,h3⟩:=h
 have e1:d'.extract 0 d.size=d':=by rw [<-h1];exact Array.extract_size
 have e2:d.extract 0 d.size=d:=Array.extract_size
 rw [e1,e2] at h3
 exact h3
theorem a9p {d:Array Tri} {n:Nat} (hn:d.size=n) (h:SortedIn zl 0 n d):d.toList.Pairwise (fun x y=>zl y x=false):=by
 rw [mb]
 intro i j hi hj hij
 have:=h i j (qH _) hij (by rw [<-hn];simpa using hj)
 rw [getElem!_pos d j (by simpa using hj),getElem!_pos d i (by simpa using hi)] at this
 simpa using this
theorem a4F (L:List Tri) (i:Nat) (hi:i<L.length*3):(flatK B6 3 L.toArray)[i]! =(B6 (L[i/3]'(by omega)))[i%3]! :=by
 rw [get_flatK B6 3 L.toArray i (by simpa using hi),getElem!_pos L.toArray (i/3) (by simp;omega)]
 simp
theorem QF (t:Tri): ∀(j:Nat) (v:V),(kZ t)[j]? =some v->v= .lit ((B6 t)[j]!)/\j<3
 |0,v,h=>by simp [kZ] at h;subst h;exact ⟨rfl,by omega⟩
 |1,v,h=>by simp [kZ] at h;subst h;exact ⟨rfl,by omega⟩
 |2,v,h=>by simp [kZ] at h;subst h;exact ⟨rfl,by omega⟩
 |j+3,v,h=>by simp [kZ] at h
theorem b81 {P:Program} {ρ:Ren} {T0:Tab} {ow0:en} (L:SlLaysF0.n6 P ρ) (aE: ∀w,(isAgg (ρ.t 24)).run P w= .ok true w) (zE: ∀w,(Go.sizeOf (ρ.t 24)).run P w= .ok 3 w) {g:FuncId} (hT:A9 P T0)
 (hc: ∀x y:Tri,Call T0 ow0 g [.agg (kZ x),.agg (kZ y)] []=some (.lit (.int .i64 (mcf x y)),[])) (eg: ∀args w,(callFunc g args).run P w= .ok (.enter g args) w)
 (eF: ∀args w,(callFunc (ρ.f 6) args).run P w= .ok (.enter (ρ.f 6) args) w):NO P (ρ.f 6) (Ri g):=by
 intro args blks r blks' h F μ w xs H hl hv
 unfold Ri at h
 split at h
 ·rename_i n g' rows
  split at h
  ·rename_i M hM
   split at h
   ·rename_i hcond
    obtain ⟨rfl,rfl,hkd,hsz⟩:=hcond
    cases h
    have hrows:=a2I hM
    subst hrows
    have hx0:=hv 0 _ rfl
    have hx1:=hv 1 _ rfl
    have hxs:xs= #[xs.getD 0 undef,xs.getD 1 undef]:=by
     apply Array.ext
     ·simpa using hl
     ·intro i h1 h2
      match i,h1 with
      |0,h=>simp [Array.getD_eq_getD_getElem?,aL h]
      |1,h=>simp [Array.getD_eq_getD_getElem?,aL h]
    generalize xs.getD 0 undef=X0 at hx0 hxs
    generalize xs.getD 1 undef=X1 at hx1 hxs
    subst hxs
    have hf:X1= .func (.func g') #[] #[]:=by
     cases hx1 with
     |fn _ _ ys hl2 _=>
      have:ys= #[]:=Array.eq_empty_of_size_eq_zero (by simpa using hl2)
      rw [this]
    subst hf
    refine .inr ⟨eF _ _, ?_⟩
    have hk0:bL [(⟨3,false,M.map kZ⟩:Blk)] 0=some ⟨3,false,M.map kZ⟩:=rfl
    cases hx0 with
    |sl _ _ _ _ k' hk' hn' hx' hp=>
     rw [hk0] at hk';cases hk'
     obtain ⟨ad,cap,rfl,hok⟩:=hp (by simp) (by simp)
     by_cases hM0:M=[]
     ·subst hM0
      refine (Go.Proofs.AnyF.slices_SortFunc_none L ad cap _ w).mono (fun e w' he=> ?_)
      obtain ⟨rfl,rfl⟩:=he
      have ht:fV ([]:List Tri)=[]:=List.length_eq_zero_iff.1 (my []).length_eq
      rw [ht]
      exact ⟨μ,H, @Chg.refl F _ _ _, @aX.tup F _ _ _ [] #[] rfl (fun i v h=>by simp at h),rfl,fun k hk=>by simp at hk;subst hk;exact fun h=>by cases h⟩
     ·have hpos:0<M.length:=List.length_pos_iff.2 hM0
      rcases hok with ⟨h0,_⟩|⟨c,hm,rfl,hcap,hnc⟩
      ·omega
      ·have hblk:= @bD.lt F μ (bL [(⟨3,false,M.map kZ⟩:Blk)]) w H 0 c hm
       rcases b7I H 0 _ hk0 with ⟨g1,_,_⟩|⟨_,c',arr,t,lo,hi,hm',hh,hfz,hal,hav⟩|⟨g0,_⟩
       ·simp at g1;exact absurd g1 hM0
       rotate_left
       ·simp at g0
       ·rw [hm] at hm';cases hm'
        simp only [aM] at hal
        have hcell: ∀i,i<M.length*3->arr[i]? =some ((flatK B6 3 M.toArray)[i]!):=by
         intro i hi
         have h1:i/3<M.length:=by omega
         have hr:(M.map kZ)[i/3]? =some (kZ M[i/3]):=by rw [aV,aq h1];rfl
         have hj:i%3<3:=gG _ (by omega)
         obtain ⟨v,hvv⟩: ∃v,(kZ M[i/3])[i%3]? =some v:=⟨_,aq (l:=kZ M[i/3]) (i:=i%3) hj⟩
         have:=hav (i/3) _ (i%3) v hr hvv
         obtain ⟨rfl,_⟩:=QF _ _ _ hvv
         have e:= @de _ _ _ F _ _ this
         rw [a4F M i hi, <-e]
         have hlt:i/3*3+i%3=i:=by omega
         rw [hlt,Array.getD_eq_getD_getElem?,aL (by omega)]
         rfl
        have hH:HoldsK B6 3 w c 0 M.toArray:=by
         intro j hj
         have hj':j<M.length*3:=by simpa using hj
         have hja:j<arr.size:=by omega
         refine ⟨?_, ?_⟩
         ·simp only [World.cell?,hh,cI]
          exact hcell j hj'
         ·simp only [World.frozen?,hh,cI]
          rcases hfz with hfz|hfz
          ·subst hfz
           simp only [hU,bz]
           omega
          ·simp only [hU,bz]
           omega
        have hcmp:Go.Proofs.CmpLays P g' #[] B6 3 mcf c 0 M.toArray.size w:=by
         intro m os dk _ x y
         have:=b5j hT (hc x y) eg (xs:= #[.agg (B6 x).toArray,.agg (B6 y).toArray]) rfl (fun F μ h w i u hi=>by
          have agg: ∀t:Tri, @aX F μ h w (.agg (kZ t)) (.agg (B6 t).toArray):=fun t=>by
           refine @aX.agg F μ h w (kZ t) (B6 t).toArray rfl (fun v hv=> ?_) (fun j v hj=> ?_)
           ·simp [kZ] at hv;rcases hv with rfl|rfl|rfl<;>rfl
           ·obtain ⟨rfl,hj3⟩:=QF t j v hj
            have:(B6 t).toArray.getD j undef=(B6 t)[j]! :=by
             have h3:j<(B6 t).length:=hj3
             simp [Array.getD_eq_getD_getElem?,h3]
            rw [this]
            exact @aX.lit F μ h w _
          match i,hi with
          |0,hi=>cases hi;exact agg x
          |1,hi=>cases hi;exact agg y) (sortWorldK B6 3 w c 0 m dk os)
         exact this
        refine (Go.Proofs.AnyQ.slices_SortFunc L 3 aE zE B6 (fun _=>rfl) (fun x v hv=>by simp [B6] at hv;rcases hv with rfl|rfl|rfl<;>rfl) mcf b82 g' #[] c 0 cap M.toArray w eg hcmp hH hblk (by simpa using hsz)).mono (fun e w' he=> ?_)
        obtain ⟨rfl,d',q,os,hperm,hsort,hw⟩:=he
        have hd:d'.toList=fV M:=by
         rw [a2y] at hsort
         have hsz':d'.size=M.toArray.size:=hperm.1
         exact DZ hkd (by simpa using b9v hperm) (a9p hsz' hsort)
        have hd':d'=(fV M).toArray:=by apply eO;simpa using hd
        subst hd'
        have hlen:(fV M).length=M.length:=(my M).length_eq
        have hwh:w'.heap=(w.heap.modify c (onCells (putCells id 0 (flatK B6 3 (fV M).toArray))))++os:=by rw [hw];rfl
        have hold: ∀c',c'<w.heap.size->c'≠c->w'.heap[c']? =w.heap[c']? :=by
         intro c' h1 h2
         rw [hwh,fj (by simpa using h1),dR,aa (Ne.symm h2)]
        have hnew:w'.heap[c]? =some (.cells (putCells id 0 (flatK B6 3 (fV M).toArray) arr) t (lo,hi)):=by
         rw [hwh,fj (by simpa using hblk),dR,ae rfl,hh]
         rfl
        have hput:= @bD.put F μ _ w w' H 0 c ⟨3,false,M.map kZ⟩ ⟨3,false,(fV M).map kZ⟩ hk0 (by simp) (.inl hm) (by rw [hw];rfl) (by rw [hw];rfl) (by rw [hw];rfl)
         (by rw [hwh];simp) (by rw [hw];exact Nat.le_add_right _ _) hold _ t lo hi hnew (by simpa [putCells] using hfz) rfl
         (by simp only [aM,hlen];simpa [putCells] using hal)
         (fun row hrow=>by
          obtain ⟨x,_,rfl⟩:=bu.1 hrow
          exact ⟨rfl,fun v hv=>by simp [kZ] at hv;rcases hv with rfl|rfl|rfl<;>exact ⟨rfl,fun _=>rfl⟩⟩)
         (.inr ⟨by simp [hlen],hm,by unfold bsize;rw [hh];simp [putCells]⟩)
         (fun i row j v h1 h2=>by
          have hi:i<(fV M).length:=by have:=cS h1;simpa using this
          have hr:row=kZ (fV M)[i]:=by simp [aq hi] at h1;exact h1.symm
          subst hr
          obtain ⟨rfl,hj⟩:=QF _ _ _ h2
          have hsz3:i*3+j<arr.size:=by omega
          have hlt:i*3+j<(fV M).length*3:=by omega
          have:(putCells id 0 (flatK B6 3 (fV M).toArray) arr).getD (i*3+j) undef=(B6 (fV M)[i])[j]! :=by
           rw [Array.getD_eq_getD_getElem?,aL (by simpa [putCells] using hsz3)]
           simp only [putCells,Array.getElem_mapIdx,qH,true_and,cI,size_flatK,List.size_toArray,du,oM,id]
           rw [ae hlt,a4F (fV M) _ hlt]
           have e1:(i*3+j)/3=i:=by omega
           have e2:(i*3+j)%3=j:=by omega
           simp only [e1,e2]
          rw [this]
          exact @aX.lit F μ _ w _)
        have hbh:bL [(⟨3,false,(fV M).map kZ⟩:Blk)]=bV (bL [(⟨3,false,M.map kZ⟩:Blk)]) 0 ⟨3,false,(fV M).map kZ⟩:=by
         funext i;cases i<;>rfl
        refine ⟨cE μ 0 (some c), ?_, ?_, @aX.tup F _ _ _ [] #[] rfl (fun i v h=>by simp at h),rfl,fun k hk=>by simp at hk;subst hk;exact fun h=>by cases h⟩
        ·rw [hbh];exact hput.1
        ·rw [hbh];exact hput.2
   ·cases h
  ·cases h
 ·cases h
end Go.AI
