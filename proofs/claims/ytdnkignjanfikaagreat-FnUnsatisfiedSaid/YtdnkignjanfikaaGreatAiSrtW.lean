/- slices.SortFunc on rows of three numbers, as a word of the machine. -/
import Derived.Test.YtdnkignjanfikaaGreatAiExa
import Derived.Test.YtdnkignjanfikaaGreatAiSrt
import Derived.Shelf.SlSortCmp.NoneTotal
set_option linter.unusedVariables false
set_option linter.unusedSimpArgs false
namespace Go.AI
open Go.Sort Go.Proofs Go.Shelf Go.Lib Go.RowKit
def xX (t:Tri):List Value:=[.int .i64 t.1,.int .i64 t.2.1,.int .i64 t.2.2]
theorem Va:(Go.Proofs.ltOf mcf)=vO:=by funext x y;exact c0i x y
theorem b4c:SWO (Go.Proofs.ltOf mcf):=by
 rw [Va]
 refine ⟨fun x=> ?_,fun x y z h1 h2=> ?_,fun x y z h1 h2=> ?_⟩
 ·rw [wT];omega
 ·rw [a4v] at*;omega
 ·rw [wT] at*;omega
def YZ:List (List V)→Option (List Tri)
 |[]=>some []
 |[.lit (.int .i64 a),.lit (.int .i64 b),.lit (.int .i64 v)]::r=>match YZ r with
  |some L=>some ((a,b,v)::L)
  |none=>none
 |_=>none
theorem XY: ∀L:List Tri,YZ (L.map i6)=some L
 |[]=>rfl
 | (a,b,v)::r=>by simp only [List.map_cons,i6,YZ];rw [XY r]
theorem W1: ∀{rows:List (List V)} {L:List Tri},YZ rows=some L→rows=L.map i6
 |[],L,h=>by simp [YZ] at h;subst h;rfl
 |row::r,L,h=>by
  unfold YZ at h
  split at h
  ·rename_i e;cases e
  ·rename_i a b v r' e
   cases e
   split at h
   ·rename_i L' h'
    cases h
    rw [W1 h'];rfl
   ·cases h
  ·cases h
def MQ (g:FuncId):List V→List Blk→Option (V×List Blk)
 |[.sl 0 0 n,.fn g' []],[⟨3,false,rows⟩]=>match YZ rows with
  |some L=>if g'=g∧n=L.length∧j5 L=true∧L.length<4611686018427387904 then some (.tup [],[⟨3,false,(cK L).map i6⟩]) else none
  |none=>none
 |_,_=>none
theorem b6o {d d':Array Tri} (h:PermIn 0 d.size d d'):d'.toList.Perm d.toList:=by
 obtain ⟨h1,_,h3⟩:=h
 have e1:d'.extract 0 d.size=d':=by rw [←h1];exact Array.extract_size
 have e2:d.extract 0 d.size=d:=Array.extract_size
 rw [e1,e2] at h3
 exact h3
theorem a3c {d:Array Tri} {n:Nat} (hn:d.size=n) (h:SortedIn vO 0 n d):d.toList.Pairwise (fun x y=>vO y x=false):=by
 rw [List.pairwise_iff_getElem]
 intro i j hi hj hij
 have:=h i j (Nat.zero_le _) hij (by rw [←hn];simpa using hj)
 rw [getElem!_pos d j (by simpa using hj),getElem!_pos d i (by simpa using hi)] at this
 simpa using this
theorem VP (L:List Tri) (i:Nat) (hi:i<L.length*3):(flatK xX 3 L.toArray)[i]! =(xX (L[i/3]'(by omega)))[i%3]! :=by
 rw [get_flatK xX 3 L.toArray i (by simpa using hi),getElem!_pos L.toArray (i/3) (by simp;omega)]
 simp
theorem Ob (t:Tri): ∀(j:Nat) (v:V),(i6 t)[j]? =some v→v= .lit ((xX t)[j]!)∧j<3
 |0,v,h=>by simp [i6] at h;subst h;exact ⟨rfl,by omega⟩
 |1,v,h=>by simp [i6] at h;subst h;exact ⟨rfl,by omega⟩
 |2,v,h=>by simp [i6] at h;subst h;exact ⟨rfl,by omega⟩
 |j+3,v,h=>by simp [i6] at h
theorem b3u {P:Program} {ρ:Ren} {T0:Tab} {ow0:cy} (L:SlLaysF0.n6 P ρ) (aE: ∀w,(isAgg (ρ.t 24)).run P w= .ok true w) (zE: ∀w,(Go.sizeOf (ρ.t 24)).run P w= .ok 3 w) {g:FuncId} (hT:xv P T0)
 (hc: ∀x y:Tri,Call T0 ow0 g [.agg (i6 x),.agg (i6 y)] []=some (.lit (.int .i64 (mcf x y)),[])) (eg: ∀args w,(callFunc g args).run P w= .ok (.enter g args) w)
 (eF: ∀args w,(callFunc (ρ.f 6) args).run P w= .ok (.enter (ρ.f 6) args) w):Kg P (ρ.f 6) (MQ g):=by
 intro args blks r blks' h F μ w xs H hl hv
 unfold MQ at h
 split at h
 ·rename_i n g' rows
  split at h
  ·rename_i M hM
   split at h
   ·rename_i hcond
    obtain ⟨rfl,rfl,hkd,hsz⟩:=hcond
    cases h
    have hrows:=W1 hM
    subst hrows
    have hx0:=hv 0 _ rfl
    have hx1:=hv 1 _ rfl
    have hxs:xs= #[xs.getD 0 undef,xs.getD 1 undef]:=by
     apply Array.ext
     ·simpa using hl
     ·intro i h1 h2
      match i,h1 with
      |0,h=>simp [Array.getD_eq_getD_getElem?,Array.getElem?_eq_getElem h]
      |1,h=>simp [Array.getD_eq_getD_getElem?,Array.getElem?_eq_getElem h]
    generalize xs.getD 0 undef=X0 at hx0 hxs
    generalize xs.getD 1 undef=X1 at hx1 hxs
    subst hxs
    have hf:X1= .func (.func g') #[] #[]:=by
     cases hx1 with
     |fn _ _ ys hl2 _=>
      have:ys= #[]:=Array.eq_empty_of_size_eq_zero (by simpa using hl2)
      rw [this]
    subst hf
    refine .inr ⟨eF _ _, ?_⟩
    have hk0:aN [(⟨3,false,M.map i6⟩:Blk)] 0=some ⟨3,false,M.map i6⟩:=rfl
    cases hx0 with
    |sl _ _ _ _ k' hk' hn' hx' hp=>
     rw [hk0] at hk';cases hk'
     obtain ⟨ad,cap,rfl,hok⟩:=hp (by simp) (by simp)
     by_cases hM0:M=[]
     ·subst hM0
      refine (Go.Proofs.AnyF.slices_SortFunc_none L ad cap _ w).mono (fun e w' he=> ?_)
      obtain ⟨rfl,rfl⟩:=he
      have ht:cK ([]:List Tri)=[]:=List.length_eq_zero_iff.1 (j9 []).length_eq
      rw [ht]
      exact ⟨μ,H, @Chg.refl F _ _ _, @an.tup F _ _ _ [] #[] rfl (fun i v h=>by simp at h),rfl,fun k hk=>by simp at hk;subst hk;exact fun h=>by cases h⟩
     ·have hpos:0<M.length:=List.length_pos_iff.2 hM0
      rcases hok with ⟨h0,_⟩|⟨c,hm,rfl,hcap,hnc⟩
      ·omega
      ·have hblk:= @aI.lt F μ (aN [(⟨3,false,M.map i6⟩:Blk)]) w H 0 c hm
       rcases b3S H 0 _ hk0 with ⟨g1,_,_⟩|⟨_,c',arr,t,lo,hi,hm',hh,hfz,hal,hav⟩|⟨g0,_⟩
       ·simp at g1;exact absurd g1 hM0
       rotate_left
       ·simp at g0
       ·rw [hm] at hm';cases hm'
        simp only [List.length_map] at hal
        have hcell: ∀i,i<M.length*3→arr[i]? =some ((flatK xX 3 M.toArray)[i]!):=by
         intro i hi
         have h1:i/3<M.length:=by omega
         have hr:(M.map i6)[i/3]? =some (i6 M[i/3]):=by rw [List.getElem?_map,List.getElem?_eq_getElem h1];rfl
         have hj:i%3<3:=Nat.mod_lt _ (by omega)
         obtain ⟨v,hvv⟩: ∃v,(i6 M[i/3])[i%3]? =some v:=⟨_,List.getElem?_eq_getElem (l:=i6 M[i/3]) (i:=i%3) hj⟩
         have:=hav (i/3) _ (i%3) v hr hvv
         obtain ⟨rfl,_⟩:=Ob _ _ _ hvv
         have e:= @bF _ _ _ F _ _ this
         rw [VP M i hi, ←e]
         have hlt:i/3*3+i%3=i:=by omega
         rw [hlt,Array.getD_eq_getD_getElem?,Array.getElem?_eq_getElem (by omega)]
         rfl
        have hH:HoldsK xX 3 w c 0 M.toArray:=by
         intro j hj
         have hj':j<M.length*3:=by simpa using hj
         have hja:j<arr.size:=by omega
         refine ⟨?_, ?_⟩
         ·simp only [World.cell?,hh,Nat.zero_add]
          exact hcell j hj'
         ·simp only [World.frozen?,hh,Nat.zero_add]
          rcases hfz with hfz|hfz
          ·subst hfz
           simp only [Bool.and_eq_false_iff,decide_eq_false_iff_not]
           omega
          ·simp only [Bool.and_eq_false_iff,decide_eq_false_iff_not]
           omega
        have hcmp:Go.Proofs.CmpLays P g' #[] xX 3 mcf c 0 M.toArray.size w:=by
         intro m os dk _ x y
         have:=a6A hT (hc x y) eg (xs:= #[.agg (xX x).toArray,.agg (xX y).toArray]) rfl (fun F μ h w i u hi=>by
          have agg: ∀t:Tri, @an F μ h w (.agg (i6 t)) (.agg (xX t).toArray):=fun t=>by
           refine @an.agg F μ h w (i6 t) (xX t).toArray rfl (fun v hv=> ?_) (fun j v hj=> ?_)
           ·simp [i6] at hv;rcases hv with rfl|rfl|rfl<;>rfl
           ·obtain ⟨rfl,hj3⟩:=Ob t j v hj
            have:(xX t).toArray.getD j undef=(xX t)[j]! :=by
             have h3:j<(xX t).length:=hj3
             simp [Array.getD_eq_getD_getElem?,h3]
            rw [this]
            exact @an.lit F μ h w _
          match i,hi with
          |0,hi=>cases hi;exact agg x
          |1,hi=>cases hi;exact agg y) (sortWorldK xX 3 w c 0 m dk os)
         exact this
        refine (Go.Proofs.AnyQ.slices_SortFunc L 3 aE zE xX (fun _=>rfl) (fun x v hv=>by simp [xX] at hv;rcases hv with rfl|rfl|rfl<;>rfl) mcf b4c g' #[] c 0 cap M.toArray w eg hcmp hH hblk (by simpa using hsz)).mono (fun e w' he=> ?_)
        obtain ⟨rfl,d',q,os,hperm,hsort,hw⟩:=he
        have hd:d'.toList=cK M:=by
         rw [Va] at hsort
         have hsz':d'.size=M.toArray.size:=hperm.1
         exact A9 hkd (by simpa using b6o hperm) (a3c hsz' hsort)
        have hd':d'=(cK M).toArray:=by apply Array.ext';simpa using hd
        subst hd'
        have hlen:(cK M).length=M.length:=(j9 M).length_eq
        have hwh:w'.heap=(w.heap.modify c (onCells (putCells id 0 (flatK xX 3 (cK M).toArray))))++os:=by rw [hw];rfl
        have hold: ∀c',c'<w.heap.size→c'≠c→w'.heap[c']? =w.heap[c']? :=by
         intro c' h1 h2
         rw [hwh,Array.getElem?_append_left (by simpa using h1),Array.getElem?_modify,if_neg (Ne.symm h2)]
        have hnew:w'.heap[c]? =some (.cells (putCells id 0 (flatK xX 3 (cK M).toArray) arr) t (lo,hi)):=by
         rw [hwh,Array.getElem?_append_left (by simpa using hblk),Array.getElem?_modify,if_pos rfl,hh]
         rfl
        have hput:= @aI.put F μ _ w w' H 0 c ⟨3,false,M.map i6⟩ ⟨3,false,(cK M).map i6⟩ hk0 (by simp) (.inl hm) (by rw [hw];rfl) (by rw [hw];rfl) (by rw [hw];rfl)
         (by rw [hwh];simp) (by rw [hw];exact Nat.le_add_right _ _) hold _ t lo hi hnew (by simpa [putCells] using hfz) rfl
         (by simp only [List.length_map,hlen];simpa [putCells] using hal)
         (fun row hrow=>by
          obtain ⟨x,_,rfl⟩:=List.mem_map.1 hrow
          exact ⟨rfl,fun v hv=>by simp [i6] at hv;rcases hv with rfl|rfl|rfl<;>exact ⟨rfl,fun _=>rfl⟩⟩)
         (.inr ⟨by simp [hlen],hm,by unfold bsize;rw [hh];simp [putCells]⟩)
         (fun i row j v h1 h2=>by
          have hi:i<(cK M).length:=by have:=bx h1;simpa using this
          have hr:row=i6 (cK M)[i]:=by simp [List.getElem?_eq_getElem hi] at h1;exact h1.symm
          subst hr
          obtain ⟨rfl,hj⟩:=Ob _ _ _ h2
          have hsz3:i*3+j<arr.size:=by omega
          have hlt:i*3+j<(cK M).length*3:=by omega
          have:(putCells id 0 (flatK xX 3 (cK M).toArray) arr).getD (i*3+j) undef=(xX (cK M)[i])[j]! :=by
           rw [Array.getD_eq_getD_getElem?,Array.getElem?_eq_getElem (by simpa [putCells] using hsz3)]
           simp only [putCells,Array.getElem_mapIdx,Nat.zero_le,true_and,Nat.zero_add,size_flatK,List.size_toArray,Option.getD_some,Nat.sub_zero,id]
           rw [if_pos hlt,VP (cK M) _ hlt]
           have e1:(i*3+j)/3=i:=by omega
           have e2:(i*3+j)%3=j:=by omega
           simp only [e1,e2]
          rw [this]
          exact @an.lit F μ _ w _)
        have hbh:aN [(⟨3,false,(cK M).map i6⟩:Blk)]=aW (aN [(⟨3,false,M.map i6⟩:Blk)]) 0 ⟨3,false,(cK M).map i6⟩:=by
         funext i;cases i<;>rfl
        refine ⟨bk μ 0 (some c), ?_, ?_, @an.tup F _ _ _ [] #[] rfl (fun i v h=>by simp at h),rfl,fun k hk=>by simp at hk;subst hk;exact fun h=>by cases h⟩
        ·rw [hbh];exact hput.1
        ·rw [hbh];exact hput.2
   ·cases h
  ·cases h
 ·cases h
end Go.AI
