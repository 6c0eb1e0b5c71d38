/- Part. -/
import Derived.Test.YtdnkignjanfikaaGreatAiExa
import Derived.Test.YtdnkignjanfikaaGreatAiSrt
import Derived.Shelf.SlSortCmp.NoneTotal
set_option linter.unusedVariables false
set_option linter.unusedSimpArgs false
namespace Go.AI
open Go.Sort Go.Proofs Go.Shelf Go.Lib Go.RowKit
def B0 (t:Tri):List Value:=[.int .i64 t.1,.int .i64 t.2.1,.int .i64 t.2.2]
theorem a0z:(Go.Proofs.ltOf mcf)=zd:=by funext x y;exact c3n x y
theorem c1t:SWO (Go.Proofs.ltOf mcf):=by
 rw [a0z]
 refine ⟨fun x=> ?_,fun x y z a b=> ?_,fun x y z a b=> ?_⟩
 ·rw [zD];omega
 ·rw [a98] at*;omega
 ·rw [zD] at*;omega
def a5i:List (List V)->Option (List Tri)
 |[]=>some []
 |[.lit (.int .i64 a),.lit (.int .i64 b),.lit (.int .i64 v)]::r=>match a5i r with
  |some L=>some ((a,b,v)::L)
  |none=>none
 |_=>none
theorem a09: ∀L:List Tri,a5i (L.map kO)=some L
 |[]=>rfl
 | (a,b,v)::r=>by simp only [aP,kO,a5i];rw [a09 r]
theorem a2u: ∀{rows:List (List V)} {L:List Tri},a5i rows=some L->rows=L.map kO
 |[],L,h=>by simp [a5i] at h;subst h;rfl
 |row::r,L,h=>by
  unfold a5i at h
  split at h
  ·rename_i e;cases e
  ·rename_i a b v r' e
   cases e
   split at h
   ·rename_i L' h'
    cases h
    rw [a2u h'];rfl
   ·cases h
  ·cases h
def RL (g:FuncId):List V->List Blk->Option (V×List Blk)
 |[.sl 0 0 n,.fn g' []],[⟨3,false,rows⟩]=>match a5i rows with
  |some L=>if g'=g/\n=L.length/\ms L=true/\L.length<4611686018427387904 then some (.tup [],[⟨3,false,(fV L).map kO⟩]) else none
  |none=>none
 |_,_=>none
theorem b7c {d d':Array Tri} (h:PermIn 0 d.size d d'):d'.toList.Perm d.toList:=by
 obtain ⟨c,_,b⟩:=h
 a e1:d'.extract 0 d.size=d':=by rw [<-c];exact Array.extract_size
 a e2:d.extract 0 d.size=d:=Array.extract_size
 rw [e1,e2] at b
 exact b
theorem a9q {d:Array Tri} {n:Nat} (e:d.size=n) (h:SortedIn zd 0 n d):d.toList.Pairwise (fun x y=>zd y x=false):=by
 rw [lV]
 intro i j hi b a
 c:=h i j (qC _) a (by rw [<-e];simpa using b)
 rw [getElem!_pos d j (by simpa using b),getElem!_pos d i (by simpa using hi)] at this
 simpa using this
theorem a3i (L:List Tri) (i:Nat) (hi:i<L.length*3):(flatK B0 3 L.toArray)[i]! =(B0 (L[i/3]'(by omega)))[i%3]! :=by
 rw [get_flatK B0 3 L.toArray i (by simpa using hi),getElem!_pos L.toArray (i/3) (by simp;omega)]
 simp
theorem Pt (t:Tri): ∀(j:Nat) (v:V),(kO t)[j]? =some v->v= .lit ((B0 t)[j]!)/\j<3
 |0,v,h=>by simp [kO] at h;subst h;exact ⟨rfl,by omega⟩
 |1,v,h=>by simp [kO] at h;subst h;exact ⟨rfl,by omega⟩
 |2,v,h=>by simp [kO] at h;subst h;exact ⟨rfl,by omega⟩
 |j+3,v,h=>by simp [kO] at h
theorem c0F {P:Program} {ρ:Ren} {T0:Tab} {ow0:ec} (L:SlLaysF0.n6 P ρ) (aE: ∀w,(isAgg (ρ.t 24)).run P w= .ok true w) (zE: ∀w,(Go.sizeOf (ρ.t 24)).run P w= .ok 3 w) {g:FuncId} (hT:Ad P T0)
 (hc: ∀x y:Tri,Call T0 ow0 g [.agg (kO x),.agg (kO y)] []=some (.lit (.int .i64 (mcf x y)),[])) (eg: ∀args w,(callFunc g args).run P w= .ok (.enter g args) w)
 (eF: ∀args w,(callFunc (ρ.f 6) args).run P w= .ok (.enter (ρ.f 6) args) w):NN P (ρ.f 6) (RL g):=by
 intro args blks r blks' h F μ w xs H hl b
 unfold RL at h
 split at h
 ·rename_i n g' rows
  split at h
  ·rename_i M hM
   split at h
   ·rename_i hcond
    obtain ⟨rfl,rfl,hkd,hsz⟩:=hcond
    cases h
    a hrows:=a2u hM
    subst hrows
    a hx0:=b 0 _ rfl
    a hx1:=b 1 _ rfl
    a hxs:xs= #[xs.getD 0 undef,xs.getD 1 undef]:=by
      apply Array.ext
      ·simpa using hl
      ·intro i s h2
       match i,s with
       |0,h=>simp [Array.getD_eq_getD_getElem?,aL h]
       |1,h=>simp [Array.getD_eq_getD_getElem?,aL h]
    generalize xs.getD 0 undef=X0 at hx0 hxs
    generalize xs.getD 1 undef=X1 at hx1 hxs
    subst hxs
    a hf:X1= .func (.func g') #[] #[]:=by
      cases hx1 with
      |fn _ _ ys hl2 _=>
       a:ys= #[]:=Array.eq_empty_of_size_eq_zero (by simpa using hl2)
       rw [this]
    subst hf
    refine .inr ⟨eF _ _, ?_⟩
    a hk0:bJ [(⟨3,false,M.map kO⟩:Blk)] 0=some ⟨3,false,M.map kO⟩:=rfl
    cases hx0 with
    |sl _ _ _ _ k' hk' hn' hx' hp=>
     rw [hk0] at hk';cases hk'
     obtain ⟨ad,cap,rfl,hok⟩:=hp (by simp) (by simp)
     by_cases hM0:M=[]
     ·subst hM0
      refine (Go.Proofs.AnyF.slices_SortFunc_none L ad cap _ w).mono (fun e w' he=> ?_)
      obtain ⟨rfl,rfl⟩:=he
      a ht:fV ([]:List Tri)=[]:=List.length_eq_zero_iff.1 (m8 []).length_eq
      rw [ht]
      exact ⟨μ,H, @Chg.refl F _ _ _, @aY.tup F _ _ _ [] #[] rfl (fun i v h=>by simp at h),rfl,fun k hk=>by simp at hk;subst hk;exact fun h=>by cases h⟩
     ·a hpos:0<M.length:=List.length_pos_iff.2 hM0
      rcases hok with ⟨h0,_⟩|⟨c,hm,rfl,hcap,hnc⟩
      ·omega
      ·a hblk:= @bB.lt F μ (bJ [(⟨3,false,M.map kO⟩:Blk)]) w H 0 c hm
       rcases b99 H 0 _ hk0 with ⟨g1,_,_⟩|⟨_,c',arr,t,lo,hi,hm',hh,d,hal,hav⟩|⟨g0,_⟩
       ·simp at g1;exact absurd g1 hM0
       rotate_left
       ·simp at g0
       ·rw [hm] at hm';cases hm'
        simp only [aO] at hal
        a hcell: ∀i,i<M.length*3->arr[i]? =some ((flatK B0 3 M.toArray)[i]!):=by
          intro i hi
          a s:i/3<M.length:=by omega
          a hr:(M.map kO)[i/3]? =some (kO M[i/3]):=by rw [aW,aq s];rfl
          a hj:i%3<3:=gq _ (by omega)
          obtain ⟨v,hvv⟩: ∃v,(kO M[i/3])[i%3]? =some v:=⟨_,aq (l:=kO M[i/3]) (i:=i%3) hj⟩
          a:=hav (i/3) _ (i%3) v hr hvv
          obtain ⟨rfl,_⟩:=Pt _ _ _ hvv
          a e:= @de _ _ _ F _ _ this
          rw [a3i M i hi, <-e]
          a z:i/3*3+i%3=i:=by omega
          rw [z,Array.getD_eq_getD_getElem?,aL (by omega)]
          rfl
        a hH:HoldsK B0 3 w c 0 M.toArray:=by
          intro j hj
          a hj':j<M.length*3:=by simpa using hj
          a hja:j<arr.size:=by omega
          refine ⟨?_, ?_⟩
          ·simp only [World.cell?,hh,cy]
           exact hcell j hj'
          ·simp only [World.frozen?,hh,cy]
           rcases d with d|d
           ·subst d
            simp only [hK,bw]
            omega
           ·simp only [hK,bw]
            omega
        a hcmp:Go.Proofs.CmpLays P g' #[] B0 3 mcf c 0 M.toArray.size w:=by
          intro m os dk _ x y
          a:=b4P hT (hc x y) eg (xs:= #[.agg (B0 x).toArray,.agg (B0 y).toArray]) rfl (fun F μ h w i u hi=>by
           a agg: ∀t:Tri, @aY F μ h w (.agg (kO t)) (.agg (B0 t).toArray):=fun t=>by
             refine @aY.agg F μ h w (kO t) (B0 t).toArray rfl (fun v b=> ?_) (fun j v hj=> ?_)
             ·simp [kO] at b;rcases b with rfl|rfl|rfl<;>rfl
             ·obtain ⟨rfl,hj3⟩:=Pt t j v hj
              a:(B0 t).toArray.getD j undef=(B0 t)[j]! :=by
               a h3:j<(B0 t).length:=hj3
               simp [Array.getD_eq_getD_getElem?,h3]
              rw [this]
              exact @aY.lit F μ h w _
           match i,hi with
           |0,hi=>cases hi;exact agg x
           |1,hi=>cases hi;exact agg y) (sortWorldK B0 3 w c 0 m dk os)
          exact this
        refine (Go.Proofs.AnyQ.slices_SortFunc L 3 aE zE B0 (fun _=>rfl) (fun x v b=>by simp [B0] at b;rcases b with rfl|rfl|rfl<;>rfl) mcf c1t g' #[] c 0 cap M.toArray w eg hcmp hH hblk (by simpa using hsz)).mono (fun e w' he=> ?_)
        obtain ⟨rfl,d',q,os,o,p,hw⟩:=he
        a hd:d'.toList=fV M:=by
          rw [a0z] at p
          a hsz':d'.size=M.toArray.size:=o.1
          exact D3 hkd (by simpa using b7c o) (a9q hsz' p)
        a hd':d'=(fV M).toArray:=by apply eV;simpa using hd
        subst hd'
        a hlen:(fV M).length=M.length:=(m8 M).length_eq
        a hwh:w'.heap=(w.heap.modify c (onCells (putCells id 0 (flatK B0 3 (fV M).toArray))))++os:=by rw [hw];rfl
        a hold: ∀c',c'<w.heap.size->c'≠c->w'.heap[c']? =w.heap[c']? :=by
          intro c' s h2
          rw [hwh,fc (by simpa using s),dT,aa (Ne.symm h2)]
        a hnew:w'.heap[c]? =some (.cells (putCells id 0 (flatK B0 3 (fV M).toArray) arr) t (lo,hi)):=by
          rw [hwh,fc (by simpa using hblk),dT,ae rfl,hh]
          rfl
        a hput:= @bB.put F μ _ w w' H 0 c ⟨3,false,M.map kO⟩ ⟨3,false,(fV M).map kO⟩ hk0 (by simp) (.inl hm) (by rw [hw];rfl) (by rw [hw];rfl) (by rw [hw];rfl)
          (by rw [hwh];simp) (by rw [hw];exact Nat.le_add_right _ _) hold _ t lo hi hnew (by simpa [putCells] using d) rfl
          (by simp only [aO,hlen];simpa [putCells] using hal)
          (fun row hrow=>by
           obtain ⟨x,_,rfl⟩:=bq.1 hrow
           exact ⟨rfl,fun v b=>by simp [kO] at b;rcases b with rfl|rfl|rfl<;>exact ⟨rfl,fun _=>rfl⟩⟩)
          (.inr ⟨by simp [hlen],hm,by unfold bsize;rw [hh];simp [putCells]⟩)
          (fun i row j v s h2=>by
           a hi:i<(fV M).length:=by a:=cS s;simpa using this
           a hr:row=kO (fV M)[i]:=by simp [aq hi] at s;exact s.symm
           subst hr
           obtain ⟨rfl,hj⟩:=Pt _ _ _ h2
           a hsz3:i*3+j<arr.size:=by omega
           a z:i*3+j<(fV M).length*3:=by omega
           a:(putCells id 0 (flatK B0 3 (fV M).toArray) arr).getD (i*3+j) undef=(B0 (fV M)[i])[j]! :=by
            rw [Array.getD_eq_getD_getElem?,aL (by simpa [putCells] using hsz3)]
            simp only [putCells,Array.getElem_mapIdx,qC,true_and,cy,size_flatK,List.size_toArray,dq,oF,id]
            rw [ae z,a3i (fV M) _ z]
            a e1:(i*3+j)/3=i:=by omega
            a e2:(i*3+j)%3=j:=by omega
            simp only [e1,e2]
           rw [this]
           exact @aY.lit F μ _ w _)
        a hbh:bJ [(⟨3,false,(fV M).map kO⟩:Blk)]=bT (bJ [(⟨3,false,M.map kO⟩:Blk)]) 0 ⟨3,false,(fV M).map kO⟩:=by
          funext i;cases i<;>rfl
        refine ⟨cE μ 0 (some c), ?_, ?_, @aY.tup F _ _ _ [] #[] rfl (fun i v h=>by simp at h),rfl,fun k hk=>by simp at hk;subst hk;exact fun h=>by cases h⟩
        ·rw [hbh];exact hput.1
        ·rw [hbh];exact hput.2
   ·cases h
  ·cases h
 ·cases h
end Go.AI
