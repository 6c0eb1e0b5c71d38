/- A circuit's system: which vectors satisfy it. -/
import Derived.Test.YtgjlndaebhaciaaPv0
set_option linter.unusedVariables false
set_option linter.unusedSimpArgs false
namespace Go.AI.Fn
def zc (z:List Int) (c:Int):Int:=z.getD c.toNat 0
def rS (z:List Int) (r x:Int) (e:ah):Int:=if e.Row=r then aF x (mF e.Value (zc z e.Col)) else x
def rV (z:List Int) (r:Int) (L:List ah):Int:=L.foldl (rS z r) 0
theorem IK (z:List Int) {k:Nat}: ∀(L:List ah) (T:List Int),(∀e∈L,0≤e.Row∧e.Row<T.length)→(L.foldl (muS z) T).getD k 0=L.foldl (rS z k) (T.getD k 0)
 |[],_,_=>rfl
 |e::L,T,h=>by
  have he:=h e (by simp)
  rw [List.foldl_cons,List.foldl_cons,IK z L _ (fun x hx=>by rw [muS,List.length_set];exact h x (by simp [hx]))]
  congr 1
  unfold muS rS zc
  by_cases hk:e.Row=(k:Int)
  ·rw [if_pos hk,hk,Int.toNat_natCast,List.getD_eq_getElem?_getD,List.getElem?_set,if_pos rfl,if_pos om];rfl
  ·rw [if_neg hk,List.getD_eq_getElem?_getD,List.getElem?_set,if_neg om, ←List.getD_eq_getElem?_getD]
theorem D7 {z:List Int} {n k:Nat} {L:List ah} (h: ∀e∈L,0≤e.Row∧e.Row<((2^n:Nat):Int)):(muM L n z).getD k 0=rV z k L:=by
 rw [muM,IK z L _ (fun e he=>by rw [List.length_replicate];exact h e he)]
 have:(List.replicate (2^n) (0:Int)).getD k 0=0:=by
  rw [List.getD_eq_getElem?_getD,List.getElem?_replicate];split<;>rfl
 rw [this];rfl
theorem Dm {z:List Int} {r:Int}: ∀{L:List ah} {x:Int},(∀e∈L,e.Row≠r)→L.foldl (rS z r) x=x
 |[],_,_=>rfl
 |e::L,x,h=>by rw [List.foldl_cons,rS,if_neg (h e (by simp)),Dm (fun e he=>h e (by simp [he]))]
theorem Nv (z:List Int) (r:Int) (L N:List ah):rV z r (L++N)=N.foldl (rS z r) (rV z r L):=by rw [rV,List.foldl_append];rfl
theorem vH {z:List Int} {r:Int} {L:List ah} (h: ∀e∈L,e.Row<r):rV z r L=0:=Dm fun e he=>by have:=h e he;omega
theorem vz {z:List Int} (h:de z) (i:Nat):okF (z.getD i 0):=by
 by_cases hi:i<z.length
 ·exact cS h hi
 ·rw [List.getD_eq_getElem?_getD,List.getElem?_eq_none om];exact W0
theorem Qv {x:Int} (h:okF x):mF 1 x=x:=by unfold mF;rw [Int.one_mul];exact Fj h
theorem yI {x:Int} (h:okF x):mF x 1=x:=by unfold mF;rw [Int.mul_one];exact Fj h
theorem Wg (x:Int):mF 0 x=0:=by unfold mF;rw [Int.zero_mul];rfl
theorem QQ (a b x:Int):mF (aF a b) x=aF (mF a x) (mF b x):=by
 unfold mF aF
 rw [mM1,mA1,mA2,Int.add_mul]
theorem YU (a b:Int):aF a b=aF b a:=by unfold aF;rw [Int.add_comm]
theorem WV {a b:Int}:aF a (mF 2130706432 b)=sF a b:=by
 unfold aF mF sF
 rw [mA2]
 have:a+2130706432*b=(a-b)+b*2130706433:=by omega
 rw [this,Int.add_mul_emod_self_right]
structure AD (z:List Int) (r:Int) (A A':List ah) (x:Int):Prop where
 old: ∀k,k<r→rV z k A'=rV z k A
 new:rV z r A'=x
 row: ∀e∈A',e.Row<r+1
theorem BC {z:List Int} {r:Int} {A:List ah} (h: ∀e∈A,e.Row<r):AD z r A A 0:=⟨fun _ _=>rfl,vH h,fun e he=>by have:=h e he;omega⟩
theorem yc {z:List Int} {r x:Int} {A N:List ah} (h: ∀e∈A,e.Row<r) (hN: ∀e∈N,e.Row=r) (hx:N.foldl (rS z r) 0=x):AD z r A (A++N) x:=
 ⟨fun k hk=>by rw [Nv];exact Dm fun e he=>by have:=hN e he;omega,by rw [Nv,vH h];exact hx,fun e he=>by
  rcases List.mem_append.1 he with he|he
  ·have:=h e he;omega
  ·have:=hN e he;omega⟩
theorem dW {z:List Int} {r c v:Int} {A:List ah} (h: ∀e∈A,e.Row<r):AD z r A (enM A r c v) (mF v (zc z c)):=by
 rw [vv h]
 refine yc h (fun e he=>by simp at he;subst he;rfl) ?_
 rw [List.foldl_cons,List.foldl_nil,rS,if_pos rfl,ES (BN _ _)]
theorem FV {z:List Int} {r c1 c2 v1 v2:Int} {A:List ah} (h: ∀e∈A,e.Row<r):AD z r A (enM (enM A r c1 v1) r c2 v2) (aF (mF v1 (zc z c1)) (mF v2 (zc z c2))):=by
 rw [vv h,IV h]
 by_cases c:c1>c2
 ·rw [if_pos c]
  refine yc h (fun e he=>by simp at he;rcases he with rfl|rfl<;>rfl) ?_
  rw [List.foldl_cons,List.foldl_cons,List.foldl_nil,rS,rS,if_pos rfl,if_pos rfl,ES (BN _ _),YU]
 ·rw [if_neg c]
  by_cases c':c1=c2
  ·rw [if_pos c']
   subst c'
   by_cases c0:aF v1 v2=0
   ·rw [if_pos c0, ←QQ,c0,Wg];exact BC h
   ·rw [if_neg c0]
    refine yc h (fun e he=>by simp at he;subst he;rfl) ?_
    rw [List.foldl_cons,List.foldl_nil,rS,if_pos rfl,ES (BN _ _),QQ]
  ·rw [if_neg c']
   refine yc h (fun e he=>by simp at he;rcases he with rfl|rfl<;>rfl) ?_
   rw [List.foldl_cons,List.foldl_cons,List.foldl_nil,rS,rS,if_pos rfl,if_pos rfl,ES (BN _ _)]
def Mc (z:List Int) (r:Int) (A B C:List ah):Prop:= ∀k:Int,0≤k→k<r→mF (rV z k A) (rV z k B)=rV z k C
theorem mo {z:List Int} {r x y w:Int} {A B C A' B' C':List ah} (hr:0≤r) (a:AD z r A A' x) (b:AD z r B B' y) (c:AD z r C C' w):Mc z (r+1) A' B' C'↔Mc z r A B C∧mF x y=w:=by
 constructor
 ·intro h
  refine ⟨fun k k0 k1=> ?_, ?_⟩
  ·have:=h k k0 om
   rwa [a.old k k1,b.old k k1,c.old k k1] at this
  ·have:=h r hr om
   rwa [a.new,b.new,c.new] at this
 ·rintro ⟨h,e⟩ k k0 k1
  by_cases hk:k<r
  ·rw [a.old k hk,b.old k hk,c.old k hk];exact h k k0 hk
  ·have:k=r:=by omega
   rw [this,a.new,b.new,c.new];exact e
def eqG (a b c:Int) (g:ab):Prop:=
 if g.Op=1∨g.Op=2 then True else if g.Op=6 then mF a b=c else if g.Op=4 then aF a b=c else if g.Op=5 then sF a b=c
 else if g.Op=3 then g.K=c else if g.Op=7 then b=c∧a=c else mF a a=c∧a=c
structure TY (r:Int) (A B C:List ah):Prop where
 a: ∀e∈A,e.Row<r
 b: ∀e∈B,e.Row<r
 c: ∀e∈C,e.Row<r
theorem WW {z:List Int} {a b c r:Int} {g:ab} {A B C:List ah} (hr:0≤r) (hz:de z) (z0:z.getD 0 0=1) (hop:1≤g.Op∧g.Op≤8) (hK:g.Op=3→okF g.K) (h:TY r A B C):
 (Mc z (syM a b c g r A B C).1 (syM a b c g r A B C).2.1 (syM a b c g r A B C).2.2.1 (syM a b c g r A B C).2.2.2↔Mc z r A B C∧eqG (zc z a) (zc z b) (zc z c) g)∧
  TY (syM a b c g r A B C).1 (syM a b c g r A B C).2.1 (syM a b c g r A B C).2.2.1 (syM a b c g r A B C).2.2.2:=by
 have za:okF (zc z a):=vz hz a.toNat
 have zb:okF (zc z b):=vz hz b.toNat
 have zc':okF (zc z c):=vz hz c.toNat
 have e0:zc z 0=1:=z0
 have e1:mF 1 (zc z 0)=1:=by rw [e0];rfl
 have ea:mF 1 (zc z a)=zc z a:=Qv za
 have eb:mF 1 (zc z b)=zc z b:=Qv zb
 have ec:mF 1 (zc z c)=zc z c:=Qv zc'
 unfold syM eqG
 by_cases h1:g.Op=1∨g.Op=2
 ·rw [if_pos h1,if_pos h1];exact ⟨⟨fun h=>⟨h,trivial⟩,fun h=>h.1⟩,h⟩
 rw [if_neg h1,if_neg h1]
 have rows: ∀{r:Int} {A B C A' B' C':List ah} {x y w:Int},AD z r A A' x→AD z r B B' y→AD z r C C' w→TY (r+1) A' B' C':=fun a b c=>⟨a.row,b.row,c.row⟩
 have xB1:=dW (z:=z) (c:=0) (v:=1) h.b
 have xC1:=dW (z:=z) (c:=c) (v:=1) h.c
 by_cases h6:g.Op=6
 ·rw [if_pos h6,if_pos h6]
  have xA1:=dW (z:=z) (c:=a) (v:=1) h.a
  have xb1:=dW (z:=z) (c:=b) (v:=1) h.b
  refine ⟨?_,rows xA1 xb1 xC1⟩
  have:=mo hr xA1 xb1 xC1
  rwa [ea,eb,ec] at this
 rw [if_neg h6,if_neg h6]
 by_cases h4:g.Op=4
 ·rw [if_pos h4,if_pos h4]
  have xA1:=FV (z:=z) (c1:=a) (v1:=1) (c2:=b) (v2:=1) h.a
  refine ⟨?_,rows xA1 xB1 xC1⟩
  have:=mo hr xA1 xB1 xC1
  rwa [ea,eb,ec,e1,yI (Bm _ _)] at this
 rw [if_neg h4,if_neg h4]
 by_cases h5:g.Op=5
 ·rw [if_pos h5,if_pos h5]
  have xA1:=FV (z:=z) (c1:=a) (v1:=1) (c2:=b) (v2:=2130706432) h.a
  refine ⟨?_,rows xA1 xB1 xC1⟩
  have:=mo hr xA1 xB1 xC1
  rwa [ea,ec,e1,WV,yI (W6 _ _)] at this
 rw [if_neg h5,if_neg h5]
 by_cases h3:g.Op=3
 ·rw [if_pos h3,if_pos h3]
  have hk:=hK h3
  by_cases hp:g.K>0
  ·rw [if_pos hp]
   have xA1:=dW (z:=z) (c:=0) (v:=g.K) h.a
   refine ⟨?_,rows xA1 xB1 xC1⟩
   have:=mo hr xA1 xB1 xC1
   rwa [e0,yI hk,ec,show mF 1 1=1 from rfl,yI hk] at this
  ·rw [if_neg hp]
   have xA1:=BC (z:=z) h.a
   refine ⟨?_,rows xA1 xB1 xC1⟩
   have:=mo hr xA1 xB1 xC1
   have hz:g.K=0:=by have:=hk.1;omega
   rw [e1,ec,Wg] at this
   rw [hz];exact this
 rw [if_neg h3,if_neg h3]
 by_cases h7:g.Op=7
 ·rw [if_pos h7,if_pos h7]
  have xA1:=dW (z:=z) (c:=b) (v:=1) h.a
  have q:=rows xA1 xB1 xC1
  have pA:=dW (z:=z) (c:=a) (v:=1) q.a
  have pB:=dW (z:=z) (c:=0) (v:=1) q.b
  have pC:=dW (z:=z) (c:=c) (v:=1) q.c
  refine ⟨?_,rows pA pB pC⟩
  have s1:=mo hr xA1 xB1 xC1
  have s2:=mo om pA pB pC
  rw [eb,ec,e1,yI zb] at s1
  rw [ea,ec,e1,yI za,s1,and_assoc] at s2
  exact s2
 rw [if_neg h7,if_neg h7]
 have xA1:=dW (z:=z) (c:=a) (v:=1) h.a
 have xb1:=dW (z:=z) (c:=a) (v:=1) h.b
 have q:=rows xA1 xb1 xC1
 have pA:=dW (z:=z) (c:=a) (v:=1) q.a
 have pB:=dW (z:=z) (c:=0) (v:=1) q.b
 have pC:=dW (z:=z) (c:=c) (v:=1) q.c
 refine ⟨?_,rows pA pB pC⟩
 have s1:=mo hr xA1 xb1 xC1
 have s2:=mo om pA pB pC
 rw [ea,ec] at s1
 rw [ea,ec,e1,yI za,s1,and_assoc] at s2
 exact s2
theorem PR {z:List Int} {l:List ab} (ok:OkC l) (hz:de z) (z0:z.getD 0 0=1): ∀j,j≤l.length→
 (Mc z (fdM l j).1 (fdM l j).2.1 (fdM l j).2.2.1 (fdM l j).2.2.2↔ ∀(i:Nat) (hi:i<l.length),i<j→eqG (zc z (oS l l[i].A.toNat)) (zc z (oS l l[i].B.toNat)) (zc z (oS l i)) l[i])∧TY (fdM l j).1 (fdM l j).2.1 (fdM l j).2.2.1 (fdM l j).2.2.2
 |0,_=>⟨⟨fun _ i _ h=>by omega,fun _ k k0 k1=>by have:(fdM l 0).1=0:=rfl;omega⟩,⟨(fun e he=>by cases he),(fun e he=>by cases he),(fun e he=>by cases he)⟩⟩
 |j+1,h=>by
  obtain ⟨ih,rw3⟩:=PR ok hz z0 j om
  obtain ⟨_,r0,_⟩:=wS ok j om
  have hj:j<l.length:=by omega
  have hd:l.getD j ⟨0,0,0,0⟩=l[j]:=by simp [hj]
  obtain ⟨g1,g2,g3,g4⟩:=kH (ok.g j hj)
  obtain ⟨s,q⟩:=WW (a:=(dq l l.length).getD l[j].A.toNat 0) (b:=(dq l l.length).getD l[j].B.toNat 0) (c:=(dq l l.length).getD j 0) (g:=l[j]) r0 hz z0 g1 g4 rw3
  rw [fdM,hd]
  refine ⟨?_,q⟩
  rw [s,ih]
  have key:eqG (zc z ((dq l l.length).getD l[j].A.toNat 0)) (zc z ((dq l l.length).getD l[j].B.toNat 0)) (zc z ((dq l l.length).getD j 0)) l[j]↔eqG (zc z (oS l l[j].A.toNat)) (zc z (oS l l[j].B.toNat)) (zc z (oS l j)) l[j]:=by
   rw [p7 hj]
   by_cases h4:4≤l[j].Op
   ·have a:=g2 h4
    rw [p7 om]
    by_cases h7:l[j].Op≤7
    ·have b:=g3 h4 h7
     rw [p7 om]
    ·unfold eqG
     rw [if_neg om,if_neg om,if_neg om,if_neg om,if_neg om,if_neg om,if_neg om,if_neg om,if_neg om,if_neg om,if_neg om,if_neg om]
   ·unfold eqG
    by_cases h12:l[j].Op=1∨l[j].Op=2
    ·rw [if_pos h12,if_pos h12]
    ·have h3:l[j].Op=3:=by omega
     rw [if_neg h12,if_neg om,if_neg om,if_neg om,if_pos h3,if_neg h12,if_neg om,if_neg om,if_neg om,if_pos h3]
  rw [key]
  constructor
  ·rintro ⟨h1,h2⟩ i hi hlt
   by_cases e:i=j
   ·subst e;exact h2
   ·exact h1 i hi om
  ·intro h
   exact ⟨fun i hi hlt=>h i hi om,h j hj om⟩
end Go.AI.Fn
set_option linter.unusedVariables false
set_option linter.unusedSimpArgs false
namespace Go.AI.Fn
theorem MkR.mat {l:List ah} {row R C:Int} (h:MkR l row C) (hr:row≤R-1) (hl:l.length≤200):qr l R C=true:=by
 refine Nl hl fun t=> ?_
 rintro ⟨x,hx,hb⟩
 have hm:x∈l:=List.mem_of_getElem? hx
 obtain ⟨a1,a2,a3,a4,a5,a6⟩:=h.ent x hm
 rcases hb with hb|⟨ht,y,hy,hb⟩
 ·exact hb ⟨⟨a1,by omega⟩,⟨a3,a4⟩,a5,a6⟩
 ·refine hb ?_
  have h1:=(List.getElem?_eq_some_iff.1 hx)
  have h2:=(List.getElem?_eq_some_iff.1 hy)
  obtain ⟨i1,e1⟩:=h1
  obtain ⟨i2,e2⟩:=h2
  have:=List.pairwise_iff_getElem.1 h.srt (t-1) t i2 i1 om
  rwa [e1,e2] at this
theorem MJ {l:List ab} (ok:OkC l):vZ (iq l)=true:=by
 obtain ⟨m,r0,r1⟩:=wS ok l.length (Nat.le_refl _)
 have hn:=ok.n2
 have hl:=xe l
 have hr:=Zh (fdM l l.length).1
 have hf:=Jq (r:=(fdM l l.length).1) om
 have hg:=GN ok
 unfold vZ
 have c1:(iq l).Rows=((rlM (fdM l l.length).1:Nat):Int):=rfl
 have c2:(iq l).Cols=((lgC l:Nat):Int):=rfl
 have c3:(iq l).Publics=((aD l 2:Nat):Int):=rfl
 have e3:((lgC l:Nat):Int)-1=((lgC l-1:Nat):Int):=by omega
 rw [c1,c2,c3,e3,yY om,yY om,yY om]
 have la:=m.la
 have lb:=m.lb
 have lc:=m.lc
 have mA:qr (iq l).A ((2^rlM (fdM l l.length).1:Nat):Int) ((2^lgC l:Nat):Int)=true:=m.a.mat om (by show (fdM l l.length).2.1.length≤200;omega)
 have mB:qr (iq l).B ((2^rlM (fdM l l.length).1:Nat):Int) ((2^lgC l:Nat):Int)=true:=m.b.mat om (by show (fdM l l.length).2.2.1.length≤200;omega)
 have mC:qr (iq l).C ((2^rlM (fdM l l.length).1:Nat):Int) ((2^lgC l:Nat):Int)=true:=m.c.mat om (by show (fdM l l.length).2.2.2.length≤200;omega)
 rw [mA,mB,mC,decide_eq_true om,decide_eq_true om,decide_eq_true om];rfl
theorem yS (l:List ab):Av (iq l)=2^(lgC l-1):=rfl
theorem MT (l:List ab):(iq l).Cols.toNat=lgC l:=rfl
theorem vD (l:List ab):(iq l).Rows.toNat=rlM (fdM l l.length).1:=rfl
theorem pZ {L:List ah} {z:List Int} {n:Nat} (hn:n≤20) (hm:OkM L ((2^n:Nat):Int) (z.length:Int)) (hz:de z):jU L (n:Int) z=some (muM L n z):=by
 have hl:=hm.len
 have hp:2^n≤2^20:=Nat.pow_le_pow_right om hn
 have hp2:(2:Nat)^20=1048576:=by decide
 have h0:(0:Int)≤((2^n:Nat):Int):=Int.natCast_nonneg _
 have h3:((2^n:Nat):Int)≤1048576:=by rw [hp2] at hp;exact Int.ofNat_le.2 hp
 unfold jU
 rw [brd om,yY om,Wb h0 (Int.le_refl _) om,Int.toNat_natCast]
 have key:=cq (step:=fZ z L (L.length:Int)) (fun j=>((L.take j).foldl (muS z) (List.replicate (2^n) 0),(j:Int))) L.length (e:=(muM L n z,(L.length:Int),false)) (fun j hj=> ?_) ?_
 ·have:(((L.take 0).foldl (muS z) (List.replicate (2^n) 0),((0:Nat):Int)):List Int×Int)=(List.replicate (2^n) 0,0):=rfl
  rw [←this,key];rfl
 ·obtain ⟨⟨a1,a2⟩,⟨b1,b2⟩,v1,v2⟩:=hm.ent L[j] (List.getElem_mem hj)
  have hT:=DI z (L.take j) (List.replicate (2^n) 0)
  rw [List.length_replicate] at hT
  have hok:de ((L.take j).foldl (muS z) (List.replicate (2^n) 0)):=Hp z _ _ (by
   intro x hx
   rw [List.eq_of_mem_replicate hx]
   exact ⟨by omega,by omega⟩)
  simp only [fZ]
  rw [brd om,eJ hj,obs,co hj,List.foldl_append,List.foldl_cons,List.foldl_nil]
  generalize (L.take j).foldl (muS z) (List.replicate (2^n) 0)=T at*
  generalize L[j]=x at*
  rw [brd a1,brd om,dw om,obs,DK b1 om,obs,Ak ⟨by omega,by omega⟩ (cS hz om),obs,pc (cS hok om) (BN _ _),obs,brd a1,brd om,obs,ae _ om om,muS];rfl
 ·simp only [fZ]
  rw [brn om,decide_eq_false om,List.take_length];rfl
def xX (s:aX) (z:List Int) (k:Nat):Bool:=mF ((muM s.A s.Rows.toNat z).getD k 0) ((muM s.B s.Rows.toNat z).getD k 0)==(muM s.C s.Rows.toNat z).getD k 0
def DO (s:aX) (z:List Int):Bool:=(List.range (2^s.Rows.toNat)).all (xX s z)
theorem a1R {s:aX} (h:vZ s=true):OkM s.A ((2^s.Rows.toNat:Nat):Int) ((2^s.Cols.toNat:Nat):Int)∧OkM s.B ((2^s.Rows.toNat:Nat):Int) ((2^s.Cols.toNat:Nat):Int)∧OkM s.C ((2^s.Rows.toNat:Nat):Int) ((2^s.Cols.toNat:Nat):Int):=by
 obtain ⟨hR,hC,_⟩:=wj h
 unfold vZ at h
 simp only [Bool.and_eq_true,decide_eq_true_eq] at h
 obtain ⟨_,_,_,h4,h5,h6⟩:=h
 have e1:bo .i64 1 s.Rows=((2^s.Rows.toNat:Nat):Int):=by
  have:s.Rows=((s.Rows.toNat:Nat):Int):=by omega
  conv=>lhs;rw [this]
  exact yY om
 have e2:bo .i64 1 s.Cols=((2^s.Cols.toNat:Nat):Int):=by
  have:s.Cols=((s.Cols.toNat:Nat):Int):=by omega
  conv=>lhs;rw [this]
  exact yY om
 rw [e1,e2] at h4 h5 h6
 exact ⟨C6 h4,C6 h5,C6 h6⟩
theorem Ew {s:aX} {z:List Int} (h:vZ s=true) (hz:de z) (lz:z.length=2^s.Cols.toNat): ∃r,fM s z=some r∧decide (r<0)=DO s z:=by
 obtain ⟨hA,hB,hC⟩:=a1R h
 obtain ⟨hR,_⟩:=wj h
 have hp:=wx s.Rows.toNat om
 have eR:s.Rows=((s.Rows.toNat:Nat):Int):=by omega
 rw [←lz] at hA hB hC
 unfold fM
 rw [eR,pZ om hA hz,obs,pZ om hB hz,obs,pZ om hC hz,obs,yt]
 have okA:=P2 s.A s.Rows.toNat z
 have okB:=P2 s.B s.Rows.toNat z
 have hlA:=yt s.A s.Rows.toNat z
 have hlB:=yt s.B s.Rows.toNat z
 have hlC:=yt s.C s.Rows.toNat z
 have stp: ∀k:Nat,k<2^s.Rows.toNat→bv (muM s.A s.Rows.toNat z) (muM s.B s.Rows.toNat z) (muM s.C s.Rows.toNat z) ((2^s.Rows.toNat:Nat):Int) ((s.Rows.toNat:Nat):Int) s.Cols s.Publics s.A s.B s.C (k:Int)=if xX s z k=true then some (.inl ((k+1:Nat):Int)) else some (.inr (.inl (k:Int))):=fun k hk=>by
  simp only [bv]
  rw [brd om,jv om,obs,jv om,obs,Ak (cS okA om) (cS okB om),obs,jv om,obs,ae _ om om]
  unfold xX
  by_cases e:mF ((muM s.A s.Rows.toNat z).getD k 0) ((muM s.B s.Rows.toNat z).getD k 0)=(muM s.C s.Rows.toNat z).getD k 0
  ·rw [rr e,if_pos (by simpa using e)];rfl
  ·rw [brb e,if_neg (by simpa using e)]
 have key:=rP (step:=bv (muM s.A s.Rows.toNat z) (muM s.B s.Rows.toNat z) (muM s.C s.Rows.toNat z) ((2^s.Rows.toNat:Nat):Int) ((s.Rows.toNat:Nat):Int) s.Cols s.Publics s.A s.B s.C) (fun k=>(k:Int)) (2^s.Rows.toNat) (xX s z) (fun k=> .inl (k:Int)) (e:= .inr (((2^s.Rows.toNat:Nat):Int),false))
  (fun k hk hp=>by rw [stp k hk,if_pos hp]) (fun k hk hp=>by rw [stp k hk,if_neg (by rw [hp];simp)]) (by simp only [bv];rw [brn om,decide_eq_false om])
 rcases key with ⟨h2,h3⟩|⟨k,hk,h2,_,h3⟩
 ·have h4:Loop (bv (muM s.A s.Rows.toNat z) (muM s.B s.Rows.toNat z) (muM s.C s.Rows.toNat z) ((2^s.Rows.toNat:Nat):Int) ((s.Rows.toNat:Nat):Int) s.Cols s.Publics s.A s.B s.C) 0=_:=h3
  refine ⟨-1,by rw [h4,obs,qt], ?_⟩
  have:DO s z=true:=List.all_eq_true.2 fun k hk=>h2 k (List.mem_range.1 hk)
  rw [this];rfl
 ·have h4:Loop (bv (muM s.A s.Rows.toNat z) (muM s.B s.Rows.toNat z) (muM s.C s.Rows.toNat z) ((2^s.Rows.toNat:Nat):Int) ((s.Rows.toNat:Nat):Int) s.Cols s.Publics s.A s.B s.C) 0=_:=h3
  refine ⟨(k:Int),by rw [h4,obs,nW], ?_⟩
  have:DO s z=false:=List.all_eq_false.2 ⟨k,List.mem_range.2 hk,by rw [h2];simp⟩
  rw [this,decide_eq_false om]
theorem Ab {s:aX} {z:List Int} (h:vZ s=true) (hz:de z) (lz:z.length=2^s.Cols.toNat):lu s z=some (DO s z,0):=by
 obtain ⟨hR,hC,_,lA,lB,lC⟩:=wj h
 have hp:=wx s.Cols.toNat om
 obtain ⟨r,e,hr⟩:=Ew h hz lz
 have e2:bo .i64 1 s.Cols=((2^s.Cols.toNat:Nat):Int):=by
  have:s.Cols=((s.Cols.toNat:Nat):Int):=by omega
  conv=>lhs;rw [this]
  exact yY om
 unfold lu kI
 rw [brn om,u9 om om om,obs,h,Bool.not_true,aO,p9 om,obs,vn hz,Bool.not_true,aO,brd om,e2,rr om,obs,rr rfl,e,obs,hr]
theorem QJ {s:aX} {z:List Int}:DO s z=true↔ ∀k,k<2^s.Rows.toNat→mF ((muM s.A s.Rows.toNat z).getD k 0) ((muM s.B s.Rows.toNat z).getD k 0)=(muM s.C s.Rows.toNat z).getD k 0:=by
 unfold DO xX
 rw [List.all_eq_true]
 constructor
 ·intro h k hk;simpa using h k (List.mem_range.2 hk)
 ·intro h k hk;simpa using h k (List.mem_range.1 hk)
theorem Tu {l:List ab} {z:List Int} (ok:OkC l) (hz:de z) (z0:z.getD 0 0=1):
 DO (iq l) z=true↔ ∀(i:Nat) (hi:i<l.length),eqG (zc z (oS l l[i].A.toNat)) (zc z (oS l l[i].B.toNat)) (zc z (oS l i)) l[i]:=by
 obtain ⟨m,r0,r1⟩:=wS ok l.length (Nat.le_refl _)
 obtain ⟨hs,rw3⟩:=PR ok hz z0 l.length (Nat.le_refl _)
 have hn:=ok.n2
 have hf:=Jq (r:=(fdM l l.length).1) om
 have gA: ∀k,k<2^(iq l).Rows.toNat→(muM (iq l).A (iq l).Rows.toNat z).getD k 0=rV z k (fdM l l.length).2.1:=fun k hk=>D7 fun e he=>by
  have h1:=rw3.a e he
  obtain ⟨a1,_⟩:=m.a.ent e he
  refine ⟨a1, ?_⟩
  rw [vD];omega
 have gB: ∀k,k<2^(iq l).Rows.toNat→(muM (iq l).B (iq l).Rows.toNat z).getD k 0=rV z k (fdM l l.length).2.2.1:=fun k hk=>D7 fun e he=>by
  have h1:=rw3.b e he
  obtain ⟨a1,_⟩:=m.b.ent e he
  refine ⟨a1, ?_⟩
  rw [vD];omega
 have gC: ∀k,k<2^(iq l).Rows.toNat→(muM (iq l).C (iq l).Rows.toNat z).getD k 0=rV z k (fdM l l.length).2.2.2:=fun k hk=>D7 fun e he=>by
  have h1:=rw3.c e he
  obtain ⟨a1,_⟩:=m.c.ent e he
  refine ⟨a1, ?_⟩
  rw [vD];omega
 have step:DO (iq l) z=true↔Mc z (fdM l l.length).1 (fdM l l.length).2.1 (fdM l l.length).2.2.1 (fdM l l.length).2.2.2:=by
  rw [QJ]
  constructor
  ·intro h k k0 k1
   have hk:k.toNat<2^(iq l).Rows.toNat:=by rw [vD];omega
   have:=h k.toNat hk
   rw [gA _ hk,gB _ hk,gC _ hk] at this
   rwa [show ((k.toNat:Nat):Int)=k by omega] at this
  ·intro h k hk
   rw [gA _ hk,gB _ hk,gC _ hk]
   by_cases c:(k:Int)<(fdM l l.length).1
   ·exact h k om c
   ·rw [vH (fun e he=>by have:=rw3.a e he;omega),vH (fun e he=>by have:=rw3.b e he;omega),vH (fun e he=>by have:=rw3.c e he;omega)];rfl
 rw [step,hs]
 exact ⟨fun h i hi=>h i hi hi,fun h i hi _=>h i hi⟩
end Go.AI.Fn
set_option linter.unusedVariables false
set_option linter.unusedSimpArgs false
namespace Go.AI.Fn
theorem a1B {h n:Nat} {P pr:List Int}:(wG h n P pr).getD 0 0=1:=rfl
theorem TN {h n i:Nat} {P pr:List Int} (hi:i<P.length):(wG h n P pr).getD (i+1) 0=P.getD i 0:=by
 rw [wG,List.getD_eq_getElem?_getD,List.getElem?_append_left (by simp;omega),List.getElem?_append_left (by simp;omega),List.getElem?_cons_succ, ←List.getD_eq_getElem?_getD]
theorem MG {h n i:Nat} {P pr:List Int} (h1:P.length+1≤h) (hi:i<pr.length):(wG h n P pr).getD (h+i) 0=pr.getD i 0:=by
 have hl:((1::P)++List.replicate (h-1-P.length) (0:Int)).length=h:=by simp;omega
 rw [wG,List.getD_eq_getElem?_getD,List.getElem?_append_right om,hl,List.getElem?_append_left om,Nat.add_sub_cancel_left, ←List.getD_eq_getElem?_getD]
def Ep (l:List ab) (P pr:List Int):List Int:=wG (2^(lgC l-1)) (2^lgC l) P pr
theorem Cy {l:List ab} (ok:OkC l) {P pr:List Int} (lP:P.length=aD l 2) (lp:pr.length+aD l 2=l.length):P.length+1≤2^(lgC l-1)∧pr.length≤2^(lgC l-1)∧2^lgC l=2^(lgC l-1)+2^(lgC l-1)∧2^lgC l≤32:=by
 have hf:=GN ok
 have hg:=xe l
 have hp:=zw (n:=lgC l) om
 have h5:=wx (lgC l) om
 omega
theorem wa {l:List ab} (ok:OkC l) {P pr:List Int} (lP:P.length=aD l 2) (lp:pr.length+aD l 2=l.length) {j:Nat} (hj:j<l.length):
 zc (Ep l P pr) (oS l j)=if l[j].Op=2 then P.getD (aD (l.take j) 2) 0 else pr.getD (j-aD (l.take j) 2) 0:=by
 obtain ⟨s1,s2,s3,s4⟩:=Cy ok lP lp
 have l2:aD (l.take j) 2≤j:=by have:=cM (l.take j) 2;rw [List.length_take] at this;omega
 unfold zc oS
 rw [show l.getD j ⟨0,0,0,0⟩=l[j] by simp [hj]]
 by_cases h:l[j].Op=2
 ·have:=dV hj h
  rw [if_pos h,if_pos h,show ((aD (l.take j) 2:Int)+1).toNat=aD (l.take j) 2+1 by omega]
  exact TN om
 ·have h2:=mK l (j+1) 2
  rw [co hj,bO,if_neg (by simpa using h)] at h2
  rw [if_neg h,if_neg h,show (((2^(lgC l-1):Nat):Int)+((j:Int)-(aD (l.take j) 2:Int))).toNat=2^(lgC l-1)+(j-aD (l.take j) 2) by omega]
  exact MG om om
theorem Cq {v:List Int} {l:List ab} {j:Nat} (hj:j<l.length) (h:l[j].Op≠2): ∀n,j<n→n≤l.length→(prM v l n).getD (j-aD (l.take j) 2) 0=v.getD j 0
 |0,h0,_=>by omega
 |n+1,h0,hn=>by
  have hl:=sX v l n om
  have hlj:=sX v l j om
  by_cases e:j=n
  ·subst e
   have hd:l.getD j ⟨0,0,0,0⟩=l[j]:=by simp [hj]
   rw [prM,hd,if_neg h,List.getD_eq_getElem?_getD,List.getElem?_append_right om,show j-aD (l.take j) 2-(prM v l j).length=0 by omega];rfl
  ·have ih:=Cq (v:=v) hj h n om om
   have h1:=sX v l (j+1) om
   have hlt:j-aD (l.take j) 2<(prM v l n).length:=by
    have h2:=mK (l.take n) (j+1) 2
    rw [List.take_take,Nat.min_eq_left om,co hj,bO,if_neg (by simpa using h),List.length_take] at h2
    have l2:aD (l.take j) 2≤j:=by have:=cM (l.take j) 2;rw [List.length_take] at this;omega
    omega
   rw [prM,List.getD_eq_getElem?_getD,List.getElem?_append_left hlt, ←List.getD_eq_getElem?_getD,ih]
theorem Ax (v:List Int) (l:List ab):(prM v l l.length).length+aD l 2=l.length:=by
 have:=sX v l l.length (Nat.le_refl _)
 rwa [List.take_length] at this
theorem Rg (P I:List Int) (l:List ab) {j n:Nat} (hj:j<n) (hl:j<l.length):(rnM P I l n).getD j 0=gvM P I (rnM P I l j) (aD (l.take j) 2) (aD (l.take j) 1) l[j]:=by
 have hd:l.getD j ⟨0,0,0,0⟩=l[j]:=by simp [hl]
 rw [vr P I l (j:=j+1) om om,rnM,hd,List.getD_eq_getElem?_getD,List.getElem?_append_right (by rw [iH];omega),iH,Nat.sub_self];rfl
theorem VQ {l:List ab} (ok:OkC l) {P I:List Int} (lP:P.length=aD l 2) {j:Nat} (hj:j<l.length):
 zc (Ep l P (prM (rnM P I l l.length) l l.length)) (oS l j)=(rnM P I l l.length).getD j 0:=by
 rw [wa ok lP (Ax _ _) hj]
 by_cases h:l[j].Op=2
 ·rw [if_pos h,Rg P I l hj hj]
  unfold gvM
  rw [if_neg om,if_pos h]
 ·rw [if_neg h,Cq hj h _ hj (Nat.le_refl _)]
theorem a1d {P I:List Int} {l:List ab} {j:Nat} (ok:OkC l) (hP:de P) (hI:de I) (lP:P.length=aD l 2) (lI:I.length=aD l 1) (hj:j<l.length) (hf:en (rnM P I l l.length) l[j]=true):
 eqG ((rnM P I l l.length).getD l[j].A.toNat 0) ((rnM P I l l.length).getD l[j].B.toNat 0) ((rnM P I l l.length).getD j 0) l[j]:=by
 obtain ⟨g1,g2,g3,g4⟩:=kH (ok.g j hj)
 have hv:=xa ok hP hI lP lI l.length (Nat.le_refl _)
 have hlen:=iH P I l l.length
 rw [Rg P I l (n:=l.length) hj hj]
 have ga: ∀i:Nat,i<j→(rnM P I l j).getD i 0=(rnM P I l l.length).getD i 0:=fun i hi=>(vr P I l hi om).symm
 unfold eqG gvM
 by_cases h12:l[j].Op=1∨l[j].Op=2
 ·rw [if_pos h12];trivial
 rw [if_neg h12,if_neg (show ¬l[j].Op=1 by omega),if_neg (show ¬l[j].Op=2 by omega)]
 by_cases h3:l[j].Op=3
 ·rw [if_neg om,if_neg om,if_neg om,if_pos h3,if_pos h3]
 have a:=g2 om
 rw [ga l[j].A.toNat om]
 by_cases h8:l[j].Op=8
 ·rw [if_neg om,if_neg om,if_neg om,if_neg h3,if_neg om,if_neg h3,if_neg om,if_neg om,if_neg om]
  refine ⟨?_,rfl⟩
  unfold en at hf
  rw [aP om,bre h8,Bool.true_and,decide_eq_true_eq] at hf
  have h0:=(vz hv l[j].A.toNat).1
  have:(rnM P I l l.length).getD l[j].A.toNat 0=0∨(rnM P I l l.length).getD l[j].A.toNat 0=1:=by omega
  rcases this with e|e<;>rw [e]<;>rfl
 have b:=g3 om om
 rw [ga l[j].B.toNat om]
 by_cases h6:l[j].Op=6
 ·rw [if_pos h6,if_neg h3,if_neg om,if_neg om,if_pos h6]
 rw [if_neg h6]
 by_cases h4:l[j].Op=4
 ·rw [if_pos h4,if_neg h3,if_pos h4]
 rw [if_neg h4]
 by_cases h5:l[j].Op=5
 ·rw [if_pos h5,if_neg h3,if_neg h4,if_pos h5]
 have h7:l[j].Op=7:=by omega
 rw [if_neg h5,if_neg h3,if_pos h7,if_neg h3,if_neg h4,if_neg h5,if_neg h6]
 unfold en at hf
 rw [bre h7,aP om,Bool.and_true,beq_iff_eq] at hf
 exact ⟨hf.symm,rfl⟩
theorem IL {l:List ab} {P pr:List Int} (hP:de P) (hp:de pr):de (Ep l P pr):=Ug hP hp
theorem NV {l:List ab} (ok:OkC l) {P pr:List Int} (lP:P.length=aD l 2) (lp:pr.length+aD l 2=l.length):(Ep l P pr).length=2^lgC l:=by
 obtain ⟨s1,s2,s3,s4⟩:=Cy ok lP lp
 exact Q5 s1 om om
theorem Gc {c:Circuit} {v:List Int} (ok:OkC c.Gates) (hv:v.length=c.Gates.length):fe c v=some (prM v c.Gates c.Gates.length):=by
 have hn:=ok.n2
 unfold fe
 have key:=cq (step:=cy v c.Gates (c.Gates.length:Int) c.Gates) (fun j=>(prM v c.Gates j,(j:Int))) c.Gates.length (e:=(prM v c.Gates c.Gates.length,(c.Gates.length:Int),false)) (fun j hj=> ?_) ?_
 ·have:((prM v c.Gates 0,((0:Nat):Int)):List Int×Int)=([],0):=rfl
  rw [←this,key];rfl
 ·have hd:c.Gates.getD j ⟨0,0,0,0⟩=c.Gates[j]:=by simp [hj]
  have hl:=sX v c.Gates j om
  simp only [cy]
  rw [brd om,eJ hj,obs,prM,hd,ae _ om om]
  by_cases h2:c.Gates[j].Op=2
  ·rw [rr h2,if_pos h2,List.append_nil];rfl
  ·rw [brb h2,if_neg h2,jv om,obs,bh (by simp;omega)];rfl
 ·simp only [cy]
  rw [brn om,decide_eq_false om]
def VF (c:Circuit) (P I:List Int):List Int×List Int×Int:=
 if (Ae c P I).2=0 then (P,prM (Ae c P I).1 c.Gates c.Gates.length,0) else ([],[],(Ae c P I).2)
theorem Xu {c:Circuit} {P I:List Int} (h:(Ae c P I).2=0):VU c P I∧c.Gates.all (en (rnM P I c.Gates c.Gates.length))=true∧Ae c P I=(rnM P I c.Gates c.Gates.length,0):=by
 unfold Ae at h ⊢
 split at h
 ·rename_i h0
  rw [if_pos h0]
  split at h
  ·rename_i h1;exact ⟨QU h0,h1,by rw [if_pos h1]⟩
  ·simp at h
 ·rename_i h0;exact absurd h h0
theorem Aq {c:Circuit} {P I:List Int} (hc:c.Gates.length≤1048576) (hP:P.length≤1048576):ld c P I=some (VF c P I):=by
 unfold ld VF
 rw [xN hc,obs]
 by_cases h:(Ae c P I).2=0
 ·obtain ⟨k,hf,e⟩:=Xu h
  rw [rr h,if_pos h,dO,bh om,obs,Gc k.ok (by rw [e];exact iH _ _ _ _),obs]
 ·rw [brb h,if_neg h]
theorem AH {l:List ab} (ok:OkC l) {P pr:List Int} (hP:de P) (hp:de pr) (lP:P.length=aD l 2) (lp:pr.length+aD l 2=l.length):nI (iq l) P pr=some (Ep l P pr,0):=by
 obtain ⟨s1,s2,s3,s4⟩:=Cy ok lP lp
 have hs:=MJ ok
 obtain ⟨_,_,_,lA,lB,lC⟩:=wj hs
 unfold nI
 rw [brn om,brn om,u9 om om om,obs,hs,Bool.not_true,aO,p9 om,obs,vn hP,Bool.not_true,aO,
  p9 om,obs,vn hp,Bool.not_true,aO,rr (by show (P.length:Int)=((aD l 2:Nat):Int);omega),Bg hs,obs,yS,brn om,Ed hs (by rw [yS];omega) (by rw [yS];omega),obs]
 rfl
end Go.AI.Fn
set_option linter.unusedVariables false
set_option linter.unusedSimpArgs false
set_option maxRecDepth 10000
namespace Go.AI.Fn
abbrev DrS:Type:=(List ab)×Int×(List UInt8)×Int×Int
abbrev DrE:Type:=(List ab)×Int×Bool×(List UInt8)×Int×Int
noncomputable def xF (l:List ab) (t2:Int) (g:ab) (m:aA):Option (DrS⊕DrE):=
 br (aK (l++[g]).length 32) (some (.inl (l++[g],IntKind.wrap .i64 (t2+1),m.code,m.at_,m.seed))) none
noncomputable def Ip (l:List ab) (t2 op a b:Int) (m:aA):Option (DrS⊕DrE):=
 br (op==3) ((ai m).bind fun r_13=>(aa 3 r_13.2).bind fun r_14=>
  br (decide (0≤r_14.1)) (br (decide (r_14.1.toNat<([0,1,r_13.1]:List Int).length)) ((([0,1,r_13.1]:List Int)[r_14.1.toNat]?).bind fun x=>
   xF l t2 ⟨op,a,b,x⟩ r_14.2) none) none) (xF l t2 ⟨op,a,b,0⟩ m)
noncomputable def JO (l:List ab) (t2 op:Int) (m:aA):Option (DrS⊕DrE):=
 (cW op).bind fun r_9=>br (r_9==2)
  ((aa t2 m).bind fun a=>(aa t2 a.2).bind fun b=>
    br (op==7) ((aL 5 b.2).bind fun c=>br (!c.1) (Ip l t2 op a.1 a.1 c.2) (Ip l t2 op a.1 b.1 c.2)) (Ip l t2 op a.1 b.1 b.2))
  (br (r_9==1) ((aa t2 m).bind fun a=>Ip l t2 op a.1 0 a.2) (Ip l t2 op 0 0 m))
noncomputable def HL (l:List ab) (t2:Int) (m:aA):Option (DrS⊕DrE):=
 (cW 1).bind fun r_9=>br (r_9==2)
  ((aa t2 m).bind fun a=>(aa t2 a.2).bind fun b=>xF l t2 ⟨1,a.1,b.1,0⟩ b.2)
  (br (r_9==1) ((aa t2 m).bind fun a=>xF l t2 ⟨1,a.1,0,0⟩ a.2) (xF l t2 ⟨1,0,0,0⟩ m))
noncomputable def opM (l:List ab) (t2 op:Int) (m:aA):Option (DrS⊕DrE):=
 br (op==2) ((eC ⟨l⟩ 2).bind fun r_4=>br (r_4==3) (HL l t2 m) (JO l t2 op m)) (JO l t2 op m)
theorem Mz (t t2:Int) (l:List ab) (c:List UInt8) (c2 c3:Int):dd t (l,t2,c,c2,c3)=
 br (decide (t2<t)) ((aa 8 ⟨c,c2,c3⟩).bind fun r_2=>
  br (t2==0) ((aa 3 r_2.2).bind fun r_3=>opM l t2 (IntKind.wrap .i64 (1+r_3.1)) r_3.2)
   ((aL 3 r_2.2).bind fun r_3=>br r_3.1 ((aa 3 r_3.2).bind fun r_4=>opM l t2 (IntKind.wrap .i64 (1+r_4.1)) r_4.2) (opM l t2 (IntKind.wrap .i64 (1+r_2.1)) r_3.2)))
  (some (.inr (l,t2,decide (t2<t),c,c2,c3))):=rfl
def Psh (l:List ab) (k:Nat) (op B:Int) (o:Option (DrS⊕DrE)):Prop:=
 ∃g m,o=some (.inl (l++[g],((k+1:Nat):Int),m.code,m.at_,m.seed))∧i6 g (k:Int)=true∧g.Op=op∧Src B m
theorem DD {l:List ab} {k:Nat} {g:ab} {m:aA} {B:Int} (hl:l.length≤100) (hk:k≤100) (hg:i6 g (k:Int)=true) (h:Src B m):Psh l k g.Op B (xF l (k:Int) g m):=by
 unfold xF
 rw [bh (by simp;omega),ae _ om om]
 exact ⟨g,m,by rw [show (k:Int)+1=((k+1:Nat):Int) by omega],hg,rfl,h⟩
theorem D5 {g:ab} {k:Int} (h1:1≤g.Op∧g.Op≤8) (hA:if 4≤g.Op then 0≤g.A∧g.A≤k-1 else g.A=0) (hB:if 4≤g.Op∧g.Op≤7 then 0≤g.B∧g.B≤k-1 else g.B=0) (hK:if g.Op=3 then okF g.K else g.K=0):i6 g k=true:=by
 unfold i6
 rw [decide_eq_true h1,Bool.true_and]
 have u1:decide (pb g.Op>0)=decide (4≤g.Op):=by
  unfold pb
  split
  ·rw [decide_eq_true om,decide_eq_true om]
  ·split
   ·rw [decide_eq_true om,decide_eq_true om]
   ·rw [decide_eq_false om,decide_eq_false om]
 have u2:decide (pb g.Op>1)=decide (4≤g.Op∧g.Op≤7):=by
  unfold pb
  split
  ·rename_i h;rw [decide_eq_true om,decide_eq_true h]
  ·rename_i h
   split
   ·rw [decide_eq_false om,decide_eq_false h]
   ·rw [decide_eq_false om,decide_eq_false h]
 rw [u1,u2]
 have a:br (decide (4≤g.Op)) (decide (0≤g.A∧g.A≤k-1)) (g.A==0)=true:=by
  by_cases h:4≤g.Op
  ·rw [if_pos h] at hA;rw [brd h,decide_eq_true hA]
  ·rw [if_neg h] at hA;rw [brn h,hA];rfl
 have b:br (decide (4≤g.Op∧g.Op≤7)) (decide (0≤g.B∧g.B≤k-1)) (g.B==0)=true:=by
  by_cases h:4≤g.Op∧g.Op≤7
  ·rw [if_pos h] at hB;rw [brd h,decide_eq_true hB]
  ·rw [if_neg h] at hB;rw [brn h,hB];rfl
 have c:br (g.Op==3) (wh g.K) (g.K==0)=true:=by
  by_cases h:g.Op=3
  ·rw [if_pos h] at hK;rw [bre h,pj.2 hK]
  ·rw [if_neg h] at hK;rw [aP h,hK];rfl
 rw [a,b,c];rfl
theorem Ao {l:List ab} {k:Nat} {op a b:Int} {m:aA} {B:Int} (hl:l.length≤100) (hk:k≤100) (h1:1≤op∧op≤8) (hA:if 4≤op then 0≤a∧a≤(k:Int)-1 else a=0) (hB:if 4≤op∧op≤7 then 0≤b∧b≤(k:Int)-1 else b=0)
 (h:Src B m) (hb:B+21<Big):Psh l k op (B+21) (Ip l (k:Int) op a b m):=by
 unfold Ip
 by_cases h3:op=3
 ·rw [bre h3]
  obtain ⟨x,m1,e1,ox,s1⟩:=pJ h om
  obtain ⟨y,m2,e2,y0,y1,_,s2⟩:=dt (n:=3) s1 om
  have y3:=y1 om
  rw [e1,obs,e2,obs]
  dsimp only
  rw [brd y0,brd (by simp;omega)]
  have hx: ∃z,([0,1,x]:List Int)[y.toNat]? =some z∧okF z:=by
   have:y=0∨y=1∨y=2:=by omega
   rcases this with rfl|rfl|rfl
   ·exact ⟨0,rfl,by omega,by omega⟩
   ·exact ⟨1,rfl,by omega,by omega⟩
   ·exact ⟨x,rfl,ox⟩
  obtain ⟨z,e3,oz⟩:=hx
  rw [e3,obs]
  exact DD hl hk (D5 h1 hA hB (by rw [if_pos h3];exact oz)) (s2.mono om)
 ·rw [aP h3]
  exact DD hl hk (D5 h1 hA hB (by rw [if_neg h3])) (h.mono om)
theorem JF {l:List ab} {k:Nat} {op:Int} {m:aA} {B:Int} (hl:l.length≤100) (hk:k≤100) (h1:1≤op∧op≤8) (h4:4≤op→1≤k) (h:Src B m) (hb:B+30<Big):Psh l k op (B+30) (JO l (k:Int) op m):=by
 unfold JO
 rw [Br,obs]
 have up: ∀{C:Int} {o:Option (DrS⊕DrE)},C≤B+30→Psh l k op C o→Psh l k op (B+30) o:=fun hc ⟨g,m,e,hg,ho,hs⟩=>⟨g,m,e,hg,ho,hs.mono hc⟩
 have nx: ∀{C:Int} {m:aA},1≤k→Src C m→C+3<Big→ ∃x m',aa (k:Int) m=some (x,m')∧(0≤x∧x≤(k:Int)-1)∧Src (C+3) m':=fun hk1 hs hc=>by
  obtain ⟨x,m',e,x0,x1,x2,s⟩:=dt (n:=(k:Int)) hs hc
  refine ⟨x,m',e,⟨x0, ?_⟩,s⟩
  by_cases h2:1<(k:Int)
  ·have:=x1 h2;omega
  ·have:=x2 om;omega
 unfold pb
 by_cases c1:4≤op∧op≤7
 ·rw [if_pos c1,bre rfl]
  obtain ⟨a,m1,e1,ha,s1⟩:=nx (h4 om) h om
  obtain ⟨b,m2,e2,hb',s2⟩:=nx (h4 om) s1 om
  rw [e1,obs,e2,obs]
  dsimp only
  by_cases c7:op=7
  ·rw [bre c7]
   obtain ⟨x,m3,e3,s3⟩:=mN (n:=5) s2 om
   rw [e3,obs]
   dsimp only
   cases x
   ·exact up om (Ao hl hk h1 (by rw [if_pos om];exact ha) (by rw [if_pos c1];exact ha) s3 om)
   ·exact up om (Ao hl hk h1 (by rw [if_pos om];exact ha) (by rw [if_pos c1];exact hb') s3 om)
  ·rw [aP c7]
   exact up om (Ao hl hk h1 (by rw [if_pos om];exact ha) (by rw [if_pos c1];exact hb') s2 om)
 ·rw [if_neg c1]
  by_cases c8:op=8
  ·rw [if_pos c8,aP om,bre rfl]
   obtain ⟨a,m1,e1,ha,s1⟩:=nx (h4 om) h om
   rw [e1,obs]
   exact up om (Ao hl hk h1 (by rw [if_pos om];exact ha) (by rw [if_neg c1]) s1 om)
  ·rw [if_neg c8,aP om,aP om]
   exact up om (Ao hl hk h1 (by rw [if_neg om]) (by rw [if_neg c1]) h om)
theorem OX {l:List ab} {k:Nat} {m:aA} {B:Int} (hl:l.length≤100) (hk:k≤100) (h:Src B m):Psh l k 1 B (HL l (k:Int) m):=by
 unfold HL
 rw [Br,obs]
 show Psh l k 1 B (xF l (k:Int) ⟨1,0,0,0⟩ m)
 exact DD hl hk (D5 (g:=⟨1,0,0,0⟩) (by simp) (by simp) (by simp) (by simp)) h
theorem a0Y {l:List ab} {k:Nat} {op:Int} {m:aA} {B:Int} (hl:l.length≤100) (hk:k≤100) (h1:1≤op∧op≤8) (h4:4≤op→1≤k) (hp:aD l 2≤3) (h:Src B m) (hb:B+30<Big):
 ∃g m',opM l (k:Int) op m=some (.inl (l++[g],((k+1:Nat):Int),m'.code,m'.at_,m'.seed))∧i6 g (k:Int)=true∧aD (l++[g]) 2≤3∧Src (B+30) m':=by
 unfold opM
 by_cases c2:op=2
 ·rw [bre c2,uX (by show l.length≤_;omega),obs]
  by_cases c3:(aD l 2:Int)=3
  ·rw [bre c3]
   obtain ⟨g,m',e,hg,ho,hs⟩:=OX hl hk h
   refine ⟨g,m',e,hg, ?_,hs.mono om⟩
   rw [bO,if_neg (by rw [ho];decide)];omega
  ·rw [aP c3]
   obtain ⟨g,m',e,hg,ho,hs⟩:=JF hl hk h1 h4 h hb
   refine ⟨g,m',e,hg, ?_,hs⟩
   rw [bO];split<;>omega
 ·rw [aP c2]
  obtain ⟨g,m',e,hg,ho,hs⟩:=JF hl hk h1 h4 h hb
  refine ⟨g,m',e,hg, ?_,hs⟩
  rw [bO,if_neg (by rw [ho];simpa using c2)];omega
theorem Hu {m:aA} {B:Int} (h:Src B m) (hb:B+1000<Big): ∃l m',fg m=some (⟨l⟩,m')∧OkC l∧l.length≤9∧aD l 2≤3∧Src (B+500) m':=by
 unfold fg
 obtain ⟨n,m1,e1,n0,n1,_,s1⟩:=dt (n:=9) h om
 have n9:=n1 om
 rw [e1,obs]
 dsimp only
 rw [ae _ om om]
 obtain ⟨⟨l,i,b,c,a,s⟩,g1,g2⟩:=lv (step:=dd (1+n))
  (fun s=> ∃k:Nat,s.1.length=k∧s.2.1=(k:Int)∧(k:Int)≤1+n∧(∀(j:Nat) (hj:j<s.1.length),i6 s.1[j] (j:Int)=true)∧aD s.1 2≤3∧Src (B+3+40*k) ⟨s.2.2.1,s.2.2.2.1,s.2.2.2.2⟩) (fun s=>(1+n-s.2.1).toNat)
  (fun e=>(e.1.length:Int)=1+n∧(∀(j:Nat) (hj:j<e.1.length),i6 e.1[j] (j:Int)=true)∧aD e.1 2≤3∧Src (B+500) ⟨e.2.2.2.1,e.2.2.2.2.1,e.2.2.2.2.2⟩)
  (fun s=>by
   obtain ⟨l,i,c,a,sd⟩:=s
   rintro ⟨k,hl,hi,hk,hg,hp,hs⟩
   dsimp only at hl hi hg hp hs
   subst hi
   rw [Mz]
   by_cases c1:(k:Int)<1+n
   ·left
    rw [brd c1]
    have fin: ∀{op:Int} {m:aA} {C:Int},(1≤op∧op≤8)→(4≤op→1≤k)→Src C m→C≤B+3+40*k+10→
     ∃s',opM l (k:Int) (IntKind.wrap .i64 op) m=some (.inl s')∧(∃k:Nat,s'.1.length=k∧s'.2.1=(k:Int)∧(k:Int)≤1+n∧(∀(j:Nat) (hj:j<s'.1.length),i6 s'.1[j] (j:Int)=true)∧aD s'.1 2≤3∧Src (B+3+40*k) ⟨s'.2.2.1,s'.2.2.2.1,s'.2.2.2.2⟩)∧(1+n-s'.2.1).toNat<(1+n-(k:Int)).toNat:=by
     intro op m C h1 h4 hs hC
     rw [ae op om om]
     obtain ⟨g,m',e,g0,g1,g2⟩:=a0Y (l:=l) (k:=k) om om h1 h4 hp hs om
     refine ⟨_,e,⟨k+1,by simp [hl],rfl,by omega,fun j hj=> ?_,g1,g2.mono om⟩,by dsimp only;omega⟩
     dsimp only at hj ⊢
     rw [List.getElem_append]
     split
     ·rename_i hj2;exact hg j hj2
     ·rename_i hj2
      have:j=k:=by simp at hj;omega
      subst this
      simpa using g0
    obtain ⟨x,m2,e2,x0,x1,_,s2⟩:=dt (n:=8) hs om
    have x8:=x1 om
    rw [e2,obs]
    dsimp only
    by_cases c0:(k:Int)=0
    ·rw [bre c0]
     obtain ⟨y,m3,e3,y0,y1,_,s3⟩:=dt (n:=3) s2 om
     have y3:=y1 om
     rw [e3,obs]
     exact fin ⟨by dsimp only;omega,by dsimp only;omega⟩ (fun h=>by dsimp only at h;omega) s3 om
    ·rw [aP c0]
     obtain ⟨y,m3,e3,s3⟩:=mN (n:=3) s2 om
     rw [e3,obs]
     dsimp only
     cases y
     ·exact fin ⟨by omega,by omega⟩ (fun _=>by omega) s3 om
     ·obtain ⟨z,m4,e4,z0,z1,_,s4⟩:=dt (n:=3) s3 om
      have z3:=z1 om
      rw [bR,e4,obs]
      exact fin ⟨by dsimp only;omega,by dsimp only;omega⟩ (fun h=>by dsimp only at h;omega) s4 om
   ·right
    rw [brn c1]
    exact ⟨_,rfl,by dsimp only;omega,hg,hp,hs.mono om⟩)
  ([],0,m1.code,m1.at_,m1.seed) ⟨0,rfl,rfl,by omega,fun j hj=>by simp at hj,by simp [aD],s1.mono om⟩
 rw [g1,obs]
 obtain ⟨g3,g4,g5,g6⟩:=g2
 dsimp only at g3 g4 g5 g6
 exact ⟨l,_,rfl,⟨by omega,by omega,g4,by omega⟩,by omega,g5,g6⟩
end Go.AI.Fn
set_option linter.unusedVariables false
set_option linter.unusedSimpArgs false
namespace Go.AI.Fn
theorem Bu {a b:List Int} {g:List ab} {n:Nat} (hn:n≤100) {m:aA} {B:Int} (h:Src B m) (hb:B+4000<Big):
 ∃l m',Loop (bH a b g) ([],(n:Int),m.code,m.at_,m.seed)=some (l,0,false,m'.code,m'.at_,m'.seed)∧l.length=n∧de l∧Src (B+30*n) m':=by
 obtain ⟨⟨l,k,f,c,at_,sd⟩,g1,g2⟩:=lv (step:=bH a b g)
  (fun s=>0≤s.2.1∧(s.1.length:Int)+s.2.1=n∧de s.1∧Src (B+30*(n-s.2.1)) ⟨s.2.2.1,s.2.2.2.1,s.2.2.2.2⟩) (fun s=>s.2.1.toNat)
  (fun e=>e.2.1=0∧e.2.2.1=false∧e.1.length=n∧de e.1∧Src (B+30*n) ⟨e.2.2.2.1,e.2.2.2.2.1,e.2.2.2.2.2⟩)
  (fun s=>by
   obtain ⟨l,k,c,at_,sd⟩:=s
   rintro ⟨k0,hl,ho,hs⟩
   dsimp only at k0 hl ho hs
   simp only [bH]
   by_cases c1:k>0
   ·left
    obtain ⟨x,m1,e1,x0,x1,_,s1⟩:=dt (n:=2) hs om
    have x2:=x1 om
    obtain ⟨y,m2,e2,s2⟩:=mN (n:=5) s1 om
    rw [brd c1,e1,obs]
    dsimp only
    rw [e2,obs,ae _ om om]
    dsimp only
    cases y
    ·rw [aO,bh (by simp;omega)]
     refine ⟨_,rfl,⟨by dsimp only;omega,by simp;omega,fun z hz=> ?_,s2.mono (by dsimp only;omega)⟩,by dsimp only;omega⟩
     rcases List.mem_append.1 hz with hz|hz
     ·exact ho z hz
     ·rw [List.mem_singleton] at hz;subst hz;exact ⟨x0,by omega⟩
    ·obtain ⟨w,m3,e3,ow,s3⟩:=pJ s2 om
     rw [bR,e3,obs]
     dsimp only
     rw [bh (by simp;omega)]
     refine ⟨_,rfl,⟨by dsimp only;omega,by simp;omega,fun z hz=> ?_,s3.mono (by dsimp only;omega)⟩,by dsimp only;omega⟩
     rcases List.mem_append.1 hz with hz|hz
     ·exact ho z hz
     ·rw [List.mem_singleton] at hz;subst hz;exact ow
   ·right
    rw [brn c1]
    exact ⟨_,rfl,by dsimp only;omega,by dsimp only;rw [decide_eq_false c1],by dsimp only;omega,ho,hs.mono om⟩)
  ([],(n:Int),m.code,m.at_,m.seed) ⟨by dsimp only;omega,by simp,(fun x hx=>by cases hx),h.mono (by simp)⟩
 obtain ⟨h1,h2,h3,h4,h5⟩:=g2
 dsimp only at h1 h2 h3 h4 h5
 subst h1 h2
 exact ⟨l,⟨c,at_,sd⟩,g1,h3,h4,h5⟩
theorem JS {a b d e:List Int} {g g':List ab} (s:List Int×Int×List UInt8×Int×Int):dl a b g s=bH d e g' s:=rfl
theorem LI {l:List ab} (hl:l.length≤100) {m:aA} {B:Int} (h:Src B m) (hb:B+10000<Big):
 ∃P I m',fT ⟨l⟩ m=some (P,I,m')∧de P∧de I∧P.length=aD l 2∧I.length=aD l 1∧Src (B+6000) m':=by
 have n2:=cM l 2
 have n1:=cM l 1
 unfold fT
 rw [uX (by show l.length≤_;omega),obs]
 dsimp only
 obtain ⟨P,m1,e1,lP,oP,s1⟩:=Bu (a:=[]) (b:=[2,1]) (g:=l) (n:=aD l 2) om h om
 rw [e1,obs,uX (by show l.length≤_;omega),obs]
 dsimp only
 rw [show dl P [2,1] l=bH P [2,1] l from funext fun s=>JS s]
 obtain ⟨I,m2,e2,lI,oI,s2⟩:=Bu (a:=P) (b:=[2,1]) (g:=l) (n:=aD l 1) om s1 om
 rw [e2,obs]
 exact ⟨P,I,m2,rfl,oP,oI,lP,lI,s2.mono om⟩
end Go.AI.Fn
set_option linter.unusedVariables false
set_option linter.unusedSimpArgs false
namespace Go.AI.Fn
def tkM (s:Source) (t:List UInt8):Source:=⟨s.Script,s.At,H (s.State++(a07++(B3 t.length++t))),0⟩
theorem X7 {s:Source} (t:List UInt8) (h:zV s):zV (tkM s t):=⟨h.1,h.2,OE _,h.4,h.5,by simp [tkM],by simp [tkM]⟩
def beN (l:List UInt8):Int:=l.foldl (fun n c=>n*256+(c.toNat:Int)) 0
def V0 (l:List UInt8):Int:=beN l%2130706433
def BQ (s:Source):Source×Ext:=
 if s.Script.length=0 then (⟨s.Script,s.At,s.State,s.Count+1⟩,⟨V0 ((H (s.State++(Ni++B3 s.Count))).take 8),V0 (((H (s.State++(Ni++B3 s.Count))).drop 8).take 8)⟩)
 else (⟨s.Script,s.At+1,s.State,s.Count⟩,s.Script.getD (s.At%(s.Script.length:Int)).toNat e0)
theorem Lf {s:Source} (h:zV s) (ha:s.At<1000000) (hc:s.Count<1000000):zV (BQ s).1:=by
 unfold BQ
 split
 ·exact ⟨h.1,h.2,h.3,h.4,h.5,by have:=h.6;simp;omega,by simp;omega⟩
 ·exact ⟨h.1,h.2,h.3,by have:=h.4;simp;omega,by simp;omega,h.6,h.7⟩
theorem E0 {s:Source} {t:List UInt8} (hs:s.State.length=32) (ht:t.length≤1000000):j2 s t=some (tkM s t):=by
 unfold j2
 have h4:=Gn ((t.length:Nat):Int)
 rw [bh (by simp only [List.length_cons,List.length_nil];omega),Jp,obs,bh (by simp only [List.length_append,List.length_cons,List.length_nil];omega),
  bh (by simp only [List.length_append,List.length_cons,List.length_nil];omega),wy (by simp only [List.length_append,List.length_cons,List.length_nil];omega),obs,tkM]
 simp [a07]
theorem Qt (l:List UInt8) (c:UInt8):beN (l++[c])=beN l*256+(c.toNat:Int):=by simp [beN,List.foldl_append]
theorem zn {t:List UInt8} (h:t.length=8):jP t=some (V0 t):=by
 unfold jP
 have key:Loop (fb t) (0,0)=some (V0 t,8,false):=
  cq (fun k=>(beN (t.take k)%2130706433,(k:Int))) 8 (fun k hk=>by
   have hk':k<t.length:=by omega
   have hb:=JL t[k]
   have hm:0≤beN (t.take k)%2130706433∧beN (t.take k)%2130706433<2130706433:=by omega
   simp only [fb]
   rw [brd om,eJ hk',obs]
   simp (disch:=omega) only [ae,ct]
   rw [co hk',Qt,mX1];rfl) (by
   simp only [fb]
   rw [brn (by decide),List.take_of_length_le om];rfl)
 rw [key];rfl
theorem KF {s:Source} (h:zV s):mR s=some (BQ s):=by
 have h1:=h.1
 have h3:=h.3
 have h4:=h.4
 have h5:=h.5
 have h6:=h.6
 have h7:=h.7
 unfold mR BQ
 by_cases hl:s.Script.length=0
 ·have hf:=Gn s.Count
  rw [brn om,if_pos hl,bh (by simp only [List.length_cons,List.length_nil];omega),Jp,obs,bh (by simp only [List.length_append,List.length_cons,List.length_nil];omega),wy (by simp only [List.length_append,List.length_cons,List.length_nil];omega),obs]
  have e:s.State++[100,114,97,119]++B3 s.Count=s.State++(Ni++B3 s.Count):=by simp [Ni]
  rw [e]
  have hh:=OE (s.State++(Ni++B3 s.Count))
  rw [yf om om om,obs,zn (by simp;omega),obs,yf om om om,obs,zn (by simp;omega),obs,ae _ om om]
  rfl
 ·have hr:=Int.emod_nonneg s.At (b:=(s.Script.length:Int)) om
  have hr2:=Int.emod_lt_of_pos s.At (b:=(s.Script.length:Int)) om
  rw [brd om,if_neg hl,brd om,ct _ _ h4,ae _ om om]
  have e:atL s.Script (s.At%(s.Script.length:Int))=some (s.Script.getD (s.At%(s.Script.length:Int)).toNat e0):=by
   have:=a0H (l:=s.Script) (k:=(s.At%(s.Script.length:Int)).toNat) om
   rwa [Int.toNat_of_nonneg hr] at this
  rw [e];rfl
theorem Ga {s:Source} (h:s.Script.length≤1000000):pE s=some s:=by
 unfold pE;rw [bh (by simp;omega)];simp
theorem Rb {l:List UInt8} {scr:List Ext} (h:l.length≤1000000):rB l scr=some ⟨scr,0,H (Vh++l),0⟩:=by
 unfold rB
 rw [bh (by simp only [List.length_cons,List.length_nil];omega),wy (by simp only [List.length_append,List.length_cons,List.length_nil];omega),obs];rfl
theorem Rr {l:List UInt8} {scr:List Ext} (h:scr.length≤64) (hs:nO scr):zV ⟨scr,0,H (Vh++l),0⟩:=⟨h,hs,OE _,by simp,by simp,by simp,by simp⟩
theorem IN {l:List (List UInt8)} {m:aA} {B:Int} (h:Src B m) (hB:B+3<Big) (h0:1<l.length) (h1:l.length≤100): ∃x m',eu l m=some (x,m')∧x∈l∧Src (B+3) m':=by
 unfold eu
 obtain ⟨x,m1,e1,x0,x1,_,s1⟩:=dt (n:=(l.length:Int)) h om
 rw [aP om,e1,obs]
 obtain ⟨y,hy,_,hm⟩:=DG (l:=l) x0 (by have:=x1;omega)
 dsimp only
 rw [hy]
 exact ⟨_,_,rfl,hm,s1⟩
structure Few (s:Source) (k:Int):Prop where
 ok:zV s
 a:s.At≤k
 c:s.Count≤k
theorem Few.mono {s:Source} {j k:Int} (h:Few s j) (hk:j≤k):Few s k:=⟨h.1,by have:=h.2;omega,by have:=h.3;omega⟩
theorem Few.take {s:Source} {k:Int} (h:Few s k) (t:List UInt8):Few (tkM s t) (k+1):=⟨X7 t h.1,by have:=h.2;simp [tkM];omega,by have:=h.3;have:=h.1.c0;simp [tkM];omega⟩
theorem Few.draw {s:Source} {k:Int} (h:Few s k) (hk:k<1000000):Few (BQ s).1 (k+1):=by
 have h2:=h.2
 have h3:=h.3
 refine ⟨Lf h.1 om om, ?_, ?_⟩<;>(unfold BQ;split<;>dsimp only<;>omega)
theorem IW {c4 c6:Int} {c5:List UInt8} {i B k:Int} {m:aA} {s:Source} (h:Src B m) (hs:Few s k) (hi0:0≤i) (hi:i≤4) (hk:k≤100) (hB:B+6*i<Big):
 ∃e,Loop (cN c4 c5 c6) (i,m.code,m.at_,m.seed,s.Script,s.At,s.State,s.Count)=some e∧Src (B+6*i) ⟨e.2.2.1,e.2.2.2.1,e.2.2.2.2.1⟩∧Few ⟨e.2.2.2.2.2.1,e.2.2.2.2.2.2.1,e.2.2.2.2.2.2.2.1,e.2.2.2.2.2.2.2.2⟩ (k+i):=by
 refine lv (step:=cN c4 c5 c6) (fun x=>0≤x.1∧x.1≤i∧Src (B+6*(i-x.1)) ⟨x.2.1,x.2.2.1,x.2.2.2.1⟩∧Few ⟨x.2.2.2.2.1,x.2.2.2.2.2.1,x.2.2.2.2.2.2.1,x.2.2.2.2.2.2.2⟩ (k+(i-x.1))) (fun x=>x.1.toNat) _ ?_ (i,m.code,m.at_,m.seed,s.Script,s.At,s.State,s.Count) ⟨hi0,by dsimp only;omega,h.mono (by dsimp only;omega),hs.mono (by dsimp only;omega)⟩
 rintro ⟨j,c,c2,c3,d,d2,d3,d4⟩ ⟨j0,j1,hsr,hfw⟩
 dsimp only at j0 j1 hsr hfw
 simp only [cN]
 by_cases hj:j>0
 ·left
  rw [brd hj]
  obtain ⟨b,m1,e1,s1⟩:=mN (n:=2) hsr om
  rw [e1,obs]
  cases b
  ·dsimp only
   rw [aO,KF hfw.1,obs,ae _ om om]
   exact ⟨_,rfl,⟨by dsimp only;omega,by dsimp only;omega,s1.mono (by dsimp only;omega),(hfw.draw om).mono (by dsimp only;omega)⟩,by dsimp only;omega⟩
  ·dsimp only
   obtain ⟨y,m2,e2,_,s2⟩:=IN (l:=[[],[116,101,120,116]]) s1 om (by decide) (by decide)
   have hy:y.length≤1000:=by
    have:y∈[[],[116,101,120,116]]:=by assumption
    simp only [List.mem_cons,List.mem_nil_iff,or_false] at this
    rcases this with rfl|rfl<;>simp
   rw [bR,e2,obs,E0 (t:=y) hfw.1.3 om,obs,ae _ om om]
   exact ⟨_,rfl,⟨by dsimp only;omega,by dsimp only;omega,s2.mono (by dsimp only;omega),(hfw.take y).mono (by dsimp only;omega)⟩,by dsimp only;omega⟩
 ·right
  rw [brn hj]
  have:j=0:=by omega
  subst this
  exact ⟨_,rfl,hsr.mono om,hfw.mono om⟩
theorem Uy {c4 c6:Int} {c5:List UInt8} {i B k:Int} {m:aA} {s:Source} (h:Src B m) (hs:Few s k) (hi0:0≤i) (hi:i≤4) (hk:k≤100) (hB:B+6*i<Big):
 ∃e,Loop (eU c4 c5 c6) (i,m.code,m.at_,m.seed,s.Script,s.At,s.State,s.Count)=some e∧Src (B+6*i) ⟨e.2.2.1,e.2.2.2.1,e.2.2.2.2.1⟩∧Few ⟨e.2.2.2.2.2.1,e.2.2.2.2.2.2.1,e.2.2.2.2.2.2.2.1,e.2.2.2.2.2.2.2.2⟩ (k+i):=
 IW (c4:=c4) (c5:=c5) (c6:=c6) h hs hi0 hi hk hB
end Go.AI.Fn
set_option linter.unusedVariables false
set_option linter.unusedSimpArgs false
namespace Go.AI.Fn
theorem Bo {m:aA} {B:Int} (s1:Src B m) (hB:B+1000<Big): ∃s m',dT m=some (s,m')∧Few s 4∧Src (B+500) m':=by
 unfold dT
 obtain ⟨y,m2,e2,hy,s2⟩:=IN (l:=[[],[97],[108,97,98,101,108]]) s1 om (by decide) (by decide)
 have hyl:y.length≤1000:=by
  simp only [List.mem_cons,List.mem_nil_iff,or_false] at hy
  rcases hy with rfl|rfl|rfl<;>simp
 rw [e2,obs,Rb (l:=y) om,obs]
 obtain ⟨b,m3,e3,s3⟩:=mN (n:=3) s2 om
 dsimp only
 rw [e3,obs]
 cases b
 ·dsimp only
  obtain ⟨x,m4,e4,x0,x1,_,s4⟩:=dt (n:=4) s3 om
  have x4:=x1 om
  rw [aO,e4,obs]
  obtain ⟨e,f1,f2,f3⟩:=Uy (c4:=0) (c5:=[]) (c6:=0) (i:=x) (k:=0) (s:=⟨[],0,H (Vh++y),0⟩) s4 ⟨Rr (by simp) (fun x hx=>by cases hx),by simp,by simp⟩ x0 om om om
  dsimp only
  rw [f1,obs,Ga (by show e.2.2.2.2.2.1.length≤_;have:=f3.ok.len;dsimp only at this;omega),obs]
  exact ⟨_,_,rfl,f3.mono om,f2.mono om⟩
 ·dsimp only
  obtain ⟨z,m4,e4,z0,z1,_,s4⟩:=dt (n:=5) s3 om
  have z5:=z1 om
  rw [bR,e4,obs]
  dsimp only
  rw [ae _ om om]
  obtain ⟨L,m5,e5,L1,L2,s5⟩:=Ss (n:=1+z) s4 om om om
  rw [e5,obs]
  obtain ⟨x,m6,e6,x0,x1,_,s6⟩:=dt (n:=4) s5 om
  have x4:=x1 om
  dsimp only
  rw [e6,obs]
  obtain ⟨e,f1,f2,f3⟩:=IW (c4:=0) (c5:=[]) (c6:=0) (i:=x) (k:=0) (s:=⟨L,0,H (Vh++y),0⟩) s6 ⟨Rr om L2,by simp,by simp⟩ x0 om om om
  dsimp only
  rw [f1,obs,Ga (by show e.2.2.2.2.2.1.length≤_;have:=f3.ok.len;dsimp only at this;omega),obs]
  exact ⟨_,_,rfl,f3.mono om,f2.mono om⟩
theorem zo {m:aA} {B:Int} (h:Src B m) (hB:B+1000<Big): ∃t m',dF m=some (t,m')∧setB t=true∧(t.Rate≤2∧t.Queries≤3∧t.Grind≤2)∧Src (B+9) m':=by
 unfold dF
 obtain ⟨x,m1,e1,x0,x1,_,s1⟩:=dt (n:=2) h om
 obtain ⟨y,m2,e2,y0,y1,_,s2⟩:=dt (n:=3) s1 om
 obtain ⟨z,m3,e3,z0,z1,_,s3⟩:=dt (n:=3) s2 om
 have x2:=x1 om
 have y3:=y1 om
 have z3:=z1 om
 rw [e1,obs]
 dsimp only
 rw [e2,obs]
 dsimp only
 rw [e3,obs]
 dsimp only
 rw [ae _ om om,ae _ om om]
 refine ⟨_,_,rfl, ?_,⟨by dsimp only;omega,by dsimp only;omega,by dsimp only;omega⟩,s3.mono om⟩
 unfold setB
 rw [decide_eq_true (by dsimp only;omega),decide_eq_true (by dsimp only;omega),decide_eq_true (by dsimp only;omega)];rfl
def Wk:List ab:=[⟨1,0,0,0⟩,⟨2,0,0,0⟩,⟨6,0,0,0⟩,⟨4,2,1,0⟩]
theorem Uc:OkC Wk:=⟨by decide,by decide,fun k hk=>by
 have:k=0∨k=1∨k=2∨k=3:=by
  have:k<4:=hk
  omega
 rcases this with rfl|rfl|rfl|rfl<;>rfl,by decide⟩
structure a0a (l:List ab) (P I:List Int):Prop where
 rc:VU ⟨l⟩ P I
 fit:l.all (en (rnM P I l l.length))=true
 n9:l.length≤9
 p3:aD l 2≤3
theorem KN {m:aA} {B:Int} (h:Src B m) (hB:B+20000<Big): ∃l P I t s m',fP m=some (⟨l⟩,P,I,t,s,m')∧a0a l P I∧setB t=true∧(t.Rate≤2∧t.Queries≤3∧t.Grind≤2)∧Few s 4∧Src (B+10000) m':=by
 unfold fP
 obtain ⟨l,m1,e1,ok,l9,p3,s1⟩:=Hu h om
 obtain ⟨P,I,m2,e2,hP,hI,lP,lI,s2⟩:=LI (l:=l) om s1 om
 rw [e1,obs]
 dsimp only
 rw [e2,obs]
 dsimp only
 rw [G8 (c:=⟨l⟩) ok hP hI lP lI,obs,CV (c:=⟨l⟩) ok (iH _ _ _ _),obs]
 cases hf:l.all (en (rnM P I l l.length))
 ·rw [Bool.not_false,bR]
  obtain ⟨x,m3,e3,ox,s3⟩:=pJ s2 om
  obtain ⟨y,m4,e4,oy,s4⟩:=pJ s3 om
  obtain ⟨t,m5,e5,t1,t2,s5⟩:=zo s4 om
  obtain ⟨s,m6,e6,f6,s6⟩:=Bo s5 om
  rw [e3,obs]
  dsimp only
  rw [e4,obs]
  dsimp only
  rw [e5,obs]
  dsimp only
  rw [e6,obs]
  refine ⟨Wk,[x],[y],t,s,m6,rfl,⟨⟨Uc, ?_, ?_,rfl,rfl⟩,rfl,by decide,by decide⟩,t1,t2,f6,s6.mono om⟩
  ·intro z hz;rw [List.mem_singleton] at hz;subst hz;exact ox
  ·intro z hz;rw [List.mem_singleton] at hz;subst hz;exact oy
 ·rw [Bool.not_true,aO]
  obtain ⟨t,m5,e5,t1,t2,s5⟩:=zo s2 om
  obtain ⟨s,m6,e6,f6,s6⟩:=Bo s5 om
  rw [e5,obs]
  dsimp only
  rw [e6,obs]
  exact ⟨l,P,I,t,s,m6,rfl,⟨⟨ok,hP,hI,lP,lI⟩,hf,l9,p3⟩,t1,t2,f6,s6.mono om⟩
theorem EG {code:List UInt8} (h:code.length≤1048600): ∃l P I t s,nu code=some ⟨⟨l⟩,P,I,t,s⟩∧a0a l P I∧setB t=true∧(t.Rate≤2∧t.Queries≤3∧t.Grind≤2)∧Few s 4:=by
 unfold nu
 obtain ⟨m,e,hm⟩:=KA h
 obtain ⟨l,P,I,t,s,m',e2,h1,h2,h3,h4,_⟩:=KN hm (by decide)
 rw [e,obs,e2]
 exact ⟨l,P,I,t,s,rfl,h1,h2,h3,h4⟩
end Go.AI.Fn
set_option linter.unusedVariables false
namespace Go.AI.Fn
theorem VS {a b c d:Int} {g:ab} (h1:g.Op≠1) (h2:g.Op≠2) (h:eqG a b c g) (k:eqG a b d g):c=d:=by
 unfold eqG at h k
 rw [if_neg om] at h k
 split at h
 ·rename_i e;rw [if_pos e] at k;omega
 rename_i e6;rw [if_neg e6] at k
 split at h
 ·rename_i e;rw [if_pos e] at k;omega
 rename_i e4;rw [if_neg e4] at k
 split at h
 ·rename_i e;rw [if_pos e] at k;omega
 rename_i e5;rw [if_neg e5] at k
 split at h
 ·rename_i e;rw [if_pos e] at k;omega
 rename_i e3;rw [if_neg e3] at k
 split at h
 ·rename_i e;rw [if_pos e] at k;omega
 rename_i e7;rw [if_neg e7] at k
 omega
theorem Tw {l:List ab} {i j:Nat} (hij:i<j) (hj:j≤l.length) (h:(l[i]'om).Op≠2):i-aD (l.take i) 2<j-aD (l.take j) 2:=by
 have h2:=mK (l.take j) (i+1) 2
 have hi:i<l.length:=by omega
 rw [List.take_take,Nat.min_eq_left om,co hi,bO,if_neg (by simpa using h),List.length_take] at h2
 have l2:aD (l.take i) 2≤i:=by have:=cM (l.take i) 2;rw [List.length_take] at this;omega
 omega
theorem binds {l:List ab} (ok:OkC l) {P I:List Int} (hP:de P) (hI:de I) (lP:P.length=aD l 2) (lI:I.length=aD l 1) (hf:l.all (en (rnM P I l l.length))=true) {j:Nat} (hj:j<l.length) (h1:l[j].Op≠1) (h2:l[j].Op≠2) {x:Int} (hx:okF x)
 (hne:x≠(prM (rnM P I l l.length) l l.length).getD (j-aD (l.take j) 2) 0):DO (iq l) (Ep l P ((prM (rnM P I l l.length) l l.length).set (j-aD (l.take j) 2) x))=false:=by
 have hv:=xa ok hP hI lP lI l.length (Nat.le_refl _)
 have hpr:=Hd hv (iH P I l l.length) l.length (Nat.le_refl _)
 have hpl:=Ax (rnM P I l l.length) l
 have hb:de ((prM (rnM P I l l.length) l l.length).set (j-aD (l.take j) 2) x):=fun y hy=>by
  rcases List.mem_or_eq_of_mem_set hy with hy|rfl
  ·exact hpr y hy
  ·exact hx
 have hbl:((prM (rnM P I l l.length) l l.length).set (j-aD (l.take j) 2) x).length+aD l 2=l.length:=by rw [List.length_set];exact hpl
 rw [Bool.eq_false_iff]
 intro hs
 rw [Tu ok (IL hP hb) a1B] at hs
 have hsj:=hs j hj
 have gj:=a1d ok hP hI lP lI hj (List.all_eq_true.1 hf _ (List.getElem_mem hj))
 obtain ⟨g1,g2,g3,g4⟩:=kH (ok.g j hj)
 have old: ∀i,i<j→zc (Ep l P ((prM (rnM P I l l.length) l l.length).set (j-aD (l.take j) 2) x)) (oS l i)=(rnM P I l l.length).getD i 0:=fun i hi=>by
  rw [←VQ ok lP (I:=I) (by omega:i<l.length),wa ok lP hbl om,wa ok lP hpl om]
  by_cases e:(l[i]'om).Op=2
  ·rw [if_pos e,if_pos e]
  ·have:=Tw hi om e
   rw [if_neg e,if_neg e,List.getD_eq_getElem?_getD,List.getElem?_set,if_neg om, ←List.getD_eq_getElem?_getD]
 have hlt:j-aD (l.take j) 2<(prM (rnM P I l l.length) l l.length).length:=by
  have h3:=mK l (j+1) 2
  rw [co hj,bO,if_neg (by simpa using h2)] at h3
  have l2:aD (l.take j) 2≤j:=by have:=cM (l.take j) 2;rw [List.length_take] at this;omega
  omega
 have new:zc (Ep l P ((prM (rnM P I l l.length) l l.length).set (j-aD (l.take j) 2) x)) (oS l j)=x:=by
  rw [wa ok lP hbl hj,if_neg h2,List.getD_eq_getElem?_getD,List.getElem?_set,if_pos rfl,if_pos hlt];rfl
 rw [new] at hsj
 have hold:(rnM P I l l.length).getD j 0=(prM (rnM P I l l.length) l l.length).getD (j-aD (l.take j) 2) 0:=(Cq hj h2 _ hj (Nat.le_refl _)).symm
 refine hne ?_
 rw [←hold]
 by_cases h3:l[j].Op=3
 ·unfold eqG at hsj gj
  rw [if_neg om,if_neg om,if_neg om,if_neg om,if_pos h3] at hsj gj
  omega
 have a:=g2 om
 rw [old _ om] at hsj
 by_cases h8:l[j].Op=8
 ·unfold eqG at hsj gj
  rw [if_neg om,if_neg om,if_neg om,if_neg om,if_neg om,if_neg om] at hsj gj
  omega
 have b:=g3 om om
 rw [old _ om] at hsj
 exact VS h1 h2 hsj gj
theorem RZ {a b:Int} (ha:okF a) (hb:okF b):F8 a b=some (aF a b,0):=by
 unfold F8 sY
 rw [mi,obs,pj.2 ha,Bool.not_true,aO,mi,obs,pj.2 hb,Bool.not_true,aO,pc ha hb,obs,obs]
theorem wW {l:List ab} (ok:OkC l) {t:List UInt8} {t2 t3 c2 c3:List Int} {c4 c5 c6 c8 c10 c11 c12 c13:Int} {c7:List Ext} {c9:List UInt8} {c14 c15 c16:List ah}:
 ∃L i,Loop (fY t t2 t3 l c2 c3 c4 c5 c6 c7 c8 c9 c10 c11 c12 c13 c14 c15 c16) ([],0,0)=some (L,i)∧L.length≤15∧ ∀x∈L, ∃(j:Nat) (hj:j<l.length),l[j].Op≠1∧l[j].Op≠2∧x=((j-aD (l.take j) 2:Nat):Int):=by
 have hn:=ok.n2
 obtain ⟨⟨L,i⟩,h1,h2,h3⟩:=lv (step:=fY t t2 t3 l c2 c3 c4 c5 c6 c7 c8 c9 c10 c11 c12 c13 c14 c15 c16)
  (fun s=> ∃k:Nat,k≤l.length∧s.2.2=(k:Int)∧s.2.1=((k-aD (l.take k) 2:Nat):Int)∧s.1.length≤k∧ ∀x∈s.1, ∃(j:Nat) (hj:j<l.length),l[j].Op≠1∧l[j].Op≠2∧x=((j-aD (l.take j) 2:Nat):Int)) (fun s=>l.length-s.2.2.toNat)
  (fun e=>e.1.length≤15∧ ∀x∈e.1, ∃(j:Nat) (hj:j<l.length),l[j].Op≠1∧l[j].Op≠2∧x=((j-aD (l.take j) 2:Nat):Int))
  (fun s=>by
   obtain ⟨L,a,i⟩:=s
   rintro ⟨k,hk,e1,e2,e3,hL⟩
   dsimp only at e1 e2 e3 hL
   subst e1 e2
   simp only [fY]
   by_cases c:k<l.length
   ·left
    have l2:aD (l.take k) 2≤k:=by have:=cM (l.take k) 2;rw [List.length_take] at this;omega
    rw [brd om,eJ c,obs,ae ((k:Int)+1) om om,ae _ om om]
    by_cases h2:l[k].Op=2
    ·rw [bre h2]
     refine ⟨_,rfl,⟨k+1,by omega,by dsimp only;omega, ?_,by dsimp only;omega,hL⟩,by dsimp only;omega⟩
     rw [co c,bO,if_pos (by simpa using h2)];dsimp only;omega
    ·rw [aP h2]
     have hc:aD (l.take (k+1)) 2=aD (l.take k) 2:=by rw [co c,bO,if_neg (by simpa using h2)];rfl
     by_cases h1:l[k].Op=1
     ·rw [rr h1]
      exact ⟨_,rfl,⟨k+1,by omega,by dsimp only;omega,by rw [hc];dsimp only;omega,by dsimp only;omega,hL⟩,by dsimp only;omega⟩
     ·rw [brb h1,bh (by simp;omega)]
      refine ⟨_,rfl,⟨k+1,by omega,by dsimp only;omega,by rw [hc];dsimp only;omega,by simp;omega,fun x hx=> ?_⟩,by dsimp only;omega⟩
      rcases List.mem_append.1 hx with hx|hx
      ·exact hL x hx
      ·rw [List.mem_singleton] at hx;subst hx;exact ⟨k,c,h1,h2,rfl⟩
   ·right
    rw [brn om]
    exact ⟨_,rfl,by dsimp only;omega,hL⟩)
  ([],0,0) ⟨0,by omega,rfl,by simp,by simp,fun x hx=>by cases hx⟩
 exact ⟨L,i,h1,h2,h3⟩
theorem Wq {a:List UInt8} {n:Int} (hl:a.length≤1048576) (hn:1≤n): ∃x,FY a 0 n=some x∧0≤x∧x<n:=by
 by_cases c:n=1
 ·subst c;exact ⟨0,by unfold FY;rw [brd om],by omega,by omega⟩
 ·exact Wc hl om om om
theorem law_FnBinds (a b:List UInt8) (ha:bdL bdT a) (hb:bdL bdT b):te a b=some true:=by
 unfold te
 by_cases c1:((a.length:Nat):Int)>1048576
 ·rw [brd c1]
 rw [brn c1]
 by_cases c2:((b.length:Nat):Int)>1048576
 ·rw [brd c2]
 rw [brn c2]
 obtain ⟨l,P,I,t,s,e1,hpv,ht,_,hfew⟩:=EG (code:=a) om
 have ok:=hpv.rc.ok
 have hP:=hpv.rc.hP
 have hI:=hpv.rc.hI
 have lP:P.length=aD l 2:=hpv.rc.lP
 have lI:I.length=aD l 1:=hpv.rc.lI
 have hf:=hpv.fit
 have n2:=cM l 2
 have hl9:=hpv.n9
 have hc:(Circuit.mk l).Gates.length≤1048576:=by show l.length≤_;omega
 rw [e1,obs]
 dsimp only
 have hrun:Ae ⟨l⟩ P I=(rnM P I l l.length,0):=by unfold Ae;rw [if_pos (WN hpv.rc),if_pos hf]
 have hw:VF ⟨l⟩ P I=(P,prM (rnM P I l l.length) l l.length,0):=by unfold VF;rw [hrun];rfl
 rw [AE hc,obs,Aq hc om,obs,if_pos (Fp ok),hw]
 dsimp only
 have hs:=MJ ok
 have hv:=xa ok hP hI lP lI l.length (Nat.le_refl _)
 have hpr:=Hd hv (iH P I l l.length) l.length (Nat.le_refl _)
 have hpl:=Ax (rnM P I l l.length) l
 rw [rr rfl,rr rfl,ae _ om om,rr om]
 obtain ⟨L,i,e3,hL,hx⟩:=wW (l:=l) (t:=b) (t2:=P) (t3:=prM (rnM P I l l.length) l l.length) (c2:=P) (c3:=I) (c4:=t.Rate) (c5:=t.Queries) (c6:=t.Grind) (c7:=s.Script) (c8:=s.At) (c9:=s.State) (c10:=s.Count)
  (c11:=(iq l).Rows) (c12:=(iq l).Cols) (c13:=(iq l).Publics) (c14:=(iq l).A) (c15:=(iq l).B) (c16:=(iq l).C) ok
 rw [e3,obs]
 dsimp only
 by_cases hz:(L.length:Int)=0
 ·rw [bre hz]
 rw [aP hz]
 obtain ⟨q,e4,q0,q1⟩:=Wq (a:=b) (n:=(L.length:Int)) om om
 rw [e4,obs,brd q0,brd om]
 have hq:q.toNat<L.length:=by omega
 rw [List.getElem?_eq_getElem hq,obs]
 obtain ⟨j,hj,h1,h2,e5⟩:=hx _ (List.getElem_mem hq)
 have hlt:j-aD (l.take j) 2<(prM (rnM P I l l.length) l l.length).length:=by
  have h3:=mK l (j+1) 2
  rw [co hj,bO,if_neg (by simpa using h2)] at h3
  have l2:aD (l.take j) 2≤j:=by have:=cM (l.take j) 2;rw [List.length_take] at this;omega
  omega
 rw [e5,List.nil_append,bh om,brd om,Int.toNat_natCast,brd hlt,dw hlt,obs]
 obtain ⟨y,e6,y0,y1⟩:=Wc (a:=b) (i:=1) (n:=90) om om om om
 have ov:=cS hpr hlt
 have ov1:=ov.1
 have ov2:=ov.2
 rw [e6,obs,ae _ om om,RZ ov ⟨by omega,by omega⟩,obs,brd om,brd hlt,obs]
 dsimp only
 have hxo:okF (aF ((prM (rnM P I l l.length) l l.length).getD (j-aD (l.take j) 2) 0) (1+y)):=Bm _ _
 have hb':de ((prM (rnM P I l l.length) l l.length).set (j-aD (l.take j) 2) (aF ((prM (rnM P I l l.length) l l.length).getD (j-aD (l.take j) 2) 0) (1+y))):=fun z hz=>by
  rcases List.mem_or_eq_of_mem_set hz with hz|rfl
  ·exact hpr z hz
  ·exact hxo
 have hbl:((prM (rnM P I l l.length) l l.length).set (j-aD (l.take j) 2) (aF ((prM (rnM P I l l.length) l l.length).getD (j-aD (l.take j) 2) 0) (1+y))).length+aD l 2=l.length:=by rw [List.length_set];exact hpl
 rw [AH ok hP hb' lP hbl,obs]
 dsimp only
 rw [Ab hs (IL hP hb') (by rw [MT];exact NV ok lP hbl),obs,binds ok hP hI lP lI hf hj h1 h2 hxo ?_]
 ·rfl
 ·intro e
  unfold aF at e
  generalize (prM (rnM P I l l.length) l l.length).getD (j-aD (l.take j) 2) 0=v at*
  omega
end Go.AI.Fn
