/- Running a circuit: both sides alike. -/
import Derived.Test.YtgjlndaebhaciaaPv0
set_option linter.unusedVariables false
set_option linter.unusedSimpArgs false
namespace Go.AI.Fn
theorem tF (P I:List Int) (l:List aa) {i:Nat}: ∀{j n:Nat},i<j→j≤n→(rnM P I l n).getD i 0=(rnM P I l j).getD i 0
 |j,n,hi,hn=>by
  induction n with
  |zero=>omega
  |succ n ih=>
   by_cases h:j=n+1
   ·rw [h]
   ·rw [←ih om,rnM,List.getD_eq_getElem?_getD,List.getElem?_append_left (by rw [fL];omega), ←List.getD_eq_getElem?_getD]
theorem GG {P I:List Int} {l:List aa} {j n:Nat} {g:aa} (hg:dL g (j:Int)=true) (hn:j≤n):dW (rnM P I l n) g=dW (rnM P I l j) g:=by
 obtain ⟨g1,g2,g3,g4⟩:=iN hg
 unfold dW
 by_cases h7:g.Op=7
 ·have a:=g2 om
  have b:=g3 om om
  rw [tF P I l (j:=j) om hn,tF P I l (i:=g.B.toNat) (j:=j) om hn]
 ·by_cases h8:g.Op=8
  ·have a:=g2 om
   rw [aP h7,aP h7,tF P I l (j:=j) om hn]
  ·rw [aP h7,aP h7,aP h8,aP h8]
theorem Hs {l:List Int} {p:Nat} (h:p<l.length):atL (l.drop p) 0=some (l.getD p 0):=by
 have:(l.drop p)[0]? =some (l.getD p 0):=by rw [List.getElem?_drop];simp [h]
 simp only [atL]
 rw [if_pos om]
 exact this
theorem Tn {l:List Int} {p:Nat} (h:p<l.length) (hl:l.length≤1099511627776):ik (l.drop p) 1 ((l.drop p).length:Int)=some (l.drop (p+1)):=by
 rw [AZ om (by rw [List.length_drop];omega) om]
 simp only [List.drop_drop,List.length_drop,Option.some.injEq]
 refine List.take_of_length_le ?_
 rw [List.length_drop];omega
theorem xV {P I:List Int} {l c':List aa} {j:Nat} (ok:OkC l) (hP:cX P) (hI:cX I) (lP:P.length=aI l 2) (lI:I.length=aI l 1) (hj:j<l.length):
 cC l (l.length:Int) c' (rnM P I l j,P.drop (aI (l.take j) 2),I.drop (aI (l.take j) 1),(j:Int))=
  if dW (rnM P I l j) l[j]=true then some (.inl (rnM P I l (j+1),P.drop (aI (l.take (j+1)) 2),I.drop (aI (l.take (j+1)) 1),((j+1:Nat):Int))) else some (.inr (.inl (rnM P I l j,l[j].Op,l[j].A,l[j].B,l[j].K))):=by
 have hn:=ok.n2
 have hd:l.getD j ⟨0,0,0,0⟩=l[j]:=by simp [hj]
 obtain ⟨g1,g2,g3,g4⟩:=iN (ok.g j hj)
 have l2:=cU (l.take j) 2
 have l1:=cU (l.take j) 1
 rw [List.length_take] at l1 l2
 have c2:=cU l 2
 have c1:=cU l 1
 have hro:=uL ok hP hI lP lI j om
 have hrl:=fL P I l j
 have t2:=dQ (op:=2) hj
 have t1:=dQ (op:=1) hj
 have ej:IntKind.wrap .i64 ((j:Int)+1)=((j+1:Nat):Int):=by rw [ai _ om om];omega
 simp only [cC]
 rw [brd om,ci hj,obs,dp hj,cF,cF,rnM,hd,ej]
 generalize l[j]=g at*
 generalize rnM P I l j=o at*
 have hfit: ∀v:Int,(o++[v]).length*8≤1099511627776:=fun v=>by rw [List.length_append,hrl];simp;omega
 have hop:g.Op=1∨g.Op=2∨g.Op=4∨g.Op=5∨g.Op=6∨g.Op=7∨g.Op=8∨g.Op=3:=by omega
 rcases hop with h|h|h|h|h|h|h|h
 ·have hf:dW o g=true:=by unfold dW;rw [aP om,aP om];rfl
  rw [if_pos hf,bre h,Hs (by have:=t1 h;omega),obs,Tn (by have:=t1 h;omega) om,obs,bn (hfit _)]
  simp [gvM,h]
 ·have hf:dW o g=true:=by unfold dW;rw [aP om,aP om];rfl
  rw [if_pos hf,aP om,bre h,Hs (by have:=t2 h;omega),obs,Tn (by have:=t2 h;omega) om,obs,bn (hfit _)]
  simp [gvM,h]
 ·have hf:dW o g=true:=by unfold dW;rw [aP om,aP om];rfl
  have a:=g2 om
  have b:=g3 om om
  rw [if_pos hf,aP om,aP om,bre h,brd a.1,brd om,dE om,obs,brd b.1,brd om,dE om,obs,qw (cP hro om) (cP hro om),obs,bn (hfit _)]
  simp [gvM,h]
 ·have hf:dW o g=true:=by unfold dW;rw [aP om,aP om];rfl
  have a:=g2 om
  have b:=g3 om om
  rw [if_pos hf,aP om,aP om,aP om,bre h,brd a.1,brd om,dE om,obs,brd b.1,brd om,dE om,obs,Lc (cP hro om) (cP hro om),obs,bn (hfit _)]
  simp [gvM,h]
 ·have hf:dW o g=true:=by unfold dW;rw [aP om,aP om];rfl
  have a:=g2 om
  have b:=g3 om om
  rw [if_pos hf,aP om,aP om,aP om,aP om,bre h,brd a.1,brd om,dE om,obs,brd b.1,brd om,dE om,obs,wX (cP hro om) (cP hro om),obs,bn (hfit _)]
  simp [gvM,h]
 ·have a:=g2 om
  have b:=g3 om om
  have hf:dW o g=(o.getD g.A.toNat 0==o.getD g.B.toNat 0):=by unfold dW;rw [bre h,aP om,Bool.and_true]
  rw [aP om,aP om,aP om,aP om,aP om,bre h,bre h,brd a.1,brd om,dE om,obs,bre h,brd b.1,brd om,dE om,obs]
  by_cases e:o.getD g.A.toNat 0=o.getD g.B.toNat 0
  ·rw [if_pos (by rw [hf];simpa using e),hQ e,aP om,bn (hfit _)]
   simp [gvM,h]
  ·rw [if_neg (by rw [hf];simpa using e),brb e]
 ·have a:=g2 om
  have hf:dW o g=decide (o.getD g.A.toNat 0≤1):=by unfold dW;rw [aP om,bre h,Bool.true_and]
  rw [aP om,aP om,aP om,aP om,aP om,aP om,bre h,brd a.1,brd om,dE om,obs,aP om,bre h]
  by_cases e:o.getD g.A.toNat 0>1
  ·rw [if_neg (by rw [hf,decide_eq_false om];simp),brd e]
  ·rw [if_pos (by rw [hf,decide_eq_true om]),brn e,bn (hfit _)]
   simp [gvM,h]
 ·have hf:dW o g=true:=by unfold dW;rw [aP om,aP om];rfl
  rw [if_pos hf,aP om,aP om,aP om,aP om,aP om,aP om,aP om,bn (hfit _)]
  simp [gvM,h]
theorem N7 {c:Circuit} {P I:List Int} (ok:OkC c.Gates) (hP:cX P) (hI:cX I) (lP:P.length=aI c.Gates 2) (lI:I.length=aI c.Gates 1):
 gY c P I=some (if c.Gates.all (dW (rnM P I c.Gates c.Gates.length))=true then (rnM P I c.Gates c.Gates.length,true) else ([],false)):=by
 have hn:=ok.n2
 unfold gY
 have key:=mb (step:=cC c.Gates (c.Gates.length:Int) c.Gates) (fun k=>(rnM P I c.Gates k,P.drop (aI (c.Gates.take k) 2),I.drop (aI (c.Gates.take k) 1),(k:Int))) c.Gates.length
  (fun k=>((c.Gates[k]?.map (dW (rnM P I c.Gates k))).getD false)) (fun k=> .inl (rnM P I c.Gates k,(c.Gates.getD k ⟨0,0,0,0⟩).Op,(c.Gates.getD k ⟨0,0,0,0⟩).A,(c.Gates.getD k ⟨0,0,0,0⟩).B,(c.Gates.getD k ⟨0,0,0,0⟩).K))
  (e:= .inr (rnM P I c.Gates c.Gates.length,P.drop (aI (c.Gates.take c.Gates.length) 2),I.drop (aI (c.Gates.take c.Gates.length) 1),(c.Gates.length:Int),false))
  (fun k hk hp=>by
   have hb:dW (rnM P I c.Gates k) c.Gates[k]=true:=by simpa [hk] using hp
   rw [xV ok hP hI lP lI hk,if_pos hb])
  (fun k hk hp=>by
   have hb:dW (rnM P I c.Gates k) c.Gates[k]=false:=by simpa [hk] using hp
   have hd:c.Gates.getD k ⟨0,0,0,0⟩=c.Gates[k]:=by simp [hk]
   rw [xV ok hP hI lP lI hk,if_neg (by rw [hb];simp),hd])
  (by simp only [cC];rw [brn om,decide_eq_false om])
 have h0:((rnM P I c.Gates 0,P.drop (aI (c.Gates.take 0) 2),I.drop (aI (c.Gates.take 0) 1),((0:Nat):Int)):List Int×List Int×List Int×Int)=([],P,I,0):=rfl
 rw [h0] at key
 rcases key with ⟨h2,h3⟩|⟨k,hk,h2,_,h3⟩
 ·have ha:c.Gates.all (dW (rnM P I c.Gates c.Gates.length))=true:=List.all_eq_true.2 fun x hx=>by
   obtain ⟨k,hk,rfl⟩:=List.getElem_of_mem hx
   rw [GG (ok.g k hk) om]
   simpa [hk] using h2 k hk
  rw [h3,if_pos ha,obs,mX]
 ·have ha: ¬c.Gates.all (dW (rnM P I c.Gates c.Gates.length))=true:=by
   rw [Bool.not_eq_true]
   refine List.all_eq_false.2 ⟨c.Gates[k],List.getElem_mem hk, ?_⟩
   rw [GG (ok.g k hk) om]
   simpa [hk] using h2
  rw [h3,if_neg ha,obs,kZ]
def rcC (c:Circuit) (P I:List Int):Int:=
 if P.length>4096 then 2 else if I.length>4096 then 2 else if j4 c.Gates=false then 19 else if P.all pG=false then 1 else if I.all pG=false then 1
 else if P.length≠aI c.Gates 2 then 8 else if I.length≠aI c.Gates 1 then 8 else 0
structure P4 (c:Circuit) (P I:List Int):Prop where
 ok:OkC c.Gates
 hP:cX P
 hI:cX I
 lP:P.length=aI c.Gates 2
 lI:I.length=aI c.Gates 1
theorem Hh {l:List Int} (h:l.all pG=true):cX l:=fun x hx=>tT.1 (List.all_eq_true.1 h x hx)
theorem ud {l:List Int} (h:cX l):l.all pG=true:=List.all_eq_true.2 fun x hx=>tT.2 (h x hx)
theorem F4 {c:Circuit} {P I:List Int} (h:rcC c P I=0):P4 c P I:=by
 unfold rcC at h
 split at h
 ·omega
 split at h
 ·omega
 split at h
 ·omega
 rename_i h3
 split at h
 ·omega
 rename_i h4
 split at h
 ·omega
 rename_i h5
 split at h
 ·omega
 rename_i h6
 split at h
 ·omega
 rename_i h7
 exact ⟨yH (by simpa using h3),Hh (by simpa using h4),Hh (by simpa using h5),by omega,by omega⟩
theorem xw {l:List aa} (h:OkC l):j4 l=true:=by
 unfold j4
 rw [decide_eq_true ⟨h.n1,h.n2⟩,decide_eq_true (by have:=h.p;omega),Bool.true_and,Bool.and_true]
 refine List.all_eq_true.2 fun k hk=> ?_
 have hk:=List.mem_range.1 hk
 simpa [hk] using h.g k hk
theorem Ua {c:Circuit} {P I:List Int} (h:P4 c P I):rcC c P I=0:=by
 have h2:=cU c.Gates 2
 have h1:=cU c.Gates 1
 have hn:=h.ok.n2
 have:=h.lP
 have:=h.lI
 unfold rcC
 rw [if_neg om,if_neg om,xw h.ok,if_neg (by simp),ud h.hP,if_neg (by simp),ud h.hI,if_neg (by simp),if_neg om,if_neg om]
theorem AD {c:Circuit} {P I:List Int} (hc:c.Gates.length≤1048576):nT c P I=some (rcC c P I):=by
 unfold nT rcC
 by_cases h1:P.length>4096
 ·rw [brd om,if_pos h1]
 rw [brn om,if_neg h1]
 by_cases h2:I.length>4096
 ·rw [brd om,if_pos h2]
 rw [brn om,if_neg h2,j0 hc,obs]
 cases j4 c.Gates
 ·rfl
 rw [if_neg (by simp),Bool.not_true,aC,nO om,obs]
 cases P.all pG
 ·rfl
 rw [if_neg (by simp),Bool.not_true,aC,nO om,obs]
 cases I.all pG
 ·rfl
 rw [if_neg (by simp),Bool.not_true,aC,ms hc,obs]
 by_cases h3:P.length=aI c.Gates 2
 ·rw [hQ om,if_neg om,ms hc,obs]
  by_cases h4:I.length=aI c.Gates 1
  ·rw [hQ om,if_neg om]
  ·rw [brb om,if_pos h4]
 ·rw [brb om,if_pos h3]
theorem CO {c:Circuit} {P I:List Int} (hc:c.Gates.length≤1048576):re c P I=some (rcC c P I):=by
 unfold re rcC
 by_cases h1:P.length>4096
 ·rw [brd om,if_pos h1]
 rw [brn om,if_neg h1]
 by_cases h2:I.length>4096
 ·rw [brd om,if_pos h2]
 rw [brn om,if_neg h2,qy hc,obs]
 cases j4 c.Gates
 ·rfl
 rw [if_neg (by simp),Bool.not_true,aC,vz om,obs]
 cases P.all pG
 ·rfl
 rw [if_neg (by simp),Bool.not_true,aC,vz om,obs]
 cases I.all pG
 ·rfl
 rw [if_neg (by simp),Bool.not_true,aC,fV hc,obs]
 by_cases h3:P.length=aI c.Gates 2
 ·rw [hQ om,if_neg om,fV hc,obs]
  by_cases h4:I.length=aI c.Gates 1
  ·rw [hQ om,if_neg om]
  ·rw [brb om,if_pos h4]
 ·rw [brb om,if_pos h3]
def qv (c:Circuit) (P I:List Int):List Int×Int:=
 if rcC c P I=0 then (if c.Gates.all (dW (rnM P I c.Gates c.Gates.length))=true then (rnM P I c.Gates c.Gates.length,0) else ([],15)) else ([],rcC c P I)
theorem oW {c:Circuit} {P I:List Int} (hc:c.Gates.length≤1048576):gz c P I=some (qv c P I):=by
 unfold gz qv
 rw [AD hc,obs]
 by_cases h0:rcC c P I=0
 ·have ok:=F4 h0
  rw [hQ h0,if_pos h0,N7 ok.ok ok.hP ok.hI ok.lP ok.lI,obs]
  by_cases hf:c.Gates.all (dW (rnM P I c.Gates c.Gates.length))=true
  ·rw [if_pos hf,if_pos hf];rfl
  ·rw [if_neg hf,if_neg hf];rfl
 ·rw [brb h0,if_neg h0]
theorem vK {c:Circuit} {P I:List Int} (hc:c.Gates.length≤1048576):iE c P I=some (qv c P I):=by
 unfold iE qv
 by_cases h1:P.length>4096
 ·rw [brd om];simp [rcC,h1]
 rw [brn om]
 by_cases h2:I.length>4096
 ·rw [brd om];simp [rcC,h1,h2]
 rw [brn om,CO hc,obs]
 by_cases h0:rcC c P I=0
 ·have ok:=F4 h0
  rw [hQ h0,if_pos h0,D8 ok.ok ok.hP ok.hI ok.lP ok.lI,obs,AU ok.ok (fL _ _ _ _),obs]
  cases c.Gates.all (dW (rnM P I c.Gates c.Gates.length))
  ·rfl
  ·rfl
 ·rw [brb h0,if_neg h0]
end Go.AI.Fn
set_option linter.unusedVariables false
set_option linter.unusedSimpArgs false
namespace Go.AI.Fn
def zc (z:List Int) (c:Int):Int:=z.getD c.toNat 0
def rS (z:List Int) (r x:Int) (e:ag):Int:=if e.Row=r then aF x (mF e.Value (zc z e.Col)) else x
def rV (z:List Int) (r:Int) (L:List ag):Int:=L.foldl (rS z r) 0
theorem Hu (z:List Int) {k:Nat}: ∀(L:List ag) (T:List Int),(∀e∈L,0≤e.Row∧e.Row<T.length)→(L.foldl (muS z) T).getD k 0=L.foldl (rS z k) (T.getD k 0)
 |[],_,_=>rfl
 |e::L,T,h=>by
  have he:=h e (by simp)
  rw [List.foldl_cons,List.foldl_cons,Hu z L _ (fun x hx=>by rw [muS,List.length_set];exact h x (by simp [hx]))]
  congr 1
  unfold muS rS zc
  by_cases hk:e.Row=(k:Int)
  ·rw [if_pos hk,hk,Int.toNat_natCast,List.getD_eq_getElem?_getD,List.getElem?_set,if_pos rfl,if_pos om];rfl
  ·rw [if_neg hk,List.getD_eq_getElem?_getD,List.getElem?_set,if_neg om, ←List.getD_eq_getElem?_getD]
theorem BO {z:List Int} {n k:Nat} {L:List ag} (h: ∀e∈L,0≤e.Row∧e.Row<((2^n:Nat):Int)):(muM L n z).getD k 0=rV z k L:=by
 rw [muM,Hu z L _ (fun e he=>by rw [List.length_replicate];exact h e he)]
 have:(List.replicate (2^n) (0:Int)).getD k 0=0:=by
  rw [List.getD_eq_getElem?_getD,List.getElem?_replicate];split<;>rfl
 rw [this];rfl
theorem AK {z:List Int} {r:Int}: ∀{L:List ag} {x:Int},(∀e∈L,e.Row≠r)→L.foldl (rS z r) x=x
 |[],_,_=>rfl
 |e::L,x,h=>by rw [List.foldl_cons,rS,if_neg (h e (by simp)),AK (fun e he=>h e (by simp [he]))]
theorem KS (z:List Int) (r:Int) (L N:List ag):rV z r (L++N)=N.foldl (rS z r) (rV z r L):=by rw [rV,List.foldl_append];rfl
theorem tr {z:List Int} {r:Int} {L:List ag} (h: ∀e∈L,e.Row<r):rV z r L=0:=AK fun e he=>by have:=h e he;omega
theorem tl {z:List Int} (h:cX z) (i:Nat):okF (z.getD i 0):=by
 by_cases hi:i<z.length
 ·exact cP h hi
 ·rw [List.getD_eq_getElem?_getD,List.getElem?_eq_none om];exact R2
theorem P2 {x:Int} (h:okF x):mF 1 x=x:=by unfold mF;rw [Int.one_mul];exact Dy h
theorem xJ {x:Int} (h:okF x):mF x 1=x:=by unfold mF;rw [Int.mul_one];exact Dy h
theorem Tq (x:Int):mF 0 x=0:=by unfold mF;rw [Int.zero_mul];rfl
theorem O9 (a b x:Int):mF (aF a b) x=aF (mF a x) (mF b x):=by
 unfold mF aF
 rw [mM1,mA1,mA2,Int.add_mul]
theorem Vu (a b:Int):aF a b=aF b a:=by unfold aF;rw [Int.add_comm]
theorem UY {a b:Int}:aF a (mF 2130706432 b)=sF a b:=by
 unfold aF mF sF
 rw [mA2]
 have:a+2130706432*b=(a-b)+b*2130706433:=by omega
 rw [this,Int.add_mul_emod_self_right]
structure zl (z:List Int) (r:Int) (A A':List ag) (x:Int):Prop where
 old: ∀k,k<r→rV z k A'=rV z k A
 new:rV z r A'=x
 row: ∀e∈A',e.Row<r+1
theorem Ac {z:List Int} {r:Int} {A:List ag} (h: ∀e∈A,e.Row<r):zl z r A A 0:=⟨fun _ _=>rfl,tr h,fun e he=>by have:=h e he;omega⟩
theorem wk {z:List Int} {r x:Int} {A N:List ag} (h: ∀e∈A,e.Row<r) (hN: ∀e∈N,e.Row=r) (hx:N.foldl (rS z r) 0=x):zl z r A (A++N) x:=
 ⟨fun k hk=>by rw [KS];exact AK fun e he=>by have:=hN e he;omega,by rw [KS,tr h];exact hx,fun e he=>by
  rcases List.mem_append.1 he with he|he
  ·have:=h e he;omega
  ·have:=hN e he;omega⟩
theorem dN {z:List Int} {r c v:Int} {A:List ag} (h: ∀e∈A,e.Row<r):zl z r A (enM A r c v) (mF v (zc z c)):=by
 rw [tR h]
 refine wk h (fun e he=>by simp at he;subst he;rfl) ?_
 rw [List.foldl_cons,List.foldl_nil,rS,if_pos rfl,Dw (zI _ _)]
theorem Cd {z:List Int} {r c1 c2 v1 v2:Int} {A:List ag} (h: ∀e∈A,e.Row<r):zl z r A (enM (enM A r c1 v1) r c2 v2) (aF (mF v1 (zc z c1)) (mF v2 (zc z c2))):=by
 rw [tR h,GN h]
 by_cases c:c1>c2
 ·rw [if_pos c]
  refine wk h (fun e he=>by simp at he;rcases he with rfl|rfl<;>rfl) ?_
  rw [List.foldl_cons,List.foldl_cons,List.foldl_nil,rS,rS,if_pos rfl,if_pos rfl,Dw (zI _ _),Vu]
 ·rw [if_neg c]
  by_cases c':c1=c2
  ·rw [if_pos c']
   subst c'
   by_cases c0:aF v1 v2=0
   ·rw [if_pos c0, ←O9,c0,Tq];exact Ac h
   ·rw [if_neg c0]
    refine wk h (fun e he=>by simp at he;subst he;rfl) ?_
    rw [List.foldl_cons,List.foldl_nil,rS,if_pos rfl,Dw (zI _ _),O9]
  ·rw [if_neg c']
   refine wk h (fun e he=>by simp at he;rcases he with rfl|rfl<;>rfl) ?_
   rw [List.foldl_cons,List.foldl_cons,List.foldl_nil,rS,rS,if_pos rfl,if_pos rfl,Dw (zI _ _)]
def JU (z:List Int) (r:Int) (A B C:List ag):Prop:= ∀k:Int,0≤k→k<r→mF (rV z k A) (rV z k B)=rV z k C
theorem ly {z:List Int} {r x y w:Int} {A B C A' B' C':List ag} (hr:0≤r) (a:zl z r A A' x) (b:zl z r B B' y) (c:zl z r C C' w):JU z (r+1) A' B' C'↔JU z r A B C∧mF x y=w:=by
 constructor
 ·intro h
  refine ⟨fun k k0 k1=> ?_, ?_⟩
  ·have:=h k k0 om
   rwa [a.old k k1,b.old k k1,c.old k k1] at this
  ·have:=h r hr om
   rwa [a.new,b.new,c.new] at this
 ·rintro ⟨h,e⟩ k k0 k1
  by_cases hk:k<r
  ·rw [a.old k hk,b.old k hk,c.old k hk];exact h k k0 hk
  ·have:k=r:=by omega
   rw [this,a.new,b.new,c.new];exact e
def eqG (a b c:Int) (g:aa):Prop:=
 if g.Op=1∨g.Op=2 then True else if g.Op=6 then mF a b=c else if g.Op=4 then aF a b=c else if g.Op=5 then sF a b=c
 else if g.Op=3 then g.K=c else if g.Op=7 then b=c∧a=c else mF a a=c∧a=c
structure Pq (r:Int) (A B C:List ag):Prop where
 a: ∀e∈A,e.Row<r
 b: ∀e∈B,e.Row<r
 c: ∀e∈C,e.Row<r
theorem TM {z:List Int} {a b c r:Int} {g:aa} {A B C:List ag} (hr:0≤r) (hz:cX z) (z0:z.getD 0 0=1) (hop:1≤g.Op∧g.Op≤8) (hK:g.Op=3→okF g.K) (h:Pq r A B C):
 (JU z (syM a b c g r A B C).1 (syM a b c g r A B C).2.1 (syM a b c g r A B C).2.2.1 (syM a b c g r A B C).2.2.2↔JU z r A B C∧eqG (zc z a) (zc z b) (zc z c) g)∧
  Pq (syM a b c g r A B C).1 (syM a b c g r A B C).2.1 (syM a b c g r A B C).2.2.1 (syM a b c g r A B C).2.2.2:=by
 have za:okF (zc z a):=tl hz a.toNat
 have zb:okF (zc z b):=tl hz b.toNat
 have zc':okF (zc z c):=tl hz c.toNat
 have e0:zc z 0=1:=z0
 have e1:mF 1 (zc z 0)=1:=by rw [e0];rfl
 have ea:mF 1 (zc z a)=zc z a:=P2 za
 have eb:mF 1 (zc z b)=zc z b:=P2 zb
 have ec:mF 1 (zc z c)=zc z c:=P2 zc'
 unfold syM eqG
 by_cases h1:g.Op=1∨g.Op=2
 ·rw [if_pos h1,if_pos h1];exact ⟨⟨fun h=>⟨h,trivial⟩,fun h=>h.1⟩,h⟩
 rw [if_neg h1,if_neg h1]
 have rows: ∀{r:Int} {A B C A' B' C':List ag} {x y w:Int},zl z r A A' x→zl z r B B' y→zl z r C C' w→Pq (r+1) A' B' C':=fun a b c=>⟨a.row,b.row,c.row⟩
 have xB1:=dN (z:=z) (c:=0) (v:=1) h.b
 have xC1:=dN (z:=z) (c:=c) (v:=1) h.c
 by_cases h6:g.Op=6
 ·rw [if_pos h6,if_pos h6]
  have xA1:=dN (z:=z) (c:=a) (v:=1) h.a
  have xb1:=dN (z:=z) (c:=b) (v:=1) h.b
  refine ⟨?_,rows xA1 xb1 xC1⟩
  have:=ly hr xA1 xb1 xC1
  rwa [ea,eb,ec] at this
 rw [if_neg h6,if_neg h6]
 by_cases h4:g.Op=4
 ·rw [if_pos h4,if_pos h4]
  have xA1:=Cd (z:=z) (c1:=a) (v1:=1) (c2:=b) (v2:=1) h.a
  refine ⟨?_,rows xA1 xB1 xC1⟩
  have:=ly hr xA1 xB1 xC1
  rwa [ea,eb,ec,e1,xJ (Ew _ _)] at this
 rw [if_neg h4,if_neg h4]
 by_cases h5:g.Op=5
 ·rw [if_pos h5,if_pos h5]
  have xA1:=Cd (z:=z) (c1:=a) (v1:=1) (c2:=b) (v2:=2130706432) h.a
  refine ⟨?_,rows xA1 xB1 xC1⟩
  have:=ly hr xA1 xB1 xC1
  rwa [ea,ec,e1,UY,xJ (Tg _ _)] at this
 rw [if_neg h5,if_neg h5]
 by_cases h3:g.Op=3
 ·rw [if_pos h3,if_pos h3]
  have hk:=hK h3
  by_cases hp:g.K>0
  ·rw [if_pos hp]
   have xA1:=dN (z:=z) (c:=0) (v:=g.K) h.a
   refine ⟨?_,rows xA1 xB1 xC1⟩
   have:=ly hr xA1 xB1 xC1
   rwa [e0,xJ hk,ec,show mF 1 1=1 from rfl,xJ hk] at this
  ·rw [if_neg hp]
   have xA1:=Ac (z:=z) h.a
   refine ⟨?_,rows xA1 xB1 xC1⟩
   have:=ly hr xA1 xB1 xC1
   have hz:g.K=0:=by have:=hk.1;omega
   rw [e1,ec,Tq] at this
   rw [hz];exact this
 rw [if_neg h3,if_neg h3]
 by_cases h7:g.Op=7
 ·rw [if_pos h7,if_pos h7]
  have xA1:=dN (z:=z) (c:=b) (v:=1) h.a
  have q:=rows xA1 xB1 xC1
  have pA:=dN (z:=z) (c:=a) (v:=1) q.a
  have pB:=dN (z:=z) (c:=0) (v:=1) q.b
  have pC:=dN (z:=z) (c:=c) (v:=1) q.c
  refine ⟨?_,rows pA pB pC⟩
  have s1:=ly hr xA1 xB1 xC1
  have s2:=ly om pA pB pC
  rw [eb,ec,e1,xJ zb] at s1
  rw [ea,ec,e1,xJ za,s1,and_assoc] at s2
  exact s2
 rw [if_neg h7,if_neg h7]
 have xA1:=dN (z:=z) (c:=a) (v:=1) h.a
 have xb1:=dN (z:=z) (c:=a) (v:=1) h.b
 have q:=rows xA1 xb1 xC1
 have pA:=dN (z:=z) (c:=a) (v:=1) q.a
 have pB:=dN (z:=z) (c:=0) (v:=1) q.b
 have pC:=dN (z:=z) (c:=c) (v:=1) q.c
 refine ⟨?_,rows pA pB pC⟩
 have s1:=ly hr xA1 xb1 xC1
 have s2:=ly om pA pB pC
 rw [ea,ec] at s1
 rw [ea,ec,e1,xJ za,s1,and_assoc] at s2
 exact s2
theorem OP {z:List Int} {l:List aa} (ok:OkC l) (hz:cX z) (z0:z.getD 0 0=1): ∀j,j≤l.length→
 (JU z (fdM l j).1 (fdM l j).2.1 (fdM l j).2.2.1 (fdM l j).2.2.2↔ ∀(i:Nat) (hi:i<l.length),i<j→eqG (zc z (nU l l[i].A.toNat)) (zc z (nU l l[i].B.toNat)) (zc z (nU l i)) l[i])∧Pq (fdM l j).1 (fdM l j).2.1 (fdM l j).2.2.1 (fdM l j).2.2.2
 |0,_=>⟨⟨fun _ i _ h=>by omega,fun _ k k0 k1=>by have:(fdM l 0).1=0:=rfl;omega⟩,⟨(fun e he=>by cases he),(fun e he=>by cases he),(fun e he=>by cases he)⟩⟩
 |j+1,h=>by
  obtain ⟨ih,rw3⟩:=OP ok hz z0 j om
  obtain ⟨_,r0,_⟩:=q5 ok j om
  have hj:j<l.length:=by omega
  have hd:l.getD j ⟨0,0,0,0⟩=l[j]:=by simp [hj]
  obtain ⟨g1,g2,g3,g4⟩:=iN (ok.g j hj)
  obtain ⟨s,q⟩:=TM (a:=(cA l l.length).getD l[j].A.toNat 0) (b:=(cA l l.length).getD l[j].B.toNat 0) (c:=(cA l l.length).getD j 0) (g:=l[j]) r0 hz z0 g1 g4 rw3
  rw [fdM,hd]
  refine ⟨?_,q⟩
  rw [s,ih]
  have key:eqG (zc z ((cA l l.length).getD l[j].A.toNat 0)) (zc z ((cA l l.length).getD l[j].B.toNat 0)) (zc z ((cA l l.length).getD j 0)) l[j]↔eqG (zc z (nU l l[j].A.toNat)) (zc z (nU l l[j].B.toNat)) (zc z (nU l j)) l[j]:=by
   rw [lJ hj]
   by_cases h4:4≤l[j].Op
   ·have a:=g2 h4
    rw [lJ om]
    by_cases h7:l[j].Op≤7
    ·have b:=g3 h4 h7
     rw [lJ om]
    ·unfold eqG
     rw [if_neg om,if_neg om,if_neg om,if_neg om,if_neg om,if_neg om,if_neg om,if_neg om,if_neg om,if_neg om,if_neg om,if_neg om]
   ·unfold eqG
    by_cases h12:l[j].Op=1∨l[j].Op=2
    ·rw [if_pos h12,if_pos h12]
    ·have h3:l[j].Op=3:=by omega
     rw [if_neg h12,if_neg om,if_neg om,if_neg om,if_pos h3,if_neg h12,if_neg om,if_neg om,if_neg om,if_pos h3]
  rw [key]
  constructor
  ·rintro ⟨h1,h2⟩ i hi hlt
   by_cases e:i=j
   ·subst e;exact h2
   ·exact h1 i hi om
  ·intro h
   exact ⟨fun i hi hlt=>h i hi om,h j hj om⟩
end Go.AI.Fn
set_option linter.unusedVariables false
set_option linter.unusedSimpArgs false
namespace Go.AI.Fn
theorem MkR.mat {l:List ag} {row R C:Int} (h:MkR l row C) (hr:row≤R-1) (hl:l.length≤200):ou l R C=true:=by
 refine MY hl fun t=> ?_
 rintro ⟨x,hx,hb⟩
 have hm:x∈l:=List.mem_of_getElem? hx
 obtain ⟨a1,a2,a3,a4,a5,a6⟩:=h.ent x hm
 rcases hb with hb|⟨ht,y,hy,hb⟩
 ·exact hb ⟨⟨a1,by omega⟩,⟨a3,a4⟩,a5,a6⟩
 ·refine hb ?_
  have h1:=(List.getElem?_eq_some_iff.1 hx)
  have h2:=(List.getElem?_eq_some_iff.1 hy)
  obtain ⟨i1,e1⟩:=h1
  obtain ⟨i2,e2⟩:=h2
  have:=List.pairwise_iff_getElem.1 h.srt (t-1) t i2 i1 om
  rwa [e1,e2] at this
theorem LZ {l:List aa} (ok:OkC l):tm (j1 l)=true:=by
 obtain ⟨m,r0,r1⟩:=q5 ok l.length (Nat.le_refl _)
 have hn:=ok.n2
 have hl:=sY l
 have hr:=Uy (fdM l l.length).1
 have hf:=H4 (r:=(fdM l l.length).1) om
 have hg:=FL ok
 unfold tm
 have c1:(j1 l).Rows=((rlM (fdM l l.length).1:Nat):Int):=rfl
 have c2:(j1 l).Cols=((lgC l:Nat):Int):=rfl
 have c3:(j1 l).Publics=((aI l 2:Nat):Int):=rfl
 have e3:((lgC l:Nat):Int)-1=((lgC l-1:Nat):Int):=by omega
 rw [c1,c2,c3,e3,tA om,tA om,tA om]
 have la:=m.la
 have lb:=m.lb
 have lc:=m.lc
 have mA:ou (j1 l).A ((2^rlM (fdM l l.length).1:Nat):Int) ((2^lgC l:Nat):Int)=true:=m.a.mat om (by show (fdM l l.length).2.1.length≤200;omega)
 have mB:ou (j1 l).B ((2^rlM (fdM l l.length).1:Nat):Int) ((2^lgC l:Nat):Int)=true:=m.b.mat om (by show (fdM l l.length).2.2.1.length≤200;omega)
 have mC:ou (j1 l).C ((2^rlM (fdM l l.length).1:Nat):Int) ((2^lgC l:Nat):Int)=true:=m.c.mat om (by show (fdM l l.length).2.2.2.length≤200;omega)
 rw [mA,mB,mC,decide_eq_true om,decide_eq_true om,decide_eq_true om];rfl
theorem xr (l:List aa):wS (j1 l)=2^(lgC l-1):=rfl
theorem NR (l:List aa):(j1 l).Cols.toNat=lgC l:=rfl
theorem tk (l:List aa):(j1 l).Rows.toNat=rlM (fdM l l.length).1:=rfl
theorem oO {L:List ag} {z:List Int} {n:Nat} (hn:n≤20) (hm:OkM L ((2^n:Nat):Int) (z.length:Int)) (hz:cX z):jl L (n:Int) z=some (muM L n z):=by
 have hl:=hm.len
 have hp:2^n≤2^20:=Nat.pow_le_pow_right om hn
 have hp2:(2:Nat)^20=1048576:=by decide
 have h0:(0:Int)≤((2^n:Nat):Int):=Int.natCast_nonneg _
 have h3:((2^n:Nat):Int)≤1048576:=by rw [hp2] at hp;exact Int.ofNat_le.2 hp
 unfold jl
 rw [brd om,tA om,Tl h0 (Int.le_refl _) om,Int.toNat_natCast]
 have key:=eC (step:=fH z L (L.length:Int)) (fun j=>((L.take j).foldl (muS z) (List.replicate (2^n) 0),(j:Int))) L.length (e:=(muM L n z,(L.length:Int),false)) (fun j hj=> ?_) ?_
 ·have:(((L.take 0).foldl (muS z) (List.replicate (2^n) 0),((0:Nat):Int)):List Int×Int)=(List.replicate (2^n) 0,0):=rfl
  rw [←this,key];rfl
 ·obtain ⟨⟨a1,a2⟩,⟨b1,b2⟩,v1,v2⟩:=hm.ent L[j] (List.getElem_mem hj)
  have hT:=BF z (L.take j) (List.replicate (2^n) 0)
  rw [List.length_replicate] at hT
  have hok:cX ((L.take j).foldl (muS z) (List.replicate (2^n) 0)):=FC z _ _ (by
   intro x hx
   rw [List.eq_of_mem_replicate hx]
   exact ⟨by omega,by omega⟩)
  simp only [fH]
  rw [brd om,ci hj,obs,dp hj,List.foldl_append,List.foldl_cons,List.foldl_nil]
  generalize (L.take j).foldl (muS z) (List.replicate (2^n) 0)=T at*
  generalize L[j]=x at*
  rw [brd a1,brd om,dE om,obs,ux b1 om,obs,wX ⟨by omega,by omega⟩ (cP hz om),obs,qw (cP hok om) (zI _ _),obs,brd a1,brd om,obs,ai _ om om,muS];rfl
 ·simp only [fH]
  rw [brn om,decide_eq_false om,List.take_length];rfl
def w6 (s:aS) (z:List Int) (k:Nat):Bool:=mF ((muM s.A s.Rows.toNat z).getD k 0) ((muM s.B s.Rows.toNat z).getD k 0)==(muM s.C s.Rows.toNat z).getD k 0
def BY (s:aS) (z:List Int):Bool:=(List.range (2^s.Rows.toNat)).all (w6 s z)
theorem M5 {s:aS} (h:tm s=true):OkM s.A ((2^s.Rows.toNat:Nat):Int) ((2^s.Cols.toNat:Nat):Int)∧OkM s.B ((2^s.Rows.toNat:Nat):Int) ((2^s.Cols.toNat:Nat):Int)∧OkM s.C ((2^s.Rows.toNat:Nat):Int) ((2^s.Cols.toNat:Nat):Int):=by
 obtain ⟨hR,hC,_⟩:=rv h
 unfold tm at h
 simp only [Bool.and_eq_true,decide_eq_true_eq] at h
 obtain ⟨_,_,_,h4,h5,h6⟩:=h
 have e1:bc .i64 1 s.Rows=((2^s.Rows.toNat:Nat):Int):=by
  have:s.Rows=((s.Rows.toNat:Nat):Int):=by omega
  conv=>lhs;rw [this]
  exact tA om
 have e2:bc .i64 1 s.Cols=((2^s.Cols.toNat:Nat):Int):=by
  have:s.Cols=((s.Cols.toNat:Nat):Int):=by omega
  conv=>lhs;rw [this]
  exact tA om
 rw [e1,e2] at h4 h5 h6
 exact ⟨Ap h4,Ap h5,Ap h6⟩
theorem DK {s:aS} {z:List Int} (h:tm s=true) (hz:cX z) (lz:z.length=2^s.Cols.toNat): ∃r,fF s z=some r∧decide (r<0)=BY s z:=by
 obtain ⟨hA,hB,hC⟩:=M5 h
 obtain ⟨hR,_⟩:=rv h
 have hp:=pN s.Rows.toNat om
 have eR:s.Rows=((s.Rows.toNat:Nat):Int):=by omega
 rw [←lz] at hA hB hC
 unfold fF
 rw [eR,oO om hA hz,obs,oO om hB hz,obs,oO om hC hz,obs,wo]
 have okA:=N1 s.A s.Rows.toNat z
 have okB:=N1 s.B s.Rows.toNat z
 have hlA:=wo s.A s.Rows.toNat z
 have hlB:=wo s.B s.Rows.toNat z
 have hlC:=wo s.C s.Rows.toNat z
 have stp: ∀k:Nat,k<2^s.Rows.toNat→bm (muM s.A s.Rows.toNat z) (muM s.B s.Rows.toNat z) (muM s.C s.Rows.toNat z) ((2^s.Rows.toNat:Nat):Int) ((s.Rows.toNat:Nat):Int) s.Cols s.Publics s.A s.B s.C (k:Int)=if w6 s z k=true then some (.inl ((k+1:Nat):Int)) else some (.inr (.inl (k:Int))):=fun k hk=>by
  simp only [bm]
  rw [brd om,hG om,obs,hG om,obs,wX (cP okA om) (cP okB om),obs,hG om,obs,ai _ om om]
  unfold w6
  by_cases e:mF ((muM s.A s.Rows.toNat z).getD k 0) ((muM s.B s.Rows.toNat z).getD k 0)=(muM s.C s.Rows.toNat z).getD k 0
  ·rw [hQ e,if_pos (by simpa using e)];rfl
  ·rw [brb e,if_neg (by simpa using e)]
 have key:=mb (step:=bm (muM s.A s.Rows.toNat z) (muM s.B s.Rows.toNat z) (muM s.C s.Rows.toNat z) ((2^s.Rows.toNat:Nat):Int) ((s.Rows.toNat:Nat):Int) s.Cols s.Publics s.A s.B s.C) (fun k=>(k:Int)) (2^s.Rows.toNat) (w6 s z) (fun k=> .inl (k:Int)) (e:= .inr (((2^s.Rows.toNat:Nat):Int),false))
  (fun k hk hp=>by rw [stp k hk,if_pos hp]) (fun k hk hp=>by rw [stp k hk,if_neg (by rw [hp];simp)]) (by simp only [bm];rw [brn om,decide_eq_false om])
 rcases key with ⟨h2,h3⟩|⟨k,hk,h2,_,h3⟩
 ·have h4:Loop (bm (muM s.A s.Rows.toNat z) (muM s.B s.Rows.toNat z) (muM s.C s.Rows.toNat z) ((2^s.Rows.toNat:Nat):Int) ((s.Rows.toNat:Nat):Int) s.Cols s.Publics s.A s.B s.C) 0=_:=h3
  refine ⟨-1,by rw [h4,obs,mX], ?_⟩
  have:BY s z=true:=List.all_eq_true.2 fun k hk=>h2 k (List.mem_range.1 hk)
  rw [this];rfl
 ·have h4:Loop (bm (muM s.A s.Rows.toNat z) (muM s.B s.Rows.toNat z) (muM s.C s.Rows.toNat z) ((2^s.Rows.toNat:Nat):Int) ((s.Rows.toNat:Nat):Int) s.Cols s.Publics s.A s.B s.C) 0=_:=h3
  refine ⟨(k:Int),by rw [h4,obs,kZ], ?_⟩
  have:BY s z=false:=List.all_eq_false.2 ⟨k,List.mem_range.2 hk,by rw [h2];simp⟩
  rw [this,decide_eq_false om]
theorem xq {s:aS} {z:List Int} (h:tm s=true) (hz:cX z) (lz:z.length=2^s.Cols.toNat):jK s z=some (BY s z,0):=by
 obtain ⟨hR,hC,_,lA,lB,lC⟩:=rv h
 have hp:=pN s.Cols.toNat om
 obtain ⟨r,e,hr⟩:=DK h hz lz
 have e2:bc .i64 1 s.Cols=((2^s.Cols.toNat:Nat):Int):=by
  have:s.Cols=((s.Cols.toNat:Nat):Int):=by omega
  conv=>lhs;rw [this]
  exact tA om
 unfold jK jB
 rw [brn om,nu om om om,obs,h,Bool.not_true,aC,nO om,obs,ud hz,Bool.not_true,aC,brd om,e2,hQ om,obs,hQ rfl,e,obs,hr]
theorem Of {s:aS} {z:List Int}:BY s z=true↔ ∀k,k<2^s.Rows.toNat→mF ((muM s.A s.Rows.toNat z).getD k 0) ((muM s.B s.Rows.toNat z).getD k 0)=(muM s.C s.Rows.toNat z).getD k 0:=by
 unfold BY w6
 rw [List.all_eq_true]
 constructor
 ·intro h k hk;simpa using h k (List.mem_range.2 hk)
 ·intro h k hk;simpa using h k (List.mem_range.1 hk)
theorem Pz {l:List aa} {z:List Int} (ok:OkC l) (hz:cX z) (z0:z.getD 0 0=1):
 BY (j1 l) z=true↔ ∀(i:Nat) (hi:i<l.length),eqG (zc z (nU l l[i].A.toNat)) (zc z (nU l l[i].B.toNat)) (zc z (nU l i)) l[i]:=by
 obtain ⟨m,r0,r1⟩:=q5 ok l.length (Nat.le_refl _)
 obtain ⟨hs,rw3⟩:=OP ok hz z0 l.length (Nat.le_refl _)
 have hn:=ok.n2
 have hf:=H4 (r:=(fdM l l.length).1) om
 have gA: ∀k,k<2^(j1 l).Rows.toNat→(muM (j1 l).A (j1 l).Rows.toNat z).getD k 0=rV z k (fdM l l.length).2.1:=fun k hk=>BO fun e he=>by
  have h1:=rw3.a e he
  obtain ⟨a1,_⟩:=m.a.ent e he
  refine ⟨a1, ?_⟩
  rw [tk];omega
 have gB: ∀k,k<2^(j1 l).Rows.toNat→(muM (j1 l).B (j1 l).Rows.toNat z).getD k 0=rV z k (fdM l l.length).2.2.1:=fun k hk=>BO fun e he=>by
  have h1:=rw3.b e he
  obtain ⟨a1,_⟩:=m.b.ent e he
  refine ⟨a1, ?_⟩
  rw [tk];omega
 have gC: ∀k,k<2^(j1 l).Rows.toNat→(muM (j1 l).C (j1 l).Rows.toNat z).getD k 0=rV z k (fdM l l.length).2.2.2:=fun k hk=>BO fun e he=>by
  have h1:=rw3.c e he
  obtain ⟨a1,_⟩:=m.c.ent e he
  refine ⟨a1, ?_⟩
  rw [tk];omega
 have step:BY (j1 l) z=true↔JU z (fdM l l.length).1 (fdM l l.length).2.1 (fdM l l.length).2.2.1 (fdM l l.length).2.2.2:=by
  rw [Of]
  constructor
  ·intro h k k0 k1
   have hk:k.toNat<2^(j1 l).Rows.toNat:=by rw [tk];omega
   have:=h k.toNat hk
   rw [gA _ hk,gB _ hk,gC _ hk] at this
   rwa [show ((k.toNat:Nat):Int)=k by omega] at this
  ·intro h k hk
   rw [gA _ hk,gB _ hk,gC _ hk]
   by_cases c:(k:Int)<(fdM l l.length).1
   ·exact h k om c
   ·rw [tr (fun e he=>by have:=rw3.a e he;omega),tr (fun e he=>by have:=rw3.b e he;omega),tr (fun e he=>by have:=rw3.c e he;omega)];rfl
 rw [step,hs]
 exact ⟨fun h i hi=>h i hi hi,fun h i hi _=>h i hi⟩
end Go.AI.Fn
set_option linter.unusedVariables false
set_option linter.unusedSimpArgs false
namespace Go.AI.Fn
theorem Xc {h n:Nat} {P pr:List Int}:(uR h n P pr).getD 0 0=1:=rfl
theorem Sd {h n i:Nat} {P pr:List Int} (hi:i<P.length):(uR h n P pr).getD (i+1) 0=P.getD i 0:=by
 rw [uR,List.getD_eq_getElem?_getD,List.getElem?_append_left (by simp;omega),List.getElem?_append_left (by simp;omega),List.getElem?_cons_succ, ←List.getD_eq_getElem?_getD]
theorem MO {h n i:Nat} {P pr:List Int} (h1:P.length+1≤h) (hi:i<pr.length):(uR h n P pr).getD (h+i) 0=pr.getD i 0:=by
 have hl:((1::P)++List.replicate (h-1-P.length) (0:Int)).length=h:=by simp;omega
 rw [uR,List.getD_eq_getElem?_getD,List.getElem?_append_right om,hl,List.getElem?_append_left om,Nat.add_sub_cancel_left, ←List.getD_eq_getElem?_getD]
def Kg (l:List aa) (P pr:List Int):List Int:=uR (2^(lgC l-1)) (2^lgC l) P pr
theorem BB {l:List aa} (ok:OkC l) {P pr:List Int} (lP:P.length=aI l 2) (lp:pr.length+aI l 2=l.length):P.length+1≤2^(lgC l-1)∧pr.length≤2^(lgC l-1)∧2^lgC l=2^(lgC l-1)+2^(lgC l-1)∧2^lgC l≤32:=by
 have hf:=FL ok
 have hg:=sY l
 have hp:=wL (n:=lgC l) om
 have h5:=pN (lgC l) om
 omega
theorem Kw {l:List aa} (ok:OkC l) {P pr:List Int} (lP:P.length=aI l 2) (lp:pr.length+aI l 2=l.length) {j:Nat} (hj:j<l.length):
 zc (Kg l P pr) (nU l j)=if l[j].Op=2 then P.getD (aI (l.take j) 2) 0 else pr.getD (j-aI (l.take j) 2) 0:=by
 obtain ⟨s1,s2,s3,s4⟩:=BB ok lP lp
 have l2:aI (l.take j) 2≤j:=by have:=cU (l.take j) 2;rw [List.length_take] at this;omega
 unfold zc nU
 rw [show l.getD j ⟨0,0,0,0⟩=l[j] by simp [hj]]
 by_cases h:l[j].Op=2
 ·have:=dQ hj h
  rw [if_pos h,if_pos h,show ((aI (l.take j) 2:Int)+1).toNat=aI (l.take j) 2+1 by omega]
  exact Sd om
 ·have h2:=uT l (j+1) 2
  rw [dp hj,cF,if_neg (by simpa using h)] at h2
  rw [if_neg h,if_neg h,show (((2^(lgC l-1):Nat):Int)+((j:Int)-(aI (l.take j) 2:Int))).toNat=2^(lgC l-1)+(j-aI (l.take j) 2) by omega]
  exact MO om om
theorem Hk {v:List Int} {l:List aa} {j:Nat} (hj:j<l.length) (h:l[j].Op≠2): ∀n,j<n→n≤l.length→(prM v l n).getD (j-aI (l.take j) 2) 0=v.getD j 0
 |0,h0,_=>by omega
 |n+1,h0,hn=>by
  have hl:=rj v l n om
  have hlj:=rj v l j om
  by_cases e:j=n
  ·subst e
   have hd:l.getD j ⟨0,0,0,0⟩=l[j]:=by simp [hj]
   rw [prM,hd,if_neg h,List.getD_eq_getElem?_getD,List.getElem?_append_right om,show j-aI (l.take j) 2-(prM v l j).length=0 by omega];rfl
  ·have ih:=Hk (v:=v) hj h n om om
   have h1:=rj v l (j+1) om
   have hlt:j-aI (l.take j) 2<(prM v l n).length:=by
    have h2:=uT (l.take n) (j+1) 2
    rw [List.take_take,Nat.min_eq_left om,dp hj,cF,if_neg (by simpa using h),List.length_take] at h2
    have l2:aI (l.take j) 2≤j:=by have:=cU (l.take j) 2;rw [List.length_take] at this;omega
    omega
   rw [prM,List.getD_eq_getElem?_getD,List.getElem?_append_left hlt, ←List.getD_eq_getElem?_getD,ih]
theorem Dn (v:List Int) (l:List aa):(prM v l l.length).length+aI l 2=l.length:=by
 have:=rj v l l.length (Nat.le_refl _)
 rwa [List.take_length] at this
theorem Lf (P I:List Int) (l:List aa) {j n:Nat} (hj:j<n) (hl:j<l.length):(rnM P I l n).getD j 0=gvM P I (rnM P I l j) (aI (l.take j) 2) (aI (l.take j) 1) l[j]:=by
 have hd:l.getD j ⟨0,0,0,0⟩=l[j]:=by simp [hl]
 rw [tF P I l (j:=j+1) om om,rnM,hd,List.getD_eq_getElem?_getD,List.getElem?_append_right (by rw [fL];omega),fL,Nat.sub_self];rfl
theorem BQ {l:List aa} (ok:OkC l) {P I:List Int} (lP:P.length=aI l 2) {j:Nat} (hj:j<l.length):
 zc (Kg l P (prM (rnM P I l l.length) l l.length)) (nU l j)=(rnM P I l l.length).getD j 0:=by
 rw [Kw ok lP (Dn _ _) hj]
 by_cases h:l[j].Op=2
 ·rw [if_pos h,Lf P I l hj hj]
  unfold gvM
  rw [if_neg om,if_pos h]
 ·rw [if_neg h,Hk hj h _ hj (Nat.le_refl _)]
theorem Xy {P I:List Int} {l:List aa} {j:Nat} (ok:OkC l) (hP:cX P) (hI:cX I) (lP:P.length=aI l 2) (lI:I.length=aI l 1) (hj:j<l.length) (hf:dW (rnM P I l l.length) l[j]=true):
 eqG ((rnM P I l l.length).getD l[j].A.toNat 0) ((rnM P I l l.length).getD l[j].B.toNat 0) ((rnM P I l l.length).getD j 0) l[j]:=by
 obtain ⟨g1,g2,g3,g4⟩:=iN (ok.g j hj)
 have hv:=uL ok hP hI lP lI l.length (Nat.le_refl _)
 have hlen:=fL P I l l.length
 rw [Lf P I l (n:=l.length) hj hj]
 have ga: ∀i:Nat,i<j→(rnM P I l j).getD i 0=(rnM P I l l.length).getD i 0:=fun i hi=>(tF P I l hi om).symm
 unfold eqG gvM
 by_cases h12:l[j].Op=1∨l[j].Op=2
 ·rw [if_pos h12];trivial
 rw [if_neg h12,if_neg (show ¬l[j].Op=1 by omega),if_neg (show ¬l[j].Op=2 by omega)]
 by_cases h3:l[j].Op=3
 ·rw [if_neg om,if_neg om,if_neg om,if_pos h3,if_pos h3]
 have a:=g2 om
 rw [ga l[j].A.toNat om]
 by_cases h8:l[j].Op=8
 ·rw [if_neg om,if_neg om,if_neg om,if_neg h3,if_neg om,if_neg h3,if_neg om,if_neg om,if_neg om]
  refine ⟨?_,rfl⟩
  unfold dW at hf
  rw [aP om,bre h8,Bool.true_and,decide_eq_true_eq] at hf
  have h0:=(tl hv l[j].A.toNat).1
  have:(rnM P I l l.length).getD l[j].A.toNat 0=0∨(rnM P I l l.length).getD l[j].A.toNat 0=1:=by omega
  rcases this with e|e<;>rw [e]<;>rfl
 have b:=g3 om om
 rw [ga l[j].B.toNat om]
 by_cases h6:l[j].Op=6
 ·rw [if_pos h6,if_neg h3,if_neg om,if_neg om,if_pos h6]
 rw [if_neg h6]
 by_cases h4:l[j].Op=4
 ·rw [if_pos h4,if_neg h3,if_pos h4]
 rw [if_neg h4]
 by_cases h5:l[j].Op=5
 ·rw [if_pos h5,if_neg h3,if_neg h4,if_pos h5]
 have h7:l[j].Op=7:=by omega
 rw [if_neg h5,if_neg h3,if_pos h7,if_neg h3,if_neg h4,if_neg h5,if_neg h6]
 unfold dW at hf
 rw [bre h7,aP om,Bool.and_true,beq_iff_eq] at hf
 exact ⟨hf.symm,rfl⟩
theorem Hb {l:List aa} {P pr:List Int} (hP:cX P) (hp:cX pr):cX (Kg l P pr):=R6 hP hp
theorem Oj {l:List aa} (ok:OkC l) {P pr:List Int} (lP:P.length=aI l 2) (lp:pr.length+aI l 2=l.length):(Kg l P pr).length=2^lgC l:=by
 obtain ⟨s1,s2,s3,s4⟩:=BB ok lP lp
 exact NF s1 om om
theorem QE {l:List aa} (ok:OkC l) {P I:List Int} (hP:cX P) (hI:cX I) (lP:P.length=aI l 2) (lI:I.length=aI l 1) (hf:l.all (dW (rnM P I l l.length))=true):
 BY (j1 l) (Kg l P (prM (rnM P I l l.length) l l.length))=true:=by
 have hv:=uL ok hP hI lP lI l.length (Nat.le_refl _)
 have hpr:=FT hv (fL P I l l.length) l.length (Nat.le_refl _)
 rw [Pz ok (Hb hP hpr) Xc]
 intro i hi
 obtain ⟨g1,g2,g3,g4⟩:=iN (ok.g i hi)
 have:=Xy ok hP hI lP lI hi (List.all_eq_true.1 hf _ (List.getElem_mem hi))
 rw [BQ ok lP hi]
 by_cases h4:4≤l[i].Op
 ·have a:=g2 h4
  rw [BQ ok lP (by omega:l[i].A.toNat<l.length)]
  by_cases h7:l[i].Op≤7
  ·have b:=g3 h4 h7
   rw [BQ ok lP (by omega:l[i].B.toNat<l.length)]
   exact this
  ·unfold eqG at this ⊢
   rw [if_neg om,if_neg om,if_neg om,if_neg om,if_neg om,if_neg om] at this ⊢
   exact this
 ·unfold eqG at this ⊢
  by_cases h12:l[i].Op=1∨l[i].Op=2
  ·rw [if_pos h12];trivial
  ·have h3:l[i].Op=3:=by omega
   rw [if_neg h12,if_neg om,if_neg om,if_neg om,if_pos h3] at this ⊢
   exact this
theorem DX {c:Circuit} {v:List Int} (ok:OkC c.Gates) (hv:v.length=c.Gates.length):eG c v=some (prM v c.Gates c.Gates.length):=by
 have hn:=ok.n2
 unfold eG
 have key:=eC (step:=cn v c.Gates (c.Gates.length:Int) c.Gates) (fun j=>(prM v c.Gates j,(j:Int))) c.Gates.length (e:=(prM v c.Gates c.Gates.length,(c.Gates.length:Int),false)) (fun j hj=> ?_) ?_
 ·have:((prM v c.Gates 0,((0:Nat):Int)):List Int×Int)=([],0):=rfl
  rw [←this,key];rfl
 ·have hd:c.Gates.getD j ⟨0,0,0,0⟩=c.Gates[j]:=by simp [hj]
  have hl:=rj v c.Gates j om
  simp only [cn]
  rw [brd om,ci hj,obs,prM,hd,ai _ om om]
  by_cases h2:c.Gates[j].Op=2
  ·rw [hQ h2,if_pos h2,List.append_nil];rfl
  ·rw [brb h2,if_neg h2,hG om,obs,bn (by simp;omega)];rfl
 ·simp only [cn]
  rw [brn om,decide_eq_false om]
def Ja (c:Circuit) (P I:List Int):List Int×List Int×Int:=
 if (qv c P I).2=0 then (P,prM (qv c P I).1 c.Gates c.Gates.length,0) else ([],[],(qv c P I).2)
theorem Fo {c:Circuit} {P I:List Int} (h:(qv c P I).2=0):P4 c P I∧c.Gates.all (dW (rnM P I c.Gates c.Gates.length))=true∧qv c P I=(rnM P I c.Gates c.Gates.length,0):=by
 unfold qv at h ⊢
 split at h
 ·rename_i h0
  rw [if_pos h0]
  split at h
  ·rename_i h1;exact ⟨F4 h0,h1,by rw [if_pos h1]⟩
  ·simp at h
 ·rename_i h0;exact absurd h h0
theorem yz {c:Circuit} {P I:List Int} (hc:c.Gates.length≤1048576) (hP:P.length≤1048576):jN c P I=some (Ja c P I):=by
 unfold jN Ja
 rw [oW hc,obs]
 by_cases h:(qv c P I).2=0
 ·obtain ⟨k,hf,e⟩:=Fo h
  rw [hQ h,if_pos h,dF,bn om,obs,DX k.ok (by rw [e];exact fL _ _ _ _),obs]
 ·rw [brb h,if_neg h]
theorem zi {l:List aa} (ok:OkC l) {P pr:List Int} (hP:cX P) (hp:cX pr) (lP:P.length=aI l 2) (lp:pr.length+aI l 2=l.length):mg (j1 l) P pr=some (Kg l P pr,0):=by
 obtain ⟨s1,s2,s3,s4⟩:=BB ok lP lp
 have hs:=LZ ok
 obtain ⟨_,_,_,lA,lB,lC⟩:=rv hs
 unfold mg
 rw [brn om,brn om,nu om om om,obs,hs,Bool.not_true,aC,nO om,obs,ud hP,Bool.not_true,aC,
  nO om,obs,ud hp,Bool.not_true,aC,hQ (by show (P.length:Int)=((aI l 2:Nat):Int);omega),A8 hs,obs,xr,brn om,CR hs (by rw [xr];omega) (by rw [xr];omega),obs]
 rfl
theorem Ba {c:Circuit} {op:Int} (ok:OkC c.Gates) (ho:1≤op∧op≤8):nL c op=some ((aI c.Gates op:Int),0):=by
 have hn:=ok.n2
 unfold nL
 rw [j0 om,obs,xw ok,Bool.not_true,aC,DC,obs,decide_eq_true ho,Bool.not_true,aC,ms om,obs]
theorem HZ {l:List Int} (hl:l.length≤1000000):mw l l=some true:=by
 unfold mw
 have key:Loop (dy l l) 0=some (.inr ((l.length:Int),false)):=
  eC (step:=dy l l) (fun j=>(j:Int)) l.length (fun j hj=>by
   simp only [dy]
   rw [brd om,ci hj,obs,obs,hQ rfl,ai _ om om];rfl) (by
   simp only [dy]
   rw [brn om,decide_eq_false om])
 rw [hQ rfl,key];rfl
theorem oj {l:List ag} (hl:l.length≤1000000):dX l l=some true:=by
 unfold dX
 have key:Loop (cE l l) 0=some (.inr ((l.length:Int),false)):=
  eC (step:=cE l l) (fun j=>(j:Int)) l.length (fun j hj=>by
   simp only [cE]
   rw [brd om,ci hj,obs,obs,bre rfl,bre rfl,bre rfl,ai _ om om];rfl) (by
   simp only [cE]
   rw [brn om,decide_eq_false om])
 rw [hQ rfl,key];rfl
end Go.AI.Fn
set_option linter.unusedVariables false
namespace Go.AI.Fn
theorem Cx {l:List aa} {P I:List Int} (ok:P4 ⟨l⟩ P I) (h:(qv ⟨l⟩ P I).2≠0):qv ⟨l⟩ P I=([],15):=by
 unfold qv at h ⊢
 rw [if_pos (Ua ok)] at h ⊢
 split at h
 ·exact absurd rfl h
 ·rename_i h1;rw [if_neg h1]
theorem law_FnCircuit (a b:List UInt8) (ha:bdL bdT a) (hb:bdL bdT b):ni a b=some true:=by
 unfold ni
 by_cases c1:((a.length:Nat):Int)>1048576
 ·rw [brd c1]
 rw [brn c1]
 by_cases c2:((b.length:Nat):Int)>1048576
 ·rw [brd c2]
 rw [brn c2]
 obtain ⟨l,e1,ok,l9,_⟩:=BN (code:=a) om
 obtain ⟨P,I,e2,hP,hI,lP,lI⟩:=Cp (code:=b) om (l:=l) om
 have n2:=cU l 2
 have k:P4 ⟨l⟩ P I:=⟨ok,hP,hI,lP,lI⟩
 have hc:(Circuit.mk l).Gates.length≤1048576:=by show l.length≤_;omega
 rw [e1,obs,e2,obs]
 dsimp only
 rw [oW hc,obs,vK hc,obs,yP hc,obs,zt hc,obs,yz hc om,obs,Ba (c:=⟨l⟩) ok om,obs,j0 hc,obs]
 have hb:j4 (Circuit.mk l).Gates=true:=xw ok
 rw [hb,if_pos rfl]
 dsimp only
 have hs:=LZ ok
 obtain ⟨_,_,_,lA,lB,lC⟩:=rv hs
 have lr:(qv ⟨l⟩ P I).1.length≤1000:=by
  by_cases h:(qv ⟨l⟩ P I).2=0
  ·obtain ⟨_,_,e⟩:=Fo h
   rw [e];show (rnM _ _ _ _).length≤1000;rw [fL];show l.length≤_;omega
  ·rw [Cx k h];simp
 rw [Bool.not_true,aC,hQ rfl,HZ om,obs,Bool.not_true,aC,hQ rfl,nu om om om,obs,hs,Bool.not_true,aC,hQ rfl,hQ rfl,hQ rfl,
  oj om,obs,Bool.not_true,aC,oj om,obs,Bool.not_true,aC,oj om,obs,Bool.not_true,aC]
 by_cases h:(qv ⟨l⟩ P I).2=0
 ·obtain ⟨_,hf,e⟩:=Fo h
  have hw:Ja ⟨l⟩ P I=(P,prM (rnM P I l l.length) l l.length,0):=by unfold Ja;rw [if_pos h,e]
  have hv:=uL ok hP hI lP lI l.length (Nat.le_refl _)
  have hpr:=FT hv (fL P I l l.length) l.length (Nat.le_refl _)
  have hpl:=Dn (rnM P I l l.length) l
  rw [hw,e]
  dsimp only
  rw [hQ rfl,hQ rfl,hQ om,hQ rfl,zi ok hP hpr lP hpl,obs]
  dsimp only
  rw [xq hs (Hb hP hpr) (by rw [NR];exact Oj ok lP hpl),obs,QE ok hP hI lP lI hf]
  dsimp only
  rw [bre rfl,bre rfl,bC,fL,bre rfl,ai _ om om]
  have:(P.length:Int)+((prM (rnM P I l l.length) l l.length).length:Int)=(l.length:Int):=by omega
  rw [this];simp
 ·have e:=Cx k h
  have hw:Ja ⟨l⟩ P I=([],[],15):=by unfold Ja;rw [if_neg h,e]
  rw [hw,e]
  dsimp only
  rw [hQ rfl,hQ rfl,hQ om,brb om,bre rfl];rfl
end Go.AI.Fn
